/-
  ref11: named.
-/
import Derived.Test.YtmopichdofgndaaGreatDoorJnRtX
import Derived.Deep.RegionHeld2
set_option linter.unusedVariables false
set_option linter.unusedSimpArgs false
set_option maxHeartbeats 3200000
set_option maxRecDepth 100000
namespace Go.Proofs.YtmopichdofgndaaGreatDoor
open Go.RowKit Go.Shelf

def mnI (nm:ByteArray) (ws:Wl):Int:=((fdW nm ws).getD (0,0)).2
def nmdI (ws:Wl) (k:Int) (nm:ByteArray) (na:Int):Int:=
 if k=2∨k=4 then isI nm 1 ws else if k=3 then isI nm 2 ws else if k=9 then(if isI nm 3 ws=0∧mnI nm ws≠na then 114 else isI nm 3 ws)else 0
theorem rnamed_no (ws:Wl) (k:Int) (hk:k≠2∧k≠4∧k≠3∧k≠9) (nm:ByteArray) (A2 A3 A4 A5:Option Addr) (l2 l3 l4 l5 q2 q3 q4 q5:Nat) (at_:Int) (w:World) (An Ak Am:Option Addr) (cn ck cm:Nat) (hl2:l2≤9223372036854775807) (hw:WdR w ws An Ak Am cn ck cm):
  Calls Tryz.prog 155 #[wdV ws An Ak Am cn ck cm,.agg #[.int .u8 k,.string nm,.slice A2 l2 q2,.slice A3 l3 q3,.slice A4 l4 q4,.slice A5 l5 q5,.int .i64 at_]] w (IntPost (nmdI ws k nm l2) w):=by
 have h1:=fun(W:World) (kind:Int) (hf:Fr NoT w W)=>ris_any ws nm kind W An Ak Am cn ck cm (hw.keep hf)
 have h0:=fun(W:World) (hf:Fr NoT w W)=>rat_any ws nm W An Ak Am cn ck cm (hw.keep hf)
 have hlw:ws.length≤9223372036854775807:=by have:=hw.names.1;have:=hw.names.2.1;simp at*;omega
 obtain⟨R,hR⟩:=nmq (nmdI ws k nm l2)
 rw[←hR]
 unfold nmdI at hR
 unfold wdV at h0 h1 ⊢
 obtain⟨m,hm⟩:=nmq ws.length
 rw[←hm]at h0 h1 hlw ⊢
 have HM:=hdq hm
 have HWD:=hdq hw
 obtain⟨w1,hw1⟩:=nmq ((w.alloc (.cells #[.slice An m cn,.slice Ak m ck,.slice Am m cm] 164)).alloc (.cells #[.int .u8 k,.string nm,.slice A2 l2 q2,.slice A3 l3 q3,.slice A4 l4 q4,.slice A5 l5 q5,.int .i64 at_] 39))
 have HK1:=hdq (show Bk w1 w.heap.size 164 #[.slice An m cn,.slice Ak m ck,.slice Am m cm]from by rw[hw1];exact(Bk.new _ _ _).fr0 ((Fr.refl _ _).alloc _))
 have HK2:=hdq (show Bk w1 (w.heap.size+1) 39 #[.int .u8 k,.string nm,.slice A2 l2 q2,.slice A3 l3 q3,.slice A4 l4 q4,.slice A5 l5 q5,.int .i64 at_]from by rw[hw1];have:=Bk.new (w.alloc (.cells #[.slice An m cn,.slice Ak m ck,.slice Am m cm] 164)) 39 #[.int .u8 k,.string nm,.slice A2 l2 q2,.slice A3 l3 q3,.slice A4 l4 q4,.slice A5 l5 q5,.int .i64 at_];simpa using this)
 have HF1:=hdq (show Fr NoT w w1 from by rw[hw1];exact((Fr.refl _ _).alloc _).alloc _)
 have HW1:=hdq hw1
 have H1:=hdq h1
 have H0:=hdq h0
 clear hw h1 h0 hm hw1
 have HR:=hdq (show R=0 from by rw[hR,if_neg (by omega),if_neg hk.2.2.1,if_neg hk.2.2.2])
 have g2:(k==2)=false:=by simpa using hk.1
 have g4:(k==4)=false:=by simpa using hk.2.1
 have g3:(k==3)=false:=by simpa using hk.2.2.1
 have g9:(k==9)=false:=by simpa using hk.2.2.2
 clear hR hk
 go_enter Tryz.func155,Tryz.ntmps155
 go_wp2_with fail
 rw[←HW1.out]
 go_ret
 exact⟨by rw[HR.out];rfl,HF1.out⟩
theorem rnamed_k2 (ws:Wl) (k:Int) (hk:k=2) (nm:ByteArray) (A2 A3 A4 A5:Option Addr) (l2 l3 l4 l5 q2 q3 q4 q5:Nat) (at_:Int) (w:World) (An Ak Am:Option Addr) (cn ck cm:Nat) (hl2:l2≤9223372036854775807) (hw:WdR w ws An Ak Am cn ck cm):
  Calls Tryz.prog 155 #[wdV ws An Ak Am cn ck cm,.agg #[.int .u8 k,.string nm,.slice A2 l2 q2,.slice A3 l3 q3,.slice A4 l4 q4,.slice A5 l5 q5,.int .i64 at_]] w (IntPost (nmdI ws k nm l2) w):=by
 have h1:=fun(W:World) (kind:Int) (hf:Fr NoT w W)=>ris_any ws nm kind W An Ak Am cn ck cm (hw.keep hf)
 have h0:=fun(W:World) (hf:Fr NoT w W)=>rat_any ws nm W An Ak Am cn ck cm (hw.keep hf)
 have hlw:ws.length≤9223372036854775807:=by have:=hw.names.1;have:=hw.names.2.1;simp at*;omega
 obtain⟨R,hR⟩:=nmq (nmdI ws k nm l2)
 rw[←hR]
 unfold nmdI at hR
 unfold wdV at h0 h1 ⊢
 obtain⟨m,hm⟩:=nmq ws.length
 rw[←hm]at h0 h1 hlw ⊢
 have HM:=hdq hm
 have HWD:=hdq hw
 obtain⟨w1,hw1⟩:=nmq ((w.alloc (.cells #[.slice An m cn,.slice Ak m ck,.slice Am m cm] 164)).alloc (.cells #[.int .u8 k,.string nm,.slice A2 l2 q2,.slice A3 l3 q3,.slice A4 l4 q4,.slice A5 l5 q5,.int .i64 at_] 39))
 have HK1:=hdq (show Bk w1 w.heap.size 164 #[.slice An m cn,.slice Ak m ck,.slice Am m cm]from by rw[hw1];exact(Bk.new _ _ _).fr0 ((Fr.refl _ _).alloc _))
 have HK2:=hdq (show Bk w1 (w.heap.size+1) 39 #[.int .u8 k,.string nm,.slice A2 l2 q2,.slice A3 l3 q3,.slice A4 l4 q4,.slice A5 l5 q5,.int .i64 at_]from by rw[hw1];have:=Bk.new (w.alloc (.cells #[.slice An m cn,.slice Ak m ck,.slice Am m cm] 164)) 39 #[.int .u8 k,.string nm,.slice A2 l2 q2,.slice A3 l3 q3,.slice A4 l4 q4,.slice A5 l5 q5,.int .i64 at_];simpa using this)
 have HF1:=hdq (show Fr NoT w w1 from by rw[hw1];exact((Fr.refl _ _).alloc _).alloc _)
 have HW1:=hdq hw1
 have H1:=hdq h1
 have H0:=hdq h0
 clear hw h1 h0 hm hw1
 subst hk
 rw[if_pos (.inl rfl)]at hR
 obtain⟨v,hv⟩:=nmq (isI nm 1 ws)
 have h:=fun W (hf:Fr NoT w W)=>H1.out W 1 hf
 rw[←hv]at h hR
 have HI:=hdq h
 have HR:=hdq hR
 clear h hv H1 hR
 go_enter Tryz.func155,Tryz.ntmps155
 go_wp2_with fail
 rw[←HW1.out]
 refine(HI.out _ HF1.out).mono ?_
 rintro _ w2 ⟨rfl,hb⟩
 have HF2:=hdq (HF1.out.trans hb)
 clear hb
 go_wp2_with fail
 go_ret
 exact⟨by rw[HR.out];rfl,HF2.out⟩
theorem rnamed_k4 (ws:Wl) (k:Int) (hk:k=4) (nm:ByteArray) (A2 A3 A4 A5:Option Addr) (l2 l3 l4 l5 q2 q3 q4 q5:Nat) (at_:Int) (w:World) (An Ak Am:Option Addr) (cn ck cm:Nat) (hl2:l2≤9223372036854775807) (hw:WdR w ws An Ak Am cn ck cm):
  Calls Tryz.prog 155 #[wdV ws An Ak Am cn ck cm,.agg #[.int .u8 k,.string nm,.slice A2 l2 q2,.slice A3 l3 q3,.slice A4 l4 q4,.slice A5 l5 q5,.int .i64 at_]] w (IntPost (nmdI ws k nm l2) w):=by
 have h1:=fun(W:World) (kind:Int) (hf:Fr NoT w W)=>ris_any ws nm kind W An Ak Am cn ck cm (hw.keep hf)
 have h0:=fun(W:World) (hf:Fr NoT w W)=>rat_any ws nm W An Ak Am cn ck cm (hw.keep hf)
 have hlw:ws.length≤9223372036854775807:=by have:=hw.names.1;have:=hw.names.2.1;simp at*;omega
 obtain⟨R,hR⟩:=nmq (nmdI ws k nm l2)
 rw[←hR]
 unfold nmdI at hR
 unfold wdV at h0 h1 ⊢
 obtain⟨m,hm⟩:=nmq ws.length
 rw[←hm]at h0 h1 hlw ⊢
 have HM:=hdq hm
 have HWD:=hdq hw
 obtain⟨w1,hw1⟩:=nmq ((w.alloc (.cells #[.slice An m cn,.slice Ak m ck,.slice Am m cm] 164)).alloc (.cells #[.int .u8 k,.string nm,.slice A2 l2 q2,.slice A3 l3 q3,.slice A4 l4 q4,.slice A5 l5 q5,.int .i64 at_] 39))
 have HK1:=hdq (show Bk w1 w.heap.size 164 #[.slice An m cn,.slice Ak m ck,.slice Am m cm]from by rw[hw1];exact(Bk.new _ _ _).fr0 ((Fr.refl _ _).alloc _))
 have HK2:=hdq (show Bk w1 (w.heap.size+1) 39 #[.int .u8 k,.string nm,.slice A2 l2 q2,.slice A3 l3 q3,.slice A4 l4 q4,.slice A5 l5 q5,.int .i64 at_]from by rw[hw1];have:=Bk.new (w.alloc (.cells #[.slice An m cn,.slice Ak m ck,.slice Am m cm] 164)) 39 #[.int .u8 k,.string nm,.slice A2 l2 q2,.slice A3 l3 q3,.slice A4 l4 q4,.slice A5 l5 q5,.int .i64 at_];simpa using this)
 have HF1:=hdq (show Fr NoT w w1 from by rw[hw1];exact((Fr.refl _ _).alloc _).alloc _)
 have HW1:=hdq hw1
 have H1:=hdq h1
 have H0:=hdq h0
 clear hw h1 h0 hm hw1
 subst hk
 rw[if_pos (.inr rfl)]at hR
 obtain⟨v,hv⟩:=nmq (isI nm 1 ws)
 have h:=fun W (hf:Fr NoT w W)=>H1.out W 1 hf
 rw[←hv]at h hR
 have HI:=hdq h
 have HR:=hdq hR
 clear h hv H1 hR
 go_enter Tryz.func155,Tryz.ntmps155
 go_wp2_with fail
 rw[←HW1.out]
 refine(HI.out _ HF1.out).mono ?_
 rintro _ w2 ⟨rfl,hb⟩
 have HF2:=hdq (HF1.out.trans hb)
 clear hb
 go_wp2_with fail
 go_ret
 exact⟨by rw[HR.out];rfl,HF2.out⟩
theorem rnamed_k3 (ws:Wl) (k:Int) (hk:k=3) (nm:ByteArray) (A2 A3 A4 A5:Option Addr) (l2 l3 l4 l5 q2 q3 q4 q5:Nat) (at_:Int) (w:World) (An Ak Am:Option Addr) (cn ck cm:Nat) (hl2:l2≤9223372036854775807) (hw:WdR w ws An Ak Am cn ck cm):
  Calls Tryz.prog 155 #[wdV ws An Ak Am cn ck cm,.agg #[.int .u8 k,.string nm,.slice A2 l2 q2,.slice A3 l3 q3,.slice A4 l4 q4,.slice A5 l5 q5,.int .i64 at_]] w (IntPost (nmdI ws k nm l2) w):=by
 have h1:=fun(W:World) (kind:Int) (hf:Fr NoT w W)=>ris_any ws nm kind W An Ak Am cn ck cm (hw.keep hf)
 have h0:=fun(W:World) (hf:Fr NoT w W)=>rat_any ws nm W An Ak Am cn ck cm (hw.keep hf)
 have hlw:ws.length≤9223372036854775807:=by have:=hw.names.1;have:=hw.names.2.1;simp at*;omega
 obtain⟨R,hR⟩:=nmq (nmdI ws k nm l2)
 rw[←hR]
 unfold nmdI at hR
 unfold wdV at h0 h1 ⊢
 obtain⟨m,hm⟩:=nmq ws.length
 rw[←hm]at h0 h1 hlw ⊢
 have HM:=hdq hm
 have HWD:=hdq hw
 obtain⟨w1,hw1⟩:=nmq ((w.alloc (.cells #[.slice An m cn,.slice Ak m ck,.slice Am m cm] 164)).alloc (.cells #[.int .u8 k,.string nm,.slice A2 l2 q2,.slice A3 l3 q3,.slice A4 l4 q4,.slice A5 l5 q5,.int .i64 at_] 39))
 have HK1:=hdq (show Bk w1 w.heap.size 164 #[.slice An m cn,.slice Ak m ck,.slice Am m cm]from by rw[hw1];exact(Bk.new _ _ _).fr0 ((Fr.refl _ _).alloc _))
 have HK2:=hdq (show Bk w1 (w.heap.size+1) 39 #[.int .u8 k,.string nm,.slice A2 l2 q2,.slice A3 l3 q3,.slice A4 l4 q4,.slice A5 l5 q5,.int .i64 at_]from by rw[hw1];have:=Bk.new (w.alloc (.cells #[.slice An m cn,.slice Ak m ck,.slice Am m cm] 164)) 39 #[.int .u8 k,.string nm,.slice A2 l2 q2,.slice A3 l3 q3,.slice A4 l4 q4,.slice A5 l5 q5,.int .i64 at_];simpa using this)
 have HF1:=hdq (show Fr NoT w w1 from by rw[hw1];exact((Fr.refl _ _).alloc _).alloc _)
 have HW1:=hdq hw1
 have H1:=hdq h1
 have H0:=hdq h0
 clear hw h1 h0 hm hw1
 subst hk
 rw[if_neg (by decide),if_pos rfl]at hR
 obtain⟨v,hv⟩:=nmq (isI nm 2 ws)
 have h:=fun W (hf:Fr NoT w W)=>H1.out W 2 hf
 rw[←hv]at h hR
 have HI:=hdq h
 have HR:=hdq hR
 clear h hv H1 hR
 go_enter Tryz.func155,Tryz.ntmps155
 go_wp2_with fail
 rw[←HW1.out]
 refine(HI.out _ HF1.out).mono ?_
 rintro _ w2 ⟨rfl,hb⟩
 have HF2:=hdq (HF1.out.trans hb)
 clear hb
 go_wp2_with fail
 go_ret
 exact⟨by rw[HR.out];rfl,HF2.out⟩
theorem rnamed_k9 (ws:Wl) (k:Int) (hk:k=9) (nm:ByteArray) (A2 A3 A4 A5:Option Addr) (l2 l3 l4 l5 q2 q3 q4 q5:Nat) (at_:Int) (w:World) (An Ak Am:Option Addr) (cn ck cm:Nat) (hl2:l2≤9223372036854775807) (hw:WdR w ws An Ak Am cn ck cm):
  Calls Tryz.prog 155 #[wdV ws An Ak Am cn ck cm,.agg #[.int .u8 k,.string nm,.slice A2 l2 q2,.slice A3 l3 q3,.slice A4 l4 q4,.slice A5 l5 q5,.int .i64 at_]] w (IntPost (nmdI ws k nm l2) w):=by
 have h1:=fun(W:World) (kind:Int) (hf:Fr NoT w W)=>ris_any ws nm kind W An Ak Am cn ck cm (hw.keep hf)
 have h0:=fun(W:World) (hf:Fr NoT w W)=>rat_any ws nm W An Ak Am cn ck cm (hw.keep hf)
 have hlw:ws.length≤9223372036854775807:=by have:=hw.names.1;have:=hw.names.2.1;simp at*;omega
 obtain⟨R,hR⟩:=nmq (nmdI ws k nm l2)
 rw[←hR]
 unfold nmdI at hR
 unfold wdV at h0 h1 ⊢
 obtain⟨m,hm⟩:=nmq ws.length
 rw[←hm]at h0 h1 hlw ⊢
 have HM:=hdq hm
 have HWD:=hdq hw
 obtain⟨w1,hw1⟩:=nmq ((w.alloc (.cells #[.slice An m cn,.slice Ak m ck,.slice Am m cm] 164)).alloc (.cells #[.int .u8 k,.string nm,.slice A2 l2 q2,.slice A3 l3 q3,.slice A4 l4 q4,.slice A5 l5 q5,.int .i64 at_] 39))
 have HK1:=hdq (show Bk w1 w.heap.size 164 #[.slice An m cn,.slice Ak m ck,.slice Am m cm]from by rw[hw1];exact(Bk.new _ _ _).fr0 ((Fr.refl _ _).alloc _))
 have HK2:=hdq (show Bk w1 (w.heap.size+1) 39 #[.int .u8 k,.string nm,.slice A2 l2 q2,.slice A3 l3 q3,.slice A4 l4 q4,.slice A5 l5 q5,.int .i64 at_]from by rw[hw1];have:=Bk.new (w.alloc (.cells #[.slice An m cn,.slice Ak m ck,.slice Am m cm] 164)) 39 #[.int .u8 k,.string nm,.slice A2 l2 q2,.slice A3 l3 q3,.slice A4 l4 q4,.slice A5 l5 q5,.int .i64 at_];simpa using this)
 have HF1:=hdq (show Fr NoT w w1 from by rw[hw1];exact((Fr.refl _ _).alloc _).alloc _)
 have HW1:=hdq hw1
 have H1:=hdq h1
 have H0:=hdq h0
 clear hw h1 h0 hm hw1
 subst hk
 rw[if_neg (by decide),if_neg (by decide),if_pos rfl]at hR
 obtain⟨v,hv⟩:=nmq (isI nm 3 ws)
 have h:=fun W (hf:Fr NoT w W)=>H1.out W 3 hf
 rw[←hv]at h hR
 have HI:=hdq h
 clear h H1
 by_cases hv0:v=0
 rotate_left
 ·rw[if_neg (fun h=>hv0 h.1)]at hR
  have HR:=hdq hR
  have e1:(v==0)=false:=by simpa using hv0
  clear hR hv0 hv
  go_enter Tryz.func155,Tryz.ntmps155
  go_wp2_with fail
  rw[←HW1.out]
  refine(HI.out _ HF1.out).mono ?_
  rintro _ w2 ⟨rfl,hb⟩
  have hk1:=HK1.out.fr0 hb
  have hk2:=HK2.out.fr0 hb
  have HF2:=hdq (HF1.out.trans hb)
  have a0:=hk1.cell 0
  have a1:=hk1.cell 1
  have a2:=hk1.cell 2
  have b0:=hk2.cell 0
  have b1:=hk2.cell 1
  have b2:=hk2.cell 2
  have y1:=hk1.lt
  have y2:=hk2.lt
  simp only[getsL]at a0 a1 a2 b0 b1 b2
  have HK3:=hdq hk1
  have HK4:=hdq hk2
  clear hb hk1 hk2
  go_wp2_with fail
  go_quiet (fail)
  go_wp2_with fail
  go_ret
  exact⟨by rw[HR.out];rfl,HF2.out.drewN _⟩
 ·subst hv0
  have hs:=at_split nm ws 0
  rcases hs with⟨e1,e2⟩|⟨i,x,e1,e2,e3⟩
  ·exfalso
   unfold isI at hv
   rw[e1]at hv
   exact absurd hv (by decide)
  rw[Nat.zero_add]at e1
  have h0:=H0.out
  rw[e1]at h0
  have H0':=hdq h0
  have hmn:mnI nm ws=x.2.2:=by unfold mnI;rw[e3];rfl
  rw[hmn]at hR
  have hi:i < m:=by rw[HM.out];exact(List.getElem?_eq_some_iff.1 e2).1
  obtain⟨b,hAm,hbs,hat⟩:=HWD.out.many.2.2 (by simp;rw[←HM.out];omega)
  have c1:=hat i (.int .i64 x.2.2) (by rw[List.getElem?_map,e2];rfl)
  subst hAm
  obtain⟨x0,x1,x2⟩:=x
  simp only at c1 hR
  have HC:=hdq (aiq hbs c1)
  have hi':(i:Int) < (m:Int):=by omega
  have hge:(0:Int)≤(i:Int):=by omega
  have hcase:(x2=l2∧R=0)∨(x2≠l2∧R=114):=by
   by_cases h:x2=l2
   ·exact .inl ⟨h,by rw[hR,if_neg (fun h2=>h2.2 h)]⟩
   ·exact .inr ⟨h,by rw[hR,if_pos (by simp[h])]⟩
  clear hR hv e1 e2 e3 hmn hbs hat c1 h0 H0
  rcases hcase with⟨h,hR⟩|⟨h,hR⟩
  case' inl=>have g1:(x2 != (l2:Int))=false:=by simpa using h
  case' inr=>have g1:(x2 != (l2:Int))=true:=by simpa using h
  all_goals
   have HR:=hdq hR
   clear hR h
   go_enter Tryz.func155,Tryz.ntmps155
   go_wp2_with fail
   rw[←HW1.out]
   refine(HI.out _ HF1.out).mono ?_
   rintro _ w2 ⟨rfl,hb⟩
   have hk1:=HK1.out.fr0 hb
   have hk2:=HK2.out.fr0 hb
   have HF2:=hdq (HF1.out.trans hb)
   have a0:=hk1.cell 0
   have a1:=hk1.cell 1
   have a2:=hk1.cell 2
   have b0:=hk2.cell 0
   have b1:=hk2.cell 1
   have b2:=hk2.cell 2
   have y1:=hk1.lt
   have y2:=hk2.lt
   simp only[getsL]at a0 a1 a2 b0 b1 b2
   have HK3:=hdq hk1
   have HK4:=hdq hk2
   clear hb hk1 hk2
   have d1:=(HF2.out.cell (p:=⟨b,i,none⟩) HC.out.1 id).trans HC.out.2
   have dx:=ltq HC.out.1 HF2.out.size
   go_wp2_with fail
   go_region_held2 (fun W'=>W'.cell? ⟨w.heap.size,0,none⟩=some (.slice An m cn)∧W'.cell? ⟨w.heap.size,1,none⟩=some (.slice Ak m ck)∧W'.cell? ⟨w.heap.size,2,none⟩=some (.slice (some ⟨b,0,none⟩) m cm)∧W'.cell? ⟨w.heap.size+1,1,none⟩=some (.string nm)∧W'.cell? ⟨w.heap.size+1,2,none⟩=some (.slice A2 l2 q2)∧W'.cell? ⟨b,i,none⟩=some (.int .i64 x2))
    (first
     |(refine⟨?_,?_,?_,?_,?_,?_⟩<;>with_reducible assumption)
     |(with_reducible refine⟨(Fr.cell (T:=NoT) (w:=w5) (Fr.drew (Fr.refl _ _)) y1' id).trans a0',(Fr.cell (T:=NoT) (w:=w5) (Fr.drew (Fr.refl _ _)) y1' id).trans a1',(Fr.cell (T:=NoT) (w:=w5) (Fr.drew (Fr.refl _ _)) y1' id).trans a2',(Fr.cell (T:=NoT) (w:=w5) (Fr.drew (Fr.refl _ _)) y2' id).trans b1',(Fr.cell (T:=NoT) (w:=w5) (Fr.drew (Fr.refl _ _)) y2' id).trans b2',(Fr.cell (T:=NoT) (w:=w5) (Fr.drew (Fr.refl _ _)) dx' id).trans d1'⟩)
     |(with_reducible refine⟨(Fr.cell (T:=NoT) (w:=w2) (Fr.drew (Fr.refl _ _)) y1 id).trans a0,(Fr.cell (T:=NoT) (w:=w2) (Fr.drew (Fr.refl _ _)) y1 id).trans a1,(Fr.cell (T:=NoT) (w:=w2) (Fr.drew (Fr.refl _ _)) y1 id).trans a2,(Fr.cell (T:=NoT) (w:=w2) (Fr.drew (Fr.refl _ _)) y2 id).trans b1,(Fr.cell (T:=NoT) (w:=w2) (Fr.drew (Fr.refl _ _)) y2 id).trans b2,(Fr.cell (T:=NoT) (w:=w2) (Fr.drew (Fr.refl _ _)) dx id).trans d1⟩))
    (first
     |(go_at_call 152
       with_reducible refine(H0'.out _ (by exact HF2.out.drew)).mono ?_
       rintro _ w5 ⟨rfl,hb⟩
       have HF5:=hdq (HF2.out.drew.trans hb)
       have hf5:=(Fr.refl NoT w2).drew.trans hb
       have a0':=(HK3.out.fr0 hf5).cell 0
       have a1':=(HK3.out.fr0 hf5).cell 1
       have a2':=(HK3.out.fr0 hf5).cell 2
       have b1':=(HK4.out.fr0 hf5).cell 1
       have b2':=(HK4.out.fr0 hf5).cell 2
       have y1':=(HK3.out.fr0 hf5).lt
       have y2':=(HK4.out.fr0 hf5).lt
       have d1':=(HF5.out.cell (p:=⟨b,i,none⟩) HC.out.1 id).trans HC.out.2
       have dx':=ltq HC.out.1 HF5.out.size
       simp only[getsL]at a0' a1' a2' b1' b2'
       clear hb hf5
       dsimp only))
   all_goals
    go_wp2_with fail
    go_ret
    exact⟨by rw[HR.out];rfl,HF5.out⟩
theorem rnamed_any (ws:Wl) (k:Int) (nm:ByteArray) (A2 A3 A4 A5:Option Addr) (l2 l3 l4 l5 q2 q3 q4 q5:Nat) (at_:Int) (w:World) (An Ak Am:Option Addr) (cn ck cm:Nat) (hl2:l2≤9223372036854775807) (hw:WdR w ws An Ak Am cn ck cm):
  Calls Tryz.prog 155 #[wdV ws An Ak Am cn ck cm,.agg #[.int .u8 k,.string nm,.slice A2 l2 q2,.slice A3 l3 q3,.slice A4 l4 q4,.slice A5 l5 q5,.int .i64 at_]] w (IntPost (nmdI ws k nm l2) w):=by
 by_cases h2:k=2
 ·exact rnamed_k2 ws k h2 nm A2 A3 A4 A5 l2 l3 l4 l5 q2 q3 q4 q5 at_ w An Ak Am cn ck cm hl2 hw
 by_cases h4:k=4
 ·exact rnamed_k4 ws k h4 nm A2 A3 A4 A5 l2 l3 l4 l5 q2 q3 q4 q5 at_ w An Ak Am cn ck cm hl2 hw
 by_cases h3:k=3
 ·exact rnamed_k3 ws k h3 nm A2 A3 A4 A5 l2 l3 l4 l5 q2 q3 q4 q5 at_ w An Ak Am cn ck cm hl2 hw
 by_cases h9:k=9
 ·exact rnamed_k9 ws k h9 nm A2 A3 A4 A5 l2 l3 l4 l5 q2 q3 q4 q5 at_ w An Ak Am cn ck cm hl2 hw
 exact rnamed_no ws k ⟨h2,h4,h3,h9⟩ nm A2 A3 A4 A5 l2 l3 l4 l5 q2 q3 q4 q5 at_ w An Ak Am cn ck cm hl2 hw

def orI (p q:Int×Int):Int×Int:=if p.2=0 then q else p
theorem orI_no {p q:Int×Int} (h:¬p.2=0):orI p q=p:=if_neg h
theorem orI_ok {p q:Int×Int} (h:p.2=0):orI p q=q:=if_pos h
def stsI (ws:Wl):Sts→Int×Int
 | .nil =>(0,0)
 | .cons k nm args cond body els at_ r=>
  if nmdI ws k nm (args.len:Int)=0 then
   (if(orI (orI (orI (exsI ws args) (cdsI ws cond)) (stsI ws body)) (stsI ws els)).2 =0 then stsI ws r else orI (orI (orI (exsI ws args) (cdsI ws cond)) (stsI ws body)) (stsI ws els))
  else(at_,nmdI ws k nm (args.len:Int))
theorem stsI_step {ws:Wl} {xs:Sts} {i:Nat} {a0 a1 a2 a3 a4 a5 a6 ar} (hd:Sts.drop i xs= .cons a0 a1 a2 a3 a4 a5 a6 ar):
  stsI ws (Sts.drop i xs)=if nmdI ws a0 a1 (a2.len:Int)=0 then
   (if(orI (orI (orI (exsI ws a2) (cdsI ws a3)) (stsI ws a4)) (stsI ws a5)).2 =0 then stsI ws (Sts.drop (i+1) xs)else orI (orI (orI (exsI ws a2) (cdsI ws a3)) (stsI ws a4)) (stsI ws a5))
  else(a6,nmdI ws a0 a1 (a2.len:Int)):=by
 rw[Sts.drop_succ i xs hd,hd];rfl
def RsC (ws:Wl) (An Ak Am:Option Addr) (cn ck cm:Nat) (xs:Sts):Prop:=∀(W:World) (S:Nat→Prop) (Z:Prop) (A:Option Addr) (c:Nat),WdR W ws An Ak Am cn ck cm→(∀b,S b→b < W.heap.size)→SlR (fun b o=>StR W S Z xs b o) xs.len 128 A c→
 Calls Tryz.prog 91 #[wdV ws An Ak Am cn ck cm,.slice A xs.len c] W (AtE (stsI ws xs) W)
def RsI (ws:Wl) (An Ak Am:Option Addr) (cn ck cm:Nat) (xs:Sts):Prop:=∀(i:Nat) (a0:Int) (a1:ByteArray) (a2:Exs) (a3:Cds) (a4 a5:Sts) (a6:Int) (ar:Sts),Sts.drop i xs= .cons a0 a1 a2 a3 a4 a5 a6 ar→RsC ws An Ak Am cn ck cm a4∧RsC ws An Ak Am cn ck cm a5
theorem rs_one (ws:Wl) (An Ak Am:Option Addr) (cn ck cm:Nat) (xs:Sts) (hall0:RsI ws An Ak Am cn ck cm xs):RsC ws An Ak Am cn ck cm xs:=by
 intro w S Z A c hw hS hx
 have hl:xs.len≤9223372036854775807:=leq9 hx.1 hx.2.1.1
 have HA:=hdq hall0
 have HX:=hdq hx
 have HS:=hdq hS
 have HW:=hdq hw
 obtain⟨m,hm⟩:=nmq xs.len
 rw[←hm]at hl ⊢
 have HM:=hdq hm
 obtain⟨F,hF⟩:=nmq (stsI ws xs)
 rw[←hF]
 have HF:=hdq hF
 unfold wdV
 obtain⟨nw,hnw⟩:=nmq ws.length
 rw[←hnw]
 have HNW:=hdq hnw
 obtain⟨w1,hw1⟩:=nmq (w.alloc (.cells #[.slice An nw cn,.slice Ak nw ck,.slice Am nw cm] 164))
 have HK1:=hdq (show Bk w1 w.heap.size 164 #[.slice An nw cn,.slice Ak nw ck,.slice Am nw cm]from by rw[hw1];exact Bk.new _ _ _)
 have HF1:=hdq (show Fr NoT w w1 from by rw[hw1];exact(Fr.refl _ _).alloc _)
 have HW1:=hdq hw1
 clear hall0 hx hS hm hF hw hnw hw1
 go_enter Tryz.func91,Tryz.ntmps91
 go_wp2_with fail
 rw[←HW1.out]
 go_loopw [6] (fun i wr=>∃k:Nat,k≤m∧i= .int .i64 k∧Hid (Fr NoT w1 wr)∧Hid (F=stsI ws (Sts.drop k xs))) (fun i _=>m - (intOf i).toNat)
 case atStart=>exact⟨0,Nat.zero_le _,rfl,Fr.refl _ _,HF.out⟩
 case round=>
  clear HF
  obtain⟨k,hk,rfl,hb1,hall⟩:=hrel
  have hkk:=HK1.out.fr0 hb1.out
  have x0:=hkk.cell 0
  have x1:=hkk.cell 1
  have x2:=hkk.cell 2
  have hl1:=hkk.lt
  simp only[getsL]at x0 x1 x2
  have hb:Fr NoT w wr:=HF1.out.trans hb1.out
  clear hkk
  by_cases hlt:k < m
  ·obtain⟨a0,a1,a2,a3,a4,a5,a6,ar,hd⟩:=Sts.drop_cons (show k < xs.len from by rw[←HM.out];exact hlt)
   obtain⟨b,o,rfl,hat⟩:=HX.out.2.2 (by rw[←HM.out];omega)
   have hat1:=(StR.keep (hb.same fun b hb=>⟨HS.out b hb,id⟩) hat).drop k
   rw[hd]at hat1
   obtain⟨⟨hbS,_,r0,r1,c0,c1,c6⟩,⟨A2,q2,c2,s2⟩,⟨A3,q3,c3,s3⟩,⟨A4,q4,c4,s4⟩,⟨A5,q5,c5,s5⟩,_⟩:=hat1
   have hxr:b < wr.heap.size:=ltq (HS.out _ hbS) hb.size
   have hlt':(k:Int) < (m:Int):=by omega
   have hge:(0:Int)≤(k:Int):=by omega
   have hSr:∀b,S b→b < wr.heap.size:=fun b h=>ltq (HS.out b h) hb.size
   obtain⟨hr4,hr5⟩:=HA.out k a0 a1 a2 a3 a4 a5 a6 ar hd
   have g0:=fun(W:World) (hf:Fr NoT wr W)=>rnamed_any ws a0 a1 A2 A3 A4 A5 a2.len a3.len a4.len a5.len q2 q3 q4 q5 a6 W An Ak Am cn ck cm (leq9 s2.1 s2.2.1.1) (HW.out.keep (hb.trans hf))
   have g2:=fun(W:World) (hf:Fr NoT wr W)=>rexprs_any ws An Ak Am cn ck cm a2 W S Z A2 q2 (HW.out.keep (hb.trans hf)) (fun b h=>ltq (hSr b h) hf.size) (s2.imp fun _ _ hx=>ExR.keep (hf.same fun b hb=>⟨hSr b hb,id⟩) hx)
   have g3:=fun(W:World) (hf:Fr NoT wr W)=>rconds_any ws An Ak Am cn ck cm a3 W S Z A3 q3 (HW.out.keep (hb.trans hf)) (fun b h=>ltq (hSr b h) hf.size) (s3.imp fun _ _ hx=>CdR.keep (hf.same fun b hb=>⟨hSr b hb,id⟩) hx)
   have g4:=fun(W:World) (hf:Fr NoT wr W)=>hr4 W S Z A4 q4 (HW.out.keep (hb.trans hf)) (fun b h=>ltq (hSr b h) hf.size) (s4.imp fun _ _ hx=>StR.keep (hf.same fun b hb=>⟨hSr b hb,id⟩) hx)
   have g5:=fun(W:World) (hf:Fr NoT wr W)=>hr5 W S Z A5 q5 (HW.out.keep (hb.trans hf)) (fun b h=>ltq (hSr b h) hf.size) (s5.imp fun _ _ hx=>StR.keep (hf.same fun b hb=>⟨hSr b hb,id⟩) hx)
   have hst:=hall.out.trans (stsI_step hd)
   obtain⟨v0,hv0⟩:=nmq (nmdI ws a0 a1 (a2.len:Int))
   obtain⟨p2,hp2⟩:=nmq (exsI ws a2)
   obtain⟨p3,hp3⟩:=nmq (cdsI ws a3)
   obtain⟨p4,hp4⟩:=nmq (stsI ws a4)
   obtain⟨p5,hp5⟩:=nmq (stsI ws a5)
   rw[←hv0,←hp2,←hp3,←hp4,←hp5]at hst
   rw[←hv0]at g0
   rw[←hp2]at g2
   rw[←hp3]at g3
   rw[←hp4]at g4
   rw[←hp5]at g5
   unfold wdV at g0 g2 g3 g4 g5
   rw[←HNW.out]at g0 g2 g3 g4 g5
   obtain⟨l2,hl2⟩:=nmq a2.len
   obtain⟨l3,hl3⟩:=nmq a3.len
   obtain⟨l4,hl4⟩:=nmq a4.len
   obtain⟨l5,hl5⟩:=nmq a5.len
   rw[←hl2]at g0 g2 c2
   rw[←hl3]at g0 g3 c3
   rw[←hl4]at g0 g4 c4
   rw[←hl5]at g0 g5 c5
   have G0:=hdq g0
   have G2:=hdq g2
   have G3:=hdq g3
   have G4:=hdq g4
   have G5:=hdq g5
   have HST:=hdq hst
   have HB:=hdq hb
   obtain⟨w5,hw5⟩:=nmq (wr.alloc (.cells #[.int .u8 a0,.string a1,.slice A2 l2 q2,.slice A3 l3 q3,.slice A4 l4 q4,.slice A5 l5 q5,.int .i64 a6] 39))
   have HS5:=hdq (show Bk w5 wr.heap.size 39 #[.int .u8 a0,.string a1,.slice A2 l2 q2,.slice A3 l3 q3,.slice A4 l4 q4,.slice A5 l5 q5,.int .i64 a6]from by rw[hw5];exact Bk.new _ _ _)
   have HR5:=hdq (show Fr NoT wr w5 from by rw[hw5];exact(Fr.refl _ _).alloc _)
   have HB1:=hdq (hb1.out.trans HR5.out)
   have HW5:=hdq hw5
   clear hd hat hall hb hb1 hbS s2 s3 s4 s5 r0 r1 g0 g2 g3 g4 g5 hst hv0 hp2 hp3 hp4 hp5 hl2 hl3 hl4 hl5 hSr hr4 hr5 hw5
   go_wp2_with fail
   rw[←HW5.out]
   clear x0 x1 x2 hl1 c0 c1 c2 c3 c4 c5 c6 hxr
   have hk1:=HK1.out.fr0 (HB1.out.trans (Fr.refl _ _))
   have hk2:=HS5.out.fr0 (Fr.refl _ _)
   have x0:=hk1.cell 0
   have x1:=hk1.cell 1
   have x2:=hk1.cell 2
   have y0:=hk2.cell 0
   have y1:=hk2.cell 1
   have y2:=hk2.cell 2
   have y3:=hk2.cell 3
   have y4:=hk2.cell 4
   have y5:=hk2.cell 5
   have y6:=hk2.cell 6
   have hl1:=hk1.lt
   have hl2:=hk2.lt
   simp only[getsL]at x0 x1 x2 y0 y1 y2 y3 y4 y5 y6
   clear hk1 hk2
   refine(G0.out _ HR5.out).mono ?_
   rintro _ w6 ⟨rfl,hf⟩
   clear x0 x1 x2 y0 y1 y2 y3 y4 y5 y6 hl1 hl2
   have hk1:=HK1.out.fr0 (HB1.out.trans hf)
   have hk2:=HS5.out.fr0 hf
   have x0:=hk1.cell 0
   have x1:=hk1.cell 1
   have x2:=hk1.cell 2
   have y0:=hk2.cell 0
   have y1:=hk2.cell 1
   have y2:=hk2.cell 2
   have y3:=hk2.cell 3
   have y4:=hk2.cell 4
   have y5:=hk2.cell 5
   have y6:=hk2.cell 6
   have hl1:=hk1.lt
   have hl2:=hk2.lt
   simp only[getsL]at x0 x1 x2 y0 y1 y2 y3 y4 y5 y6
   clear hk1 hk2
   have HF6:=hdq hf
   clear hf
   by_cases hz:v0=0
   rotate_left
   ·have HN:=hdq (show F=(a6,v0)from by rw[HST.out,if_neg hz])
    have e1:(v0 != 0)=true:=by simpa using hz
    clear HST hz
    go_wp2_with fail
    go_ret2
    exact⟨by rw[HN.out];rfl,(HB.out.trans HR5.out).trans HF6.out⟩
   subst hz
   obtain⟨P,hP⟩:=nmq (orI (orI (orI p2 p3) p4) p5)
   have HST2:=hdq (show F=if P.2=0 then stsI ws (Sts.drop (k+1) xs)else P from by rw[HST.out,if_pos rfl,hP])
   have HP:=hdq hP
   clear HST hP
   go_wp2_with fail
   refine(G2.out _ (HR5.out.trans HF6.out)).mono ?_
   rintro _ w7 ⟨rfl,hf⟩
   obtain⟨u1,u2⟩:=p2
   clear x0 x1 x2 y0 y1 y2 y3 y4 y5 y6 hl1 hl2
   have hk1:=HK1.out.fr0 (HB1.out.trans (HF6.out.trans hf))
   have hk2:=HS5.out.fr0 (HF6.out.trans hf)
   have x0:=hk1.cell 0
   have x1:=hk1.cell 1
   have x2:=hk1.cell 2
   have y0:=hk2.cell 0
   have y1:=hk2.cell 1
   have y2:=hk2.cell 2
   have y3:=hk2.cell 3
   have y4:=hk2.cell 4
   have y5:=hk2.cell 5
   have y6:=hk2.cell 6
   have hl1:=hk1.lt
   have hl2:=hk2.lt
   simp only[getsL]at x0 x1 x2 y0 y1 y2 y3 y4 y5 y6
   clear hk1 hk2
   have HF7:=hdq (HF6.out.trans hf)
   clear hf
   by_cases hz:u2=0
   rotate_left
   ·have HPP:=hdq (show P=(u1,u2)from by rw[HP.out,orI_no (p:=(u1,u2)) hz,orI_no (p:=(u1,u2)) hz,orI_no (p:=(u1,u2)) hz])
    have e2:(u2==0)=false:=by simpa using hz
    have e1:(u2 != 0)=true:=by simpa using hz
    have HN:=hdq (show F=(u1,u2)from by rw[HST2.out,HPP.out,if_neg hz])
    clear HST2 hz
    go_wp2_with fail
    go_ret2
    exact⟨by rw[HN.out];rfl,(HB.out.trans HR5.out).trans HF7.out⟩
   subst hz
   have HP3:=hdq (show P=orI (orI p3 p4) p5 from by rw[HP.out,orI_ok (p:=(u1,0)) rfl])
   clear HP
   go_wp2_with fail
   refine(G3.out _ (HR5.out.trans HF7.out)).mono ?_
   rintro _ w8 ⟨rfl,hf⟩
   obtain⟨t1,t2⟩:=p3
   clear x0 x1 x2 y0 y1 y2 y3 y4 y5 y6 hl1 hl2
   have hk1:=HK1.out.fr0 (HB1.out.trans (HF7.out.trans hf))
   have hk2:=HS5.out.fr0 (HF7.out.trans hf)
   have x0:=hk1.cell 0
   have x1:=hk1.cell 1
   have x2:=hk1.cell 2
   have y0:=hk2.cell 0
   have y1:=hk2.cell 1
   have y2:=hk2.cell 2
   have y3:=hk2.cell 3
   have y4:=hk2.cell 4
   have y5:=hk2.cell 5
   have y6:=hk2.cell 6
   have hl1:=hk1.lt
   have hl2:=hk2.lt
   simp only[getsL]at x0 x1 x2 y0 y1 y2 y3 y4 y5 y6
   clear hk1 hk2
   have HF8:=hdq (HF7.out.trans hf)
   clear hf
   by_cases hz:t2=0
   rotate_left
   ·have HPP:=hdq (show P=(t1,t2)from by rw[HP3.out,orI_no (p:=(t1,t2)) hz,orI_no (p:=(t1,t2)) hz])
    have e2:(t2==0)=false:=by simpa using hz
    have e1:(t2 != 0)=true:=by simpa using hz
    have HN:=hdq (show F=(t1,t2)from by rw[HST2.out,HPP.out,if_neg hz])
    clear HST2 hz
    go_wp2_with fail
    go_ret2
    exact⟨by rw[HN.out];rfl,(HB.out.trans HR5.out).trans HF8.out⟩
   subst hz
   have HP4:=hdq (show P=orI p4 p5 from by rw[HP3.out,orI_ok (p:=(t1,0)) rfl])
   clear HP3
   go_wp2_with fail
   refine(G4.out _ (HR5.out.trans HF8.out)).mono ?_
   rintro _ w9 ⟨rfl,hf⟩
   obtain⟨r1,r2⟩:=p4
   clear x0 x1 x2 y0 y1 y2 y3 y4 y5 y6 hl1 hl2
   have hk1:=HK1.out.fr0 (HB1.out.trans (HF8.out.trans hf))
   have hk2:=HS5.out.fr0 (HF8.out.trans hf)
   have x0:=hk1.cell 0
   have x1:=hk1.cell 1
   have x2:=hk1.cell 2
   have y0:=hk2.cell 0
   have y1:=hk2.cell 1
   have y2:=hk2.cell 2
   have y3:=hk2.cell 3
   have y4:=hk2.cell 4
   have y5:=hk2.cell 5
   have y6:=hk2.cell 6
   have hl1:=hk1.lt
   have hl2:=hk2.lt
   simp only[getsL]at x0 x1 x2 y0 y1 y2 y3 y4 y5 y6
   clear hk1 hk2
   have HF9:=hdq (HF8.out.trans hf)
   clear hf
   by_cases hz:r2=0
   rotate_left
   ·have HPP:=hdq (show P=(r1,r2)from by rw[HP4.out,orI_no (p:=(r1,r2)) hz])
    have e2:(r2==0)=false:=by simpa using hz
    have e1:(r2 != 0)=true:=by simpa using hz
    have HN:=hdq (show F=(r1,r2)from by rw[HST2.out,HPP.out,if_neg hz])
    clear HST2 hz
    go_wp2_with fail
    go_ret2
    exact⟨by rw[HN.out];rfl,(HB.out.trans HR5.out).trans HF9.out⟩
   subst hz
   have HP5:=hdq (show P=p5 from by rw[HP4.out,orI_ok (p:=(r1,0)) rfl])
   clear HP4
   go_wp2_with fail
   refine(G5.out _ (HR5.out.trans HF9.out)).mono ?_
   rintro _ w10 ⟨rfl,hf⟩
   obtain⟨z1,z2⟩:=p5
   have HPP:=HP5
   clear x0 x1 x2 y0 y1 y2 y3 y4 y5 y6 hl1 hl2
   have HF10:=hdq (HF9.out.trans hf)
   clear hf
   by_cases hz:z2=0
   ·have HN:=hdq (show F=stsI ws (Sts.drop (k+1) xs)from by rw[HST2.out,HPP.out,if_pos hz])
    have e1:(z2 != 0)=false:=by simpa using hz
    clear HST2
    go_wp2_with fail
    go_roundw
    case rel=>exact⟨k+1,by omega,by go_num,HB1.out.trans HF10.out,HN.out⟩
    case measure=>simp[intOf];omega
   ·have HN:=hdq (show F=(z1,z2)from by rw[HST2.out,HPP.out,if_neg hz])
    have e1:(z2 != 0)=true:=by simpa using hz
    clear HST2
    go_wp2_with fail
    go_ret2
    exact⟨by rw[HN.out];rfl,(HB.out.trans HR5.out).trans HF10.out⟩
  ·have HN:=hdq (show F=(0,0)from by rw[hall.out,Sts.drop_nil (by rw[←HM.out];omega)];rfl)
   have hlt':¬(k:Int) < (m:Int):=by omega
   have HB:=hdq hb
   clear hall hb hb1
   go_wp2_with fail
   go_ret2
   exact⟨by rw[HN.out];rfl,HB.out⟩
theorem rsi_all (ws:Wl) (An Ak Am:Option Addr) (cn ck cm:Nat):∀xs:Sts,RsI ws An Ak Am cn ck cm xs
 | .nil =>fun i _ _ _ _ _ _ _ _ hd=>by cases i<;>simp[Sts.drop]at hd
 | .cons k0 k1 k2 k3 k4 k5 k6 kr=>fun i _ _ _ _ _ _ _ _ hd=>by
  cases i with
  |zero=>
   simp only[Sts.drop]at hd
   injection hd with e0 e1 e2 e3 e4 e5 e6 e7
   subst e0 e1 e2 e3 e4 e5 e6 e7
   exact⟨rs_one ws An Ak Am cn ck cm k4 (rsi_all ws An Ak Am cn ck cm k4),rs_one ws An Ak Am cn ck cm k5 (rsi_all ws An Ak Am cn ck cm k5)⟩
  |succ i=>
   simp only[Sts.drop]at hd
   exact rsi_all ws An Ak Am cn ck cm kr i _ _ _ _ _ _ _ _ hd
theorem rstmts_any (ws:Wl) (An Ak Am:Option Addr) (cn ck cm:Nat) (xs:Sts):RsC ws An Ak Am cn ck cm xs:=rs_one ws An Ak Am cn ck cm xs (rsi_all ws An Ak Am cn ck cm xs)
end Go.Proofs.YtmopichdofgndaaGreatDoor
