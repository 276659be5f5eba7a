/- ref11: named. -/
import Derived.Test.YtmopichdofgndaaGreatDoorJgRtX
set_option linter.all false
set_option maxHeartbeats 3200000
set_option maxRecDepth 100000
namespace Go.Proofs.YtmopichdofgndaaGreatDoor
open Go.RowKit Go.Shelf
def mnI (nm:ByteArray)(ws:Wl):Int:=((fdW nm ws).getD (0,0)).2
def nmdI (ws:Wl)(k:Int)(nm:ByteArray)(na:Int):Int:=
 if k=2\/k=4 then isI nm 1 ws else if k=3 then isI nm 2 ws else if k=9 then(if isI nm 3 ws=0/\mnI nm ws≠na then 114 else isI nm 3 ws)else 0
theorem zjg (ws:Wl)(k:Int)(hk:k≠2/\k≠4/\k≠3/\k≠9)(nm:ByteArray)(A2 A3 A4 A5:Option Addr)(l2 l3 l4 l5 q2 q3 q4 q5:Nat)(at_:Int)(w:World)(An Ak Am:Option Addr)(cn ck cm:Nat)(Gl:l2<=9223372036854775807)(hw:WdR w ws An Ak Am cn ck cm):
  Calls Tryz.prog 155 #[wdV ws An Ak Am cn ck cm,.agg #[.int .u8 k,.string nm,.slice A2 l2 q2,.slice A3 l3 q3,.slice A4 l4 q4,.slice A5 l5 q5,.int .i64 at_]] w (zbX (nmdI ws k nm l2) w):=by
 have h1:=λ(W:World)(kind:Int)(hf:Fr NoT w W)=>zcO ws nm kind W An Ak Am cn ck cm (hw.keep hf);have h0:=λ(W:World)(hf:Fr NoT w W)=>zbp ws nm W An Ak Am cn ck cm (hw.keep hf);have Ty:ws.length<=9223372036854775807:=by have:=hw.names.1;have:=hw.names.2.1;simp at*;omega
 obtain⟨R,hR⟩:=nmq (nmdI ws k nm l2);rw[<-hR];unfold nmdI at hR;unfold wdV at h0 h1 ⊢;obtain⟨m,hm⟩:=nmq ws.length;rw[<-hm]at h0 h1 Ty ⊢;have HM:=hdq hm;have Kl:=hdq hw;obtain⟨w1,Hc⟩:=nmq ((w.alloc (.cells #[.slice An m cn,.slice Ak m ck,.slice Am m cm] 164)).alloc (.cells #[.int .u8 k,.string nm,.slice A2 l2 q2,.slice A3 l3 q3,.slice A4 l4 q4,.slice A5 l5 q5,.int .i64 at_] 39));have Gv:=hdq (show Bk w1 w.heap.size 164 #[.slice An m cn,.slice Ak m ck,.slice Am m cm]from by rw[Hc];exact(Bk.new _ _ _).fr0 ((Fr.refl _ _).alloc _));have FX:=hdq (show Bk w1 (w.heap.size+1) 39 #[.int .u8 k,.string nm,.slice A2 l2 q2,.slice A3 l3 q3,.slice A4 l4 q4,.slice A5 l5 q5,.int .i64 at_]from by rw[Hc];have:=Bk.new (w.alloc (.cells #[.slice An m cn,.slice Ak m ck,.slice Am m cm] 164)) 39 #[.int .u8 k,.string nm,.slice A2 l2 q2,.slice A3 l3 q3,.slice A4 l4 q4,.slice A5 l5 q5,.int .i64 at_];simpa using this);have Hn:=hdq (show Fr NoT w w1 from by rw[Hc];exact((Fr.refl _ _).alloc _).alloc _);have Ga:=hdq Hc;have H1:=hdq h1;have H0:=hdq h0;clear hw h1 h0 hm Hc;have HR:=hdq (show R=0 from by rw[hR,if_neg (by omega),if_neg hk.2.2.1,if_neg hk.2.2.2]);have g2:(k==2)=false:=by simpa using hk.1
 have g4:(k==4)=false:=by simpa using hk.2.1
 have g3:(k==3)=false:=by simpa using hk.2.2.1
 have g9:(k==9)=false:=by simpa using hk.2.2.2
 clear hR hk;go_enter Tryz.func155,Tryz.ntmps155;go_wp2_with fail;rw[<-Ga.out];go_ret;exact⟨by rw[HR.out];rfl,Hn.out⟩
theorem zjh (ws:Wl)(k:Int)(hk:k=2)(nm:ByteArray)(A2 A3 A4 A5:Option Addr)(l2 l3 l4 l5 q2 q3 q4 q5:Nat)(at_:Int)(w:World)(An Ak Am:Option Addr)(cn ck cm:Nat)(Gl:l2<=9223372036854775807)(hw:WdR w ws An Ak Am cn ck cm):
  Calls Tryz.prog 155 #[wdV ws An Ak Am cn ck cm,.agg #[.int .u8 k,.string nm,.slice A2 l2 q2,.slice A3 l3 q3,.slice A4 l4 q4,.slice A5 l5 q5,.int .i64 at_]] w (zbX (nmdI ws k nm l2) w):=by
 have h1:=λ(W:World)(kind:Int)(hf:Fr NoT w W)=>zcO ws nm kind W An Ak Am cn ck cm (hw.keep hf);have h0:=λ(W:World)(hf:Fr NoT w W)=>zbp ws nm W An Ak Am cn ck cm (hw.keep hf);have Ty:ws.length<=9223372036854775807:=by have:=hw.names.1;have:=hw.names.2.1;simp at*;omega
 obtain⟨R,hR⟩:=nmq (nmdI ws k nm l2);rw[<-hR];unfold nmdI at hR;unfold wdV at h0 h1 ⊢;obtain⟨m,hm⟩:=nmq ws.length;rw[<-hm]at h0 h1 Ty ⊢;have HM:=hdq hm;have Kl:=hdq hw;obtain⟨w1,Hc⟩:=nmq ((w.alloc (.cells #[.slice An m cn,.slice Ak m ck,.slice Am m cm] 164)).alloc (.cells #[.int .u8 k,.string nm,.slice A2 l2 q2,.slice A3 l3 q3,.slice A4 l4 q4,.slice A5 l5 q5,.int .i64 at_] 39));have Gv:=hdq (show Bk w1 w.heap.size 164 #[.slice An m cn,.slice Ak m ck,.slice Am m cm]from by rw[Hc];exact(Bk.new _ _ _).fr0 ((Fr.refl _ _).alloc _));have FX:=hdq (show Bk w1 (w.heap.size+1) 39 #[.int .u8 k,.string nm,.slice A2 l2 q2,.slice A3 l3 q3,.slice A4 l4 q4,.slice A5 l5 q5,.int .i64 at_]from by rw[Hc];have:=Bk.new (w.alloc (.cells #[.slice An m cn,.slice Ak m ck,.slice Am m cm] 164)) 39 #[.int .u8 k,.string nm,.slice A2 l2 q2,.slice A3 l3 q3,.slice A4 l4 q4,.slice A5 l5 q5,.int .i64 at_];simpa using this);have Hn:=hdq (show Fr NoT w w1 from by rw[Hc];exact((Fr.refl _ _).alloc _).alloc _);have Ga:=hdq Hc;have H1:=hdq h1;have H0:=hdq h0;clear hw h1 h0 hm Hc;subst hk;rw[if_pos (.inl rfl)]at hR;obtain⟨v,hv⟩:=nmq (isI nm 1 ws);have h:=λW (hf:Fr NoT w W)=>H1 W 1 hf;rw[<-hv]at h hR;have HI:=hdq h;have HR:=hdq hR;clear h hv H1 hR;go_enter Tryz.func155,Tryz.ntmps155;go_wp2_with fail;rw[<-Ga.out];refine(HI _ Hn.out).mono ?_;rintro _ w2 ⟨rfl,hb⟩;have Hy:=hdq (Hn.trans hb)
 clear hb;go_wp2_with fail;go_ret;exact⟨by rw[HR.out];rfl,Hy.out⟩
theorem zji (ws:Wl)(k:Int)(hk:k=4)(nm:ByteArray)(A2 A3 A4 A5:Option Addr)(l2 l3 l4 l5 q2 q3 q4 q5:Nat)(at_:Int)(w:World)(An Ak Am:Option Addr)(cn ck cm:Nat)(Gl:l2<=9223372036854775807)(hw:WdR w ws An Ak Am cn ck cm):
  Calls Tryz.prog 155 #[wdV ws An Ak Am cn ck cm,.agg #[.int .u8 k,.string nm,.slice A2 l2 q2,.slice A3 l3 q3,.slice A4 l4 q4,.slice A5 l5 q5,.int .i64 at_]] w (zbX (nmdI ws k nm l2) w):=by
 have h1:=λ(W:World)(kind:Int)(hf:Fr NoT w W)=>zcO ws nm kind W An Ak Am cn ck cm (hw.keep hf);have h0:=λ(W:World)(hf:Fr NoT w W)=>zbp ws nm W An Ak Am cn ck cm (hw.keep hf);have Ty:ws.length<=9223372036854775807:=by have:=hw.names.1;have:=hw.names.2.1;simp at*;omega
 obtain⟨R,hR⟩:=nmq (nmdI ws k nm l2);rw[<-hR];unfold nmdI at hR;unfold wdV at h0 h1 ⊢;obtain⟨m,hm⟩:=nmq ws.length;rw[<-hm]at h0 h1 Ty ⊢;have HM:=hdq hm;have Kl:=hdq hw;obtain⟨w1,Hc⟩:=nmq ((w.alloc (.cells #[.slice An m cn,.slice Ak m ck,.slice Am m cm] 164)).alloc (.cells #[.int .u8 k,.string nm,.slice A2 l2 q2,.slice A3 l3 q3,.slice A4 l4 q4,.slice A5 l5 q5,.int .i64 at_] 39));have Gv:=hdq (show Bk w1 w.heap.size 164 #[.slice An m cn,.slice Ak m ck,.slice Am m cm]from by rw[Hc];exact(Bk.new _ _ _).fr0 ((Fr.refl _ _).alloc _));have FX:=hdq (show Bk w1 (w.heap.size+1) 39 #[.int .u8 k,.string nm,.slice A2 l2 q2,.slice A3 l3 q3,.slice A4 l4 q4,.slice A5 l5 q5,.int .i64 at_]from by rw[Hc];have:=Bk.new (w.alloc (.cells #[.slice An m cn,.slice Ak m ck,.slice Am m cm] 164)) 39 #[.int .u8 k,.string nm,.slice A2 l2 q2,.slice A3 l3 q3,.slice A4 l4 q4,.slice A5 l5 q5,.int .i64 at_];simpa using this);have Hn:=hdq (show Fr NoT w w1 from by rw[Hc];exact((Fr.refl _ _).alloc _).alloc _);have Ga:=hdq Hc;have H1:=hdq h1;have H0:=hdq h0;clear hw h1 h0 hm Hc;subst hk;rw[if_pos (.inr rfl)]at hR;obtain⟨v,hv⟩:=nmq (isI nm 1 ws);have h:=λW (hf:Fr NoT w W)=>H1 W 1 hf;rw[<-hv]at h hR;have HI:=hdq h;have HR:=hdq hR;clear h hv H1 hR;go_enter Tryz.func155,Tryz.ntmps155;go_wp2_with fail;rw[<-Ga.out];refine(HI _ Hn.out).mono ?_;rintro _ w2 ⟨rfl,hb⟩;have Hy:=hdq (Hn.trans hb)
 clear hb;go_wp2_with fail;go_ret;exact⟨by rw[HR.out];rfl,Hy.out⟩
theorem zjj (ws:Wl)(k:Int)(hk:k=3)(nm:ByteArray)(A2 A3 A4 A5:Option Addr)(l2 l3 l4 l5 q2 q3 q4 q5:Nat)(at_:Int)(w:World)(An Ak Am:Option Addr)(cn ck cm:Nat)(Gl:l2<=9223372036854775807)(hw:WdR w ws An Ak Am cn ck cm):
  Calls Tryz.prog 155 #[wdV ws An Ak Am cn ck cm,.agg #[.int .u8 k,.string nm,.slice A2 l2 q2,.slice A3 l3 q3,.slice A4 l4 q4,.slice A5 l5 q5,.int .i64 at_]] w (zbX (nmdI ws k nm l2) w):=by
 have h1:=λ(W:World)(kind:Int)(hf:Fr NoT w W)=>zcO ws nm kind W An Ak Am cn ck cm (hw.keep hf);have h0:=λ(W:World)(hf:Fr NoT w W)=>zbp ws nm W An Ak Am cn ck cm (hw.keep hf);have Ty:ws.length<=9223372036854775807:=by have:=hw.names.1;have:=hw.names.2.1;simp at*;omega
 obtain⟨R,hR⟩:=nmq (nmdI ws k nm l2);rw[<-hR];unfold nmdI at hR;unfold wdV at h0 h1 ⊢;obtain⟨m,hm⟩:=nmq ws.length;rw[<-hm]at h0 h1 Ty ⊢;have HM:=hdq hm;have Kl:=hdq hw;obtain⟨w1,Hc⟩:=nmq ((w.alloc (.cells #[.slice An m cn,.slice Ak m ck,.slice Am m cm] 164)).alloc (.cells #[.int .u8 k,.string nm,.slice A2 l2 q2,.slice A3 l3 q3,.slice A4 l4 q4,.slice A5 l5 q5,.int .i64 at_] 39));have Gv:=hdq (show Bk w1 w.heap.size 164 #[.slice An m cn,.slice Ak m ck,.slice Am m cm]from by rw[Hc];exact(Bk.new _ _ _).fr0 ((Fr.refl _ _).alloc _));have FX:=hdq (show Bk w1 (w.heap.size+1) 39 #[.int .u8 k,.string nm,.slice A2 l2 q2,.slice A3 l3 q3,.slice A4 l4 q4,.slice A5 l5 q5,.int .i64 at_]from by rw[Hc];have:=Bk.new (w.alloc (.cells #[.slice An m cn,.slice Ak m ck,.slice Am m cm] 164)) 39 #[.int .u8 k,.string nm,.slice A2 l2 q2,.slice A3 l3 q3,.slice A4 l4 q4,.slice A5 l5 q5,.int .i64 at_];simpa using this);have Hn:=hdq (show Fr NoT w w1 from by rw[Hc];exact((Fr.refl _ _).alloc _).alloc _);have Ga:=hdq Hc;have H1:=hdq h1;have H0:=hdq h0;clear hw h1 h0 hm Hc;subst hk;rw[if_neg (by decide),if_pos rfl]at hR;obtain⟨v,hv⟩:=nmq (isI nm 2 ws);have h:=λW (hf:Fr NoT w W)=>H1 W 2 hf;rw[<-hv]at h hR;have HI:=hdq h;have HR:=hdq hR;clear h hv H1 hR;go_enter Tryz.func155,Tryz.ntmps155;go_wp2_with fail;rw[<-Ga.out];refine(HI _ Hn.out).mono ?_;rintro _ w2 ⟨rfl,hb⟩
 have Hy:=hdq (Hn.trans hb);clear hb;go_wp2_with fail;go_ret;exact⟨by rw[HR.out];rfl,Hy.out⟩
theorem zjk (ws:Wl)(k:Int)(hk:k=9)(nm:ByteArray)(A2 A3 A4 A5:Option Addr)(l2 l3 l4 l5 q2 q3 q4 q5:Nat)(at_:Int)(w:World)(An Ak Am:Option Addr)(cn ck cm:Nat)(Gl:l2<=9223372036854775807)(hw:WdR w ws An Ak Am cn ck cm):
  Calls Tryz.prog 155 #[wdV ws An Ak Am cn ck cm,.agg #[.int .u8 k,.string nm,.slice A2 l2 q2,.slice A3 l3 q3,.slice A4 l4 q4,.slice A5 l5 q5,.int .i64 at_]] w (zbX (nmdI ws k nm l2) w):=by
 have h1:=λ(W:World)(kind:Int)(hf:Fr NoT w W)=>zcO ws nm kind W An Ak Am cn ck cm (hw.keep hf);have h0:=λ(W:World)(hf:Fr NoT w W)=>zbp ws nm W An Ak Am cn ck cm (hw.keep hf);have Ty:ws.length<=9223372036854775807:=by have:=hw.names.1;have:=hw.names.2.1;simp at*;omega
 obtain⟨R,hR⟩:=nmq (nmdI ws k nm l2);rw[<-hR];unfold nmdI at hR;unfold wdV at h0 h1 ⊢;obtain⟨m,hm⟩:=nmq ws.length;rw[<-hm]at h0 h1 Ty ⊢;have HM:=hdq hm;have Kl:=hdq hw;obtain⟨w1,Hc⟩:=nmq ((w.alloc (.cells #[.slice An m cn,.slice Ak m ck,.slice Am m cm] 164)).alloc (.cells #[.int .u8 k,.string nm,.slice A2 l2 q2,.slice A3 l3 q3,.slice A4 l4 q4,.slice A5 l5 q5,.int .i64 at_] 39));have Gv:=hdq (show Bk w1 w.heap.size 164 #[.slice An m cn,.slice Ak m ck,.slice Am m cm]from by rw[Hc];exact(Bk.new _ _ _).fr0 ((Fr.refl _ _).alloc _));have FX:=hdq (show Bk w1 (w.heap.size+1) 39 #[.int .u8 k,.string nm,.slice A2 l2 q2,.slice A3 l3 q3,.slice A4 l4 q4,.slice A5 l5 q5,.int .i64 at_]from by rw[Hc];have:=Bk.new (w.alloc (.cells #[.slice An m cn,.slice Ak m ck,.slice Am m cm] 164)) 39 #[.int .u8 k,.string nm,.slice A2 l2 q2,.slice A3 l3 q3,.slice A4 l4 q4,.slice A5 l5 q5,.int .i64 at_];simpa using this);have Hn:=hdq (show Fr NoT w w1 from by rw[Hc];exact((Fr.refl _ _).alloc _).alloc _);have Ga:=hdq Hc;have H1:=hdq h1;have H0:=hdq h0;clear hw h1 h0 hm Hc;subst hk;rw[if_neg (by decide),if_neg (by decide),if_pos rfl]at hR;obtain⟨v,hv⟩:=nmq (isI nm 3 ws);have h:=λW (hf:Fr NoT w W)=>H1 W 3 hf;rw[<-hv]at h hR;have HI:=hdq h;clear h H1;by_cases KH:v=0
 rotate_left
 ·rw[if_neg (λh=>KH h.1)]at hR;have HR:=hdq hR;have e1:(v==0)=false:=by simpa using KH
  clear hR KH hv;go_enter Tryz.func155,Tryz.ntmps155;go_wp2_with fail;rw[<-Ga.out];refine(HI _ Hn.out).mono ?_;rintro _ w2 ⟨rfl,hb⟩;have Hp:=Gv.fr0 hb;have He:=FX.fr0 hb;have Hy:=hdq (Hn.trans hb);have a0:=Hp.cell 0;have a1:=Hp.cell 1;have a2:=Hp.cell 2;have b0:=He.cell 0;have b1:=He.cell 1;have b2:=He.cell 2;have y1:=Hp.lt;have y2:=He.lt;simp only[getsL]at a0 a1 a2 b0 b1 b2;have F5:=hdq Hp;have KO:=hdq He;clear hb Hp He;go_wp2_with fail
  go_quiet (fail)
  go_wp2_with fail;go_ret;exact⟨by rw[HR.out];rfl,Hy.drewN _⟩
 ·subst KH;have hs:=zc8 nm ws 0;rcases hs with⟨e1,e2⟩|⟨i,x,e1,e2,e3⟩
  ·exfalso
   unfold isI at hv;rw[e1]at hv;exact absurd hv (by decide)
  rw[Nat.zero_add]at e1;have h0:=H0.out;rw[e1]at h0;have zM:=hdq h0;have Q7:mnI nm ws=x.2.2:=by unfold mnI;rw[e3];rfl
  rw[Q7]at hR;have hi:i < m:=by rw[HM.out];exact(List.getElem?_eq_some_iff.1 e2).1
  obtain⟨b,zN,UF,Hd⟩:=Kl.many.2.2 (by simp;rw[<-HM.out];omega);have c1:=Hd i (.int .i64 x.2.2) (by rw[List.getElem?_map,e2];rfl);subst zN;obtain⟨x0,x1,x2⟩:=x;simp only at c1 hR;have HC:=hdq (aiq UF c1);have Qe:(i:Int) < (m:Int):=by omega
  have Fb:(0:Int)<=(i:Int):=by omega
  have JC:(x2=l2/\R=0)\/(x2≠l2/\R=114):=by
   by_cases h:x2=l2
   ·exact .inl ⟨h,by rw[hR,if_neg (λh2=>h2.2 h)]⟩
   ·exact .inr ⟨h,by rw[hR,if_pos (by simp[h])]⟩
  clear hR hv e1 e2 e3 Q7 UF Hd c1 h0 H0;rcases JC with⟨h,hR⟩|⟨h,hR⟩
  case' inl=>have g1:(x2 != (l2:Int))=false:=by simpa using h
  case' inr=>have g1:(x2 != (l2:Int))=true:=by simpa using h
  all_goals
   have HR:=hdq hR;clear hR h;go_enter Tryz.func155,Tryz.ntmps155;go_wp2_with fail;rw[<-Ga.out];refine(HI _ Hn.out).mono ?_;rintro _ w2 ⟨rfl,hb⟩;have Hp:=Gv.fr0 hb;have He:=FX.fr0 hb;have Hy:=hdq (Hn.trans hb);have a0:=Hp.cell 0;have a1:=Hp.cell 1;have a2:=Hp.cell 2;have b0:=He.cell 0;have b1:=He.cell 1;have b2:=He.cell 2;have y1:=Hp.lt;have y2:=He.lt;simp only[getsL]at a0 a1 a2 b0 b1 b2;have F5:=hdq Hp;have KO:=hdq He;clear hb Hp He;have d1:=(Hy.cell (p:=⟨b,i,none⟩) HC.1 id).trans HC.2;have dx:=ltq HC.1 Hy.size;go_wp2_with fail
   go_region_held2 (λW'=>W'.cell? ⟨w.heap.size,0,none⟩=some (.slice An m cn)/\W'.cell? ⟨w.heap.size,1,none⟩=some (.slice Ak m ck)/\W'.cell? ⟨w.heap.size,2,none⟩=some (.slice (some ⟨b,0,none⟩) m cm)/\W'.cell? ⟨w.heap.size+1,1,none⟩=some (.string nm)/\W'.cell? ⟨w.heap.size+1,2,none⟩=some (.slice A2 l2 q2)/\W'.cell? ⟨b,i,none⟩=some (.int .i64 x2))
    (first
     |(refine⟨?_,?_,?_,?_,?_,?_⟩<;>with_reducible assumption)
     |(with_reducible refine⟨(Fr.cell (T:=NoT) (w:=w5) (Fr.drew (Fr.refl _ _)) y1' id).trans a0',(Fr.cell (T:=NoT) (w:=w5) (Fr.drew (Fr.refl _ _)) y1' id).trans a1',(Fr.cell (T:=NoT) (w:=w5) (Fr.drew (Fr.refl _ _)) y1' id).trans a2',(Fr.cell (T:=NoT) (w:=w5) (Fr.drew (Fr.refl _ _)) y2' id).trans b1',(Fr.cell (T:=NoT) (w:=w5) (Fr.drew (Fr.refl _ _)) y2' id).trans b2',(Fr.cell (T:=NoT) (w:=w5) (Fr.drew (Fr.refl _ _)) dx' id).trans d1'⟩)
     |(with_reducible refine⟨(Fr.cell (T:=NoT) (w:=w2) (Fr.drew (Fr.refl _ _)) y1 id).trans a0,(Fr.cell (T:=NoT) (w:=w2) (Fr.drew (Fr.refl _ _)) y1 id).trans a1,(Fr.cell (T:=NoT) (w:=w2) (Fr.drew (Fr.refl _ _)) y1 id).trans a2,(Fr.cell (T:=NoT) (w:=w2) (Fr.drew (Fr.refl _ _)) y2 id).trans b1,(Fr.cell (T:=NoT) (w:=w2) (Fr.drew (Fr.refl _ _)) y2 id).trans b2,(Fr.cell (T:=NoT) (w:=w2) (Fr.drew (Fr.refl _ _)) dx id).trans d1⟩))
    (first
     |(go_at_call 152
       with_reducible refine(zM.out _ (by exact Hy.out.drew)).mono ?_
       rintro _ w5 ⟨rfl,hb⟩;have Hx:=hdq (Hy.drew.trans hb);have Hs:=(Fr.refl NoT w2).drew.trans hb;have a0':=(F5.fr0 Hs).cell 0;have a1':=(F5.fr0 Hs).cell 1;have a2':=(F5.fr0 Hs).cell 2;have b1':=(KO.fr0 Hs).cell 1;have b2':=(KO.fr0 Hs).cell 2;have y1':=(F5.fr0 Hs).lt;have y2':=(KO.fr0 Hs).lt;have d1':=(Hx.cell (p:=⟨b,i,none⟩) HC.1 id).trans HC.2;have dx':=ltq HC.1 Hx.size;simp only[getsL]at a0' a1' a2' b1' b2';clear hb Hs;dsimp only))
   all_goals
    go_wp2_with fail;go_ret;exact⟨by rw[HR.out];rfl,Hx.out⟩
theorem zh0 (ws:Wl)(k:Int)(nm:ByteArray)(A2 A3 A4 A5:Option Addr)(l2 l3 l4 l5 q2 q3 q4 q5:Nat)(at_:Int)(w:World)(An Ak Am:Option Addr)(cn ck cm:Nat)(Gl:l2<=9223372036854775807)(hw:WdR w ws An Ak Am cn ck cm):
  Calls Tryz.prog 155 #[wdV ws An Ak Am cn ck cm,.agg #[.int .u8 k,.string nm,.slice A2 l2 q2,.slice A3 l3 q3,.slice A4 l4 q4,.slice A5 l5 q5,.int .i64 at_]] w (zbX (nmdI ws k nm l2) w):=by
 by_cases h2:k=2
 ·exact zjh ws k h2 nm A2 A3 A4 A5 l2 l3 l4 l5 q2 q3 q4 q5 at_ w An Ak Am cn ck cm Gl hw
 by_cases h4:k=4
 ·exact zji ws k h4 nm A2 A3 A4 A5 l2 l3 l4 l5 q2 q3 q4 q5 at_ w An Ak Am cn ck cm Gl hw
 by_cases h3:k=3
 ·exact zjj ws k h3 nm A2 A3 A4 A5 l2 l3 l4 l5 q2 q3 q4 q5 at_ w An Ak Am cn ck cm Gl hw
 by_cases h9:k=9
 ·exact zjk ws k h9 nm A2 A3 A4 A5 l2 l3 l4 l5 q2 q3 q4 q5 at_ w An Ak Am cn ck cm Gl hw
 exact zjg ws k ⟨h2,h4,h3,h9⟩ nm A2 A3 A4 A5 l2 l3 l4 l5 q2 q3 q4 q5 at_ w An Ak Am cn ck cm Gl hw
def orI (p q:Int×Int):Int×Int:=if p.2=0 then q else p
theorem zdA {p q:Int×Int}(h:¬p.2=0):orI p q=p:=if_neg h
theorem zg6 {p q:Int×Int}(h:p.2=0):orI p q=q:=if_pos h
def stsI (ws:Wl):Sts->Int×Int
 | .nil =>(0,0)
 | .cons k nm args cond body els at_ r=>
  if nmdI ws k nm (args.len:Int)=0 then
   (if(orI (orI (orI (exsI ws args) (cdsI ws cond)) (stsI ws body)) (stsI ws els)).2 =0 then stsI ws r else orI (orI (orI (exsI ws args) (cdsI ws cond)) (stsI ws body)) (stsI ws els))
  else(at_,nmdI ws k nm (args.len:Int))
theorem zjl {ws:Wl}{xs:Sts}{i:Nat}{a0 a1 a2 a3 a4 a5 a6 ar}(hd:Sts.drop i xs= .cons a0 a1 a2 a3 a4 a5 a6 ar):
  stsI ws (Sts.drop i xs)=if nmdI ws a0 a1 (a2.len:Int)=0 then
   (if(orI (orI (orI (exsI ws a2) (cdsI ws a3)) (stsI ws a4)) (stsI ws a5)).2 =0 then stsI ws (Sts.drop (i+1) xs)else orI (orI (orI (exsI ws a2) (cdsI ws a3)) (stsI ws a4)) (stsI ws a5))
  else(a6,nmdI ws a0 a1 (a2.len:Int)):=by
 rw[Sts.drop_succ i xs hd,hd];rfl
def RsC (ws:Wl)(An Ak Am:Option Addr)(cn ck cm:Nat)(xs:Sts):Prop:=∀(W:World)(S:Nat->Prop)(Z:Prop)(A:Option Addr)(c:Nat),WdR W ws An Ak Am cn ck cm->(∀b,S b->b < W.heap.size)->SlR (λb o=>StR W S Z xs b o) xs.len 128 A c->
 Calls Tryz.prog 91 #[wdV ws An Ak Am cn ck cm,.slice A xs.len c] W (AtE (stsI ws xs) W)
def RsI (ws:Wl)(An Ak Am:Option Addr)(cn ck cm:Nat)(xs:Sts):Prop:=∀(i:Nat)(a0:Int)(a1:ByteArray)(a2:Exs)(a3:Cds)(a4 a5:Sts)(a6:Int)(ar:Sts),Sts.drop i xs= .cons a0 a1 a2 a3 a4 a5 a6 ar->RsC ws An Ak Am cn ck cm a4/\RsC ws An Ak Am cn ck cm a5
theorem zjm (ws:Wl)(An Ak Am:Option Addr)(cn ck cm:Nat)(xs:Sts)(Ho:RsI ws An Ak Am cn ck cm xs):RsC ws An Ak Am cn ck cm xs:=by
 intro w S Z A c hw hS hx;have hl:xs.len<=9223372036854775807:=leq9 hx.1 hx.2.1.1;have HA:=hdq Ho;have HX:=hdq hx;have HS:=hdq hS;have HW:=hdq hw;obtain⟨m,hm⟩:=nmq xs.len;rw[<-hm]at hl ⊢;have HM:=hdq hm;obtain⟨F,hF⟩:=nmq (stsI ws xs);rw[<-hF];have HF:=hdq hF;unfold wdV;obtain⟨nw,KI⟩:=nmq ws.length;rw[<-KI];have ME:=hdq KI;obtain⟨w1,Hc⟩:=nmq (w.alloc (.cells #[.slice An nw cn,.slice Ak nw ck,.slice Am nw cm] 164));have Gv:=hdq (show Bk w1 w.heap.size 164 #[.slice An nw cn,.slice Ak nw ck,.slice Am nw cm]from by rw[Hc];exact Bk.new _ _ _);have Hn:=hdq (show Fr NoT w w1 from by rw[Hc];exact(Fr.refl _ _).alloc _);have Ga:=hdq Hc;clear Ho hx hS hm hF hw KI Hc;go_enter Tryz.func91,Tryz.ntmps91;go_wp2_with fail;rw[<-Ga.out];go_loopw [6] (λi wr=>∃k:Nat,k<=m/\i= .int .i64 k/\Hid (Fr NoT w1 wr)/\Hid (F=stsI ws (Sts.drop k xs))) (λi _=>m - (intOf i).toNat);case atStart=>exact⟨0,Nat.zero_le _,rfl,Fr.refl _ _,HF.out⟩
 case round=>
  clear HF;obtain⟨k,hk,rfl,Gi,Ha⟩:=hrel;have FR:=Gv.fr0 Gi.out;have x0:=FR.cell 0;have x1:=FR.cell 1;have x2:=FR.cell 2;have Hv:=FR.lt;simp only[getsL]at x0 x1 x2;have hb:Fr NoT w wr:=Hn.trans Gi.out;clear FR;by_cases Hr:k < m
  ·obtain⟨a0,a1,a2,a3,a4,a5,a6,ar,hd⟩:=Sts.drop_cons (show k < xs.len from by rw[<-HM.out];exact Hr);obtain⟨b,o,rfl,Hd⟩:=HX.2.2 (by rw[<-HM.out];omega);have Hb:=(StR.keep (hb.same λb hb=>⟨HS b hb,id⟩) Hd).drop k;rw[hd]at Hb;obtain⟨⟨Hf,_,r0,r1,c0,c1,c6⟩,⟨A2,q2,c2,s2⟩,⟨A3,q3,c3,s3⟩,⟨A4,q4,c4,s4⟩,⟨A5,q5,c5,s5⟩,_⟩:=Hb;have Gf:b < wr.heap.size:=ltq (HS _ Hf) hb.size;have Hl:(k:Int) < (m:Int):=by omega
   have Fb:(0:Int)<=(k:Int):=by omega
   have Jr:∀b,S b->b < wr.heap.size:=λb h=>ltq (HS b h) hb.size;obtain⟨KZ,Lr⟩:=HA k a0 a1 a2 a3 a4 a5 a6 ar hd;have g0:=λ(W:World)(hf:Fr NoT wr W)=>zh0 ws a0 a1 A2 A3 A4 A5 a2.len a3.len a4.len a5.len q2 q3 q4 q5 a6 W An Ak Am cn ck cm (leq9 s2.1 s2.2.1.1) (HW.keep (hb.trans hf));have g2:=λ(W:World)(hf:Fr NoT wr W)=>zeq ws An Ak Am cn ck cm a2 W S Z A2 q2 (HW.keep (hb.trans hf)) (λb h=>ltq (Jr b h) hf.size) (s2.imp λ_ _ hx=>ExR.keep (hf.same λb hb=>⟨Jr b hb,id⟩) hx);have g3:=λ(W:World)(hf:Fr NoT wr W)=>zhZ ws An Ak Am cn ck cm a3 W S Z A3 q3 (HW.keep (hb.trans hf)) (λb h=>ltq (Jr b h) hf.size) (s3.imp λ_ _ hx=>CdR.keep (hf.same λb hb=>⟨Jr b hb,id⟩) hx);have g4:=λ(W:World)(hf:Fr NoT wr W)=>KZ W S Z A4 q4 (HW.keep (hb.trans hf)) (λb h=>ltq (Jr b h) hf.size) (s4.imp λ_ _ hx=>StR.keep (hf.same λb hb=>⟨Jr b hb,id⟩) hx);have g5:=λ(W:World)(hf:Fr NoT wr W)=>Lr W S Z A5 q5 (HW.keep (hb.trans hf)) (λb h=>ltq (Jr b h) hf.size) (s5.imp λ_ _ hx=>StR.keep (hf.same λb hb=>⟨Jr b hb,id⟩) hx);have Hq:=Ha.trans (zjl hd);obtain⟨v0,KH⟩:=nmq (nmdI ws a0 a1 (a2.len:Int));obtain⟨p2,Ts⟩:=nmq (exsI ws a2);obtain⟨p3,jB⟩:=nmq (cdsI ws a3);obtain⟨p4,Q4⟩:=nmq (stsI ws a4);obtain⟨p5,VH⟩:=nmq (stsI ws a5);rw[<-KH,<-Ts,<-jB,<-Q4,<-VH]at Hq;rw[<-KH]at g0;rw[<-Ts]at g2;rw[<-jB]at g3;rw[<-Q4]at g4;rw[<-VH]at g5;unfold wdV at g0 g2 g3 g4 g5;rw[<-ME.out]at g0 g2 g3 g4 g5;obtain⟨l2,Gl⟩:=nmq a2.len;obtain⟨l3,Gz⟩:=nmq a3.len;obtain⟨l4,Gy⟩:=nmq a4.len;obtain⟨l5,GN⟩:=nmq a5.len;rw[<-Gl]at g0 g2 c2;rw[<-Gz]at g0 g3 c3
   rw[<-Gy]at g0 g4 c4;rw[<-GN]at g0 g5 c5;have G0:=hdq g0;have G2:=hdq g2;have G3:=hdq g3;have G4:=hdq g4;have G5:=hdq g5;have Hj:=hdq Hq;have HB:=hdq hb;obtain⟨w5,GE⟩:=nmq (wr.alloc (.cells #[.int .u8 a0,.string a1,.slice A2 l2 q2,.slice A3 l3 q3,.slice A4 l4 q4,.slice A5 l5 q5,.int .i64 a6] 39));have VU:=hdq (show Bk w5 wr.heap.size 39 #[.int .u8 a0,.string a1,.slice A2 l2 q2,.slice A3 l3 q3,.slice A4 l4 q4,.slice A5 l5 q5,.int .i64 a6]from by rw[GE];exact Bk.new _ _ _);have Pm:=hdq (show Fr NoT wr w5 from by rw[GE];exact(Fr.refl _ _).alloc _);have Hu:=hdq (Gi.trans Pm.out);have JD:=hdq GE;clear hd Hd Ha hb Gi Hf s2 s3 s4 s5 r0 r1 g0 g2 g3 g4 g5 Hq KH Ts jB Q4 VH Gl Gz Gy GN Jr KZ Lr GE;go_wp2_with fail;rw[<-JD.out];clear x0 x1 x2 Hv c0 c1 c2 c3 c4 c5 c6 Gf;have Hp:=Gv.fr0 (Hu.trans (Fr.refl _ _));have He:=VU.fr0 (Fr.refl _ _);have x0:=Hp.cell 0;have x1:=Hp.cell 1;have x2:=Hp.cell 2;have y0:=He.cell 0;have y1:=He.cell 1;have y2:=He.cell 2;have y3:=He.cell 3;have y4:=He.cell 4;have y5:=He.cell 5;have y6:=He.cell 6;have Hv:=Hp.lt;have Gl:=He.lt;simp only[getsL]at x0 x1 x2 y0 y1 y2 y3 y4 y5 y6;clear Hp He;refine(G0 _ Pm.out).mono ?_;rintro _ w6 ⟨rfl,hf⟩;clear x0 x1 x2 y0 y1 y2 y3 y4 y5 y6 Hv Gl;have Hp:=Gv.fr0 (Hu.trans hf);have He:=VU.fr0 hf;have x0:=Hp.cell 0;have x1:=Hp.cell 1;have x2:=Hp.cell 2;have y0:=He.cell 0;have y1:=He.cell 1;have y2:=He.cell 2;have y3:=He.cell 3;have y4:=He.cell 4;have y5:=He.cell 5;have y6:=He.cell 6;have Hv:=Hp.lt
   have Gl:=He.lt;simp only[getsL]at x0 x1 x2 y0 y1 y2 y3 y4 y5 y6;clear Hp He;have GF:=hdq hf;clear hf;by_cases hz:v0=0
   rotate_left
   ·have HN:=hdq (show F=(a6,v0)from by rw[Hj.out,if_neg hz]);have e1:(v0 != 0)=true:=by simpa using hz
    clear Hj hz;go_wp2_with fail
    go_ret2
    exact⟨by rw[HN.out];rfl,(HB.trans Pm.out).trans GF.out⟩
   subst hz;obtain⟨P,hP⟩:=nmq (orI (orI (orI p2 p3) p4) p5);have F7:=hdq (show F=if P.2=0 then stsI ws (Sts.drop (k+1) xs)else P from by rw[Hj.out,if_pos rfl,hP]);have HP:=hdq hP;clear Hj hP;go_wp2_with fail;refine(G2 _ (Pm.trans GF.out)).mono ?_;rintro _ w7 ⟨rfl,hf⟩;obtain⟨u1,u2⟩:=p2;clear x0 x1 x2 y0 y1 y2 y3 y4 y5 y6 Hv Gl;have Hp:=Gv.fr0 (Hu.trans (GF.trans hf));have He:=VU.fr0 (GF.trans hf);have x0:=Hp.cell 0;have x1:=Hp.cell 1;have x2:=Hp.cell 2;have y0:=He.cell 0;have y1:=He.cell 1;have y2:=He.cell 2;have y3:=He.cell 3;have y4:=He.cell 4;have y5:=He.cell 5;have y6:=He.cell 6;have Hv:=Hp.lt;have Gl:=He.lt;simp only[getsL]at x0 x1 x2 y0 y1 y2 y3 y4 y5 y6;clear Hp He;have JG:=hdq (GF.trans hf);clear hf;by_cases hz:u2=0
   rotate_left
   ·have UG:=hdq (show P=(u1,u2)from by rw[HP.out,zdA (p:=(u1,u2)) hz,zdA (p:=(u1,u2)) hz,zdA (p:=(u1,u2)) hz]);have e2:(u2==0)=false:=by simpa using hz
    have e1:(u2 != 0)=true:=by simpa using hz
    have HN:=hdq (show F=(u1,u2)from by rw[F7.out,UG.out,if_neg hz]);clear F7 hz;go_wp2_with fail
    go_ret2
    exact⟨by rw[HN.out];rfl,(HB.trans Pm.out).trans JG.out⟩
   subst hz;have jC:=hdq (show P=orI (orI p3 p4) p5 from by rw[HP.out,zg6 (p:=(u1,0)) rfl]);clear HP;go_wp2_with fail;refine(G3 _ (Pm.trans JG.out)).mono ?_;rintro _ w8 ⟨rfl,hf⟩;obtain⟨t1,t2⟩:=p3;clear x0 x1 x2 y0 y1 y2 y3 y4 y5 y6 Hv Gl;have Hp:=Gv.fr0 (Hu.trans (JG.trans hf));have He:=VU.fr0 (JG.trans hf);have x0:=Hp.cell 0;have x1:=Hp.cell 1;have x2:=Hp.cell 2;have y0:=He.cell 0;have y1:=He.cell 1;have y2:=He.cell 2;have y3:=He.cell 3;have y4:=He.cell 4;have y5:=He.cell 5;have y6:=He.cell 6;have Hv:=Hp.lt;have Gl:=He.lt;simp only[getsL]at x0 x1 x2 y0 y1 y2 y3 y4 y5 y6;clear Hp He;have GD:=hdq (JG.trans hf);clear hf;by_cases hz:t2=0
   rotate_left
   ·have UG:=hdq (show P=(t1,t2)from by rw[jC.out,zdA (p:=(t1,t2)) hz,zdA (p:=(t1,t2)) hz]);have e2:(t2==0)=false:=by simpa using hz
    have e1:(t2 != 0)=true:=by simpa using hz
    have HN:=hdq (show F=(t1,t2)from by rw[F7.out,UG.out,if_neg hz]);clear F7 hz;go_wp2_with fail
    go_ret2
    exact⟨by rw[HN.out];rfl,(HB.trans Pm.out).trans GD.out⟩
   subst hz;have jD:=hdq (show P=orI p4 p5 from by rw[jC.out,zg6 (p:=(t1,0)) rfl]);clear jC;go_wp2_with fail;refine(G4 _ (Pm.trans GD.out)).mono ?_;rintro _ w9 ⟨rfl,hf⟩;obtain⟨r1,r2⟩:=p4;clear x0 x1 x2 y0 y1 y2 y3 y4 y5 y6 Hv Gl;have Hp:=Gv.fr0 (Hu.trans (GD.trans hf));have He:=VU.fr0 (GD.trans hf);have x0:=Hp.cell 0;have x1:=Hp.cell 1;have x2:=Hp.cell 2;have y0:=He.cell 0;have y1:=He.cell 1;have y2:=He.cell 2;have y3:=He.cell 3;have y4:=He.cell 4;have y5:=He.cell 5;have y6:=He.cell 6;have Hv:=Hp.lt;have Gl:=He.lt;simp only[getsL]at x0 x1 x2 y0 y1 y2 y3 y4 y5 y6;clear Hp He;have FT:=hdq (GD.trans hf);clear hf;by_cases hz:r2=0
   rotate_left
   ·have UG:=hdq (show P=(r1,r2)from by rw[jD.out,zdA (p:=(r1,r2)) hz]);have e2:(r2==0)=false:=by simpa using hz
    have e1:(r2 != 0)=true:=by simpa using hz
    have HN:=hdq (show F=(r1,r2)from by rw[F7.out,UG.out,if_neg hz]);clear F7 hz;go_wp2_with fail
    go_ret2
    exact⟨by rw[HN.out];rfl,(HB.trans Pm.out).trans FT.out⟩
   subst hz;have zO:=hdq (show P=p5 from by rw[jD.out,zg6 (p:=(r1,0)) rfl]);clear jD;go_wp2_with fail;refine(G5 _ (Pm.trans FT.out)).mono ?_;rintro _ DI ⟨rfl,hf⟩;obtain⟨z1,z2⟩:=p5;have UG:=zO;clear x0 x1 x2 y0 y1 y2 y3 y4 y5 y6 Hv Gl;have J3:=hdq (FT.trans hf);clear hf;by_cases hz:z2=0
   ·have HN:=hdq (show F=stsI ws (Sts.drop (k+1) xs)from by rw[F7.out,UG.out,if_pos hz]);have e1:(z2 != 0)=false:=by simpa using hz
    clear F7;go_wp2_with fail;go_roundw;case rel=>exact⟨k+1,by omega,by go_num,Hu.trans J3.out,HN.out⟩
    case measure=>simp[intOf];omega
   ·have HN:=hdq (show F=(z1,z2)from by rw[F7.out,UG.out,if_neg hz]);have e1:(z2 != 0)=true:=by simpa using hz
    clear F7;go_wp2_with fail
    go_ret2
    exact⟨by rw[HN.out];rfl,(HB.trans Pm.out).trans J3.out⟩
  ·have HN:=hdq (show F=(0,0)from by rw[Ha.out,Sts.drop_nil (by rw[<-HM.out];omega)];rfl);have Hl:¬(k:Int) < (m:Int):=by omega
   have HB:=hdq hb;clear Ha hb Gi;go_wp2_with fail
   go_ret2
   exact⟨by rw[HN.out];rfl,HB.out⟩
theorem zeY (ws:Wl)(An Ak Am:Option Addr)(cn ck cm:Nat):∀xs:Sts,RsI ws An Ak Am cn ck cm xs
 | .nil =>λi _ _ _ _ _ _ _ _ hd=>by cases i<;>simp[Sts.drop]at hd
 | .cons k0 k1 k2 k3 k4 k5 k6 kr=>λi _ _ _ _ _ _ _ _ hd=>by
  cases i with
  |zero=>
   simp only[Sts.drop]at hd;injection hd with e0 e1 e2 e3 e4 e5 e6 e7;subst e0 e1 e2 e3 e4 e5 e6 e7;exact⟨zjm ws An Ak Am cn ck cm k4 (zeY ws An Ak Am cn ck cm k4),zjm ws An Ak Am cn ck cm k5 (zeY ws An Ak Am cn ck cm k5)⟩
  |succ i=>
   simp only[Sts.drop]at hd;exact zeY ws An Ak Am cn ck cm kr i _ _ _ _ _ _ _ _ hd
theorem zer (ws:Wl)(An Ak Am:Option Addr)(cn ck cm:Nat)(xs:Sts):RsC ws An Ak Am cn ck cm xs:=zjm ws An Ak Am cn ck cm xs (zeY ws An Ak Am cn ck cm xs)
