/-
  ref10: mayStmt, mayStmts: THE CONTRACT.
-/
import Derived.Test.YtmopichdofgndaaGreatDoorRmSt1
import Derived.Test.YtmopichdofgndaaGreatDoorRmSt2
import Derived.Test.YtmopichdofgndaaGreatDoorRmSt3
import Derived.Test.YtmopichdofgndaaGreatDoorJnCkC
set_option linter.unusedVariables false
set_option linter.unusedSimpArgs false
set_option maxHeartbeats 3200000
set_option maxRecDepth 100000
namespace Go.Proofs.YtmopichdofgndaaGreatDoor
open Go.RowKit Go.Shelf

def MsC (xs:Sts):Prop:=∀(W:World) (S:Nat→Prop) (Z:Prop) (A:Option Addr) (c:Nat),(∀b,S b→b < W.heap.size)→szS xs→SlR (fun b o=>StR W S Z xs b o) xs.len 128 A c→
 Calls Tryz.prog 105 #[.slice A xs.len c] W (EqPost (okS xs) W)
def MsI (xs:Sts):Prop:=∀(i:Nat) (a0:Int) (a1:ByteArray) (a2:Exs) (a3:Cds) (a4 a5:Sts) (a6:Int) (ar:Sts),Sts.drop i xs= .cons a0 a1 a2 a3 a4 a5 a6 ar→MsC a4∧MsC a5
theorem szS_drop:∀(i:Nat) {xs:Sts} {a0 a1 a2 a3 a4 a5 a6 ar},szS xs→Sts.drop i xs= .cons a0 a1 a2 a3 a4 a5 a6 ar→a1.size≤9223372036854775807∧szX a2∧szC a3∧szS a4∧szS a5
 |0,.nil,_,_,_,_,_,_,_,_,_,hd=>by simp[Sts.drop]at hd
 |i+1,.nil,_,_,_,_,_,_,_,_,_,hd=>by simp[Sts.drop]at hd
 |0,.cons _ _ _ _ _ _ _ _,_,_,_,_,_,_,_,_,h,hd=>by
  simp only[Sts.drop]at hd
  injection hd with e0 e1 e2 e3 e4 e5 e6 e7
  subst e1 e2 e3 e4 e5
  exact⟨h.1,h.2.1,h.2.2.1,h.2.2.2.1,h.2.2.2.2.1⟩
 |i+1,.cons _ _ _ _ _ _ _ _,_,_,_,_,_,_,_,_,h,hd=>by
  simp only[Sts.drop]at hd
  exact szS_drop i h.2.2.2.2.2 hd
theorem okS_step {xs:Sts} {i:Nat} {a0 a1 a2 a3 a4 a5 a6 ar} (hd:Sts.drop i xs= .cons a0 a1 a2 a3 a4 a5 a6 ar):okS (Sts.drop i xs)=(okT a0 a1 a2 a3 a4 a5 a6&&okS (Sts.drop (i+1) xs)):=by
 rw[Sts.drop_succ i xs hd,hd];rfl
theorem mst_out (k:Int) (hk:k < 1∨9 < k) (nm:ByteArray) (A2 A3 A4 A5:Option Addr) (l2 l3 l4 l5 q2 q3 q4 q5:Nat) (at_:Int) (w:World):
  Calls Tryz.prog 168 #[.agg #[.int .u8 k,.string nm,.slice A2 l2 q2,.slice A3 l3 q3,.slice A4 l4 q4,.slice A5 l5 q5,.int .i64 at_]] w (EqPost false w):=by
 have HF1:=hdq (show Fr NoT w (w.alloc (.cells #[.int .u8 k,.string nm,.slice A2 l2 q2,.slice A3 l3 q3,.slice A4 l4 q4,.slice A5 l5 q5,.int .i64 at_] 39))from(Fr.refl _ _).alloc _)
 rcases hk with h|h
 ·have e1:decide (k < 1)=true:=by simp;omega
  clear h
  go_enter Tryz.func168,Tryz.ntmps168
  go_wp2_with fail
  go_ret
  exact⟨rfl,HF1.out⟩
 ·have e1:decide (k < 1)=false:=by simp;omega
  have e2:decide (9 < k)=true:=by simp;omega
  clear h
  go_enter Tryz.func168,Tryz.ntmps168
  go_wp2_with fail
  go_ret
  exact⟨rfl,HF1.out⟩
theorem mst_any (k:Int) (nm:ByteArray) (args:Exs) (cond:Cds) (body els:Sts) (at_:Int) (w:World) (S:Nat→Prop) (Z:Prop) (A2 A3 A4 A5:Option Addr) (q2 q3 q4 q5:Nat) (hs:nm.size≤9223372036854775807) (hS:∀b,S b→b < w.heap.size) (hz1:szX args) (hz2:szC cond)
  (hx:SlR (fun b o=>ExR w S Z args b o) args.len 64 A2 q2) (hy:SlR (fun b o=>CdR w S Z cond b o) cond.len 64 A3 q3) (hl4:body.len≤9223372036854775807) (hl5:els.len≤9223372036854775807)
  (h4:∀W,Fr NoT w W→Calls Tryz.prog 105 #[.slice A4 body.len q4] W (EqPost (okS body) W)) (h5:∀W,Fr NoT w W→Calls Tryz.prog 105 #[.slice A5 els.len q5] W (EqPost (okS els) W)):
  Calls Tryz.prog 168 #[.agg #[.int .u8 k,.string nm,.slice A2 args.len q2,.slice A3 cond.len q3,.slice A4 body.len q4,.slice A5 els.len q5,.int .i64 at_]] w (EqPost (okT k nm args cond body els at_) w):=by
 by_cases h:k < 1∨9 < k
 ·have:=mst_out k h nm A2 A3 A4 A5 args.len cond.len body.len els.len q2 q3 q4 q5 at_ w
  rw[show okT k nm args cond body els at_=false from by
   unfold okT
   rcases h with h|h
   ·rw[show decide (1≤k)=false from by simp;omega];simp
   ·rw[show decide (k≤9)=false from by simp;omega];simp]
  exact this
 have:k=1∨k=2∨k=3∨k=4∨k=5∨k=6∨k=7∨k=8∨k=9:=by omega
 rcases this with rfl|rfl|rfl|rfl|rfl|rfl|rfl|rfl|rfl
 ·exact mst_k1 nm args cond body els at_ w S Z A2 A3 A4 A5 q2 q3 q4 q5 hs hS hz1 hz2 hx hy hl4 hl5 h4 h5
 ·exact mst_k2 nm args cond body els at_ w S Z A2 A3 A4 A5 q2 q3 q4 q5 hs hS hz1 hz2 hx hy hl4 hl5 h4 h5
 ·exact mst_k3 nm args cond body els at_ w S Z A2 A3 A4 A5 q2 q3 q4 q5 hs hS hz1 hz2 hx hy hl4 hl5 h4 h5
 ·exact mst_k4 nm args cond body els at_ w S Z A2 A3 A4 A5 q2 q3 q4 q5 hs hS hz1 hz2 hx hy hl4 hl5 h4 h5
 ·exact mst_k5 nm args cond body els at_ w S Z A2 A3 A4 A5 q2 q3 q4 q5 hs hS hz1 hz2 hx hy hl4 hl5 h4 h5
 ·exact mst_k6 nm args cond body els at_ w S Z A2 A3 A4 A5 q2 q3 q4 q5 hs hS hz1 hz2 hx hy hl4 hl5 h4 h5
 ·exact mst_k7 nm args cond body els at_ w S Z A2 A3 A4 A5 q2 q3 q4 q5 hs hS hz1 hz2 hx hy hl4 hl5 h4 h5
 ·exact mst_k8 nm args cond body els at_ w S Z A2 A3 A4 A5 q2 q3 q4 q5 hs hS hz1 hz2 hx hy hl4 hl5 h4 h5
 ·exact mst_k9 nm args cond body els at_ w S Z A2 A3 A4 A5 q2 q3 q4 q5 hs hS hz1 hz2 hx hy hl4 hl5 h4 h5
theorem ms_one (xs:Sts) (hall0:MsI xs):MsC xs:=by
 intro w S Z A c hS hsz hx
 have hl:xs.len≤9223372036854775807:=leq9 hx.1 hx.2.1.1
 have HA:=hdq hall0
 have HX:=hdq hx
 have HS:=hdq hS
 have HZ:=hdq hsz
 obtain⟨m,hm⟩:=nmq xs.len
 rw[←hm]at hl ⊢
 have HM:=hdq hm
 obtain⟨F,hF⟩:=nmq (okS xs)
 rw[←hF]
 have HF:=hdq hF
 clear hall0 hx hS hm hF hsz
 go_enter Tryz.func105,Tryz.ntmps105
 go_wp2_with fail
 go_loopw [3] (fun i wr=>∃k:Nat,k≤m∧i= .int .i64 k∧Hid (Fr NoT w wr)∧Hid (F=okS (Sts.drop k xs))) (fun i _=>m - (intOf i).toNat)
 case atStart=>exact⟨0,Nat.zero_le _,rfl,Fr.refl _ _,HF.out⟩
 case round=>
  clear HF
  obtain⟨k,hk,rfl,hb,hall⟩:=hrel
  by_cases hlt:k < m
  ·obtain⟨a0,a1,a2,a3,a4,a5,a6,ar,hd⟩:=Sts.drop_cons (show k < xs.len from by rw[←HM.out];exact hlt)
   obtain⟨b,o,rfl,hat⟩:=HX.out.2.2 (by rw[←HM.out];omega)
   have hat1:=(StR.keep (hb.out.same fun b hb=>⟨HS.out b hb,id⟩) hat).drop k
   rw[hd]at hat1
   obtain⟨⟨hbS,_,r0,r1,c0,c1,c6⟩,⟨A2,q2,c2,s2⟩,⟨A3,q3,c3,s3⟩,⟨A4,q4,c4,s4⟩,⟨A5,q5,c5,s5⟩,_⟩:=hat1
   have hxr:b < wr.heap.size:=ltq (HS.out _ hbS) hb.out.size
   have hlt':(k:Int) < (m:Int):=by omega
   have hge:(0:Int)≤(k:Int):=by omega
   obtain⟨z1,z2,z3,z4,z5⟩:=szS_drop k HZ.out hd
   have hSr:∀b,S b→b < wr.heap.size:=fun b h=>ltq (HS.out b h) hb.out.size
   obtain⟨hr4,hr5⟩:=HA.out k a0 a1 a2 a3 a4 a5 a6 ar hd
   have hone:=mst_any a0 a1 a2 a3 a4 a5 a6 wr S Z A2 A3 A4 A5 q2 q3 q4 q5 z1 hSr z2 z3 s2 s3 (leq9 s4.1 s4.2.1.1) (leq9 s5.1 s5.2.1.1)
    (fun W hf=>hr4 W S Z A4 q4 (fun b h=>ltq (hSr b h) hf.size) z4 (s4.imp fun _ _ hx=>StR.keep (hf.same fun b hb=>⟨hSr b hb,id⟩) hx))
    (fun W hf=>hr5 W S Z A5 q5 (fun b h=>ltq (hSr b h) hf.size) z5 (s5.imp fun _ _ hx=>StR.keep (hf.same fun b hb=>⟨hSr b hb,id⟩) hx))
   have hst:=hall.out.trans (okS_step hd)
   obtain⟨v,hv⟩:=nmq (okT a0 a1 a2 a3 a4 a5 a6)
   rw[←hv]at hst hone
   have H1:=hdq hone
   have HST:=hdq hst
   have HB:=hdq hb.out
   clear hd hat hall hb hbS s2 s3 s4 s5 r0 r1 hone hst hv z1 z2 z3 z4 z5 hSr hr4 hr5
   go_wp2_with fail
   refine H1.out.mono ?_
   rintro _ w1 ⟨rfl,hb1⟩
   have HB1:=hdq (HB.out.trans hb1)
   clear hb1 c0 c1 c2 c3 c4 c5 c6
   cases v
   ·have HF:=hdq (show F=false from by rw[HST.out];rfl)
    clear HST
    go_wp2_with fail
    go_ret
    exact⟨by rw[HF.out];rfl,HB1.out⟩
   ·have HN:=hdq (show F=okS (Sts.drop (k+1) xs)from by rw[HST.out];rfl)
    clear HST
    go_wp2_with fail
    go_roundw
    case rel=>exact⟨k+1,by omega,by go_num,HB1.out,HN.out⟩
    case measure=>simp[intOf];omega
  ·have HF:=hdq (show F=true from by rw[hall.out,Sts.drop_nil (by rw[←HM.out];omega)];rfl)
   have HB:=hdq hb.out
   clear hall hb
   go_wp2_with fail
   go_ret
   exact⟨by rw[HF.out];rfl,HB.out⟩
theorem msi_all:∀xs:Sts,MsI xs
 | .nil =>fun i _ _ _ _ _ _ _ _ hd=>by cases i<;>simp[Sts.drop]at hd
 | .cons k0 k1 k2 k3 k4 k5 k6 kr=>fun i _ _ _ _ _ _ _ _ hd=>by
  cases i with
  |zero=>
   simp only[Sts.drop]at hd
   injection hd with e0 e1 e2 e3 e4 e5 e6 e7
   subst e0 e1 e2 e3 e4 e5 e6 e7
   exact⟨ms_one k4 (msi_all k4),ms_one k5 (msi_all k5)⟩
  |succ i=>
   simp only[Sts.drop]at hd
   exact msi_all kr i _ _ _ _ _ _ _ _ hd
theorem mstmts_any (xs:Sts):MsC xs:=ms_one xs (msi_all xs)

theorem rnames_any (xs:List Va) (w:World) (S:Nat→Prop) (Z:Prop) (A:Option Addr) (c:Nat) (hS:∀b,S b→b < w.heap.size) (hsz:∀x∈xs,x.nm.size≤9223372036854775807) (hx:SlR (VaR w S Z xs) xs.length 24 A c):
  Calls Tryz.prog 104 #[.slice A xs.length c] w (EqPost (okVs xs) w):=by
 have hl:xs.length≤9223372036854775807:=leq9 hx.1 hx.2.1.1
 have HX:=hdq hx
 have HS:=hdq hS
 have HZ:=hdq hsz
 obtain⟨m,hm⟩:=nmq xs.length
 rw[←hm]at hl ⊢
 have HM:=hdq hm
 obtain⟨F,hF⟩:=nmq (okVs xs)
 rw[←hF]
 have HF:=hdq (show F=allVa (fun nm _=>nameB nm.data.toList) (xs.drop 0)from hF)
 clear hx hS hm hF hsz
 go_enter Tryz.func104,Tryz.ntmps104
 go_wp2_with fail
 go_loopw [3] (fun i wr=>∃k:Nat,k≤m∧i= .int .i64 k∧Hid (Fr NoT w wr)∧Hid (F=allVa (fun nm _=>nameB nm.data.toList) (xs.drop k))) (fun i _=>m - (intOf i).toNat)
 case atStart=>exact⟨0,Nat.zero_le _,rfl,Fr.refl _ _,HF.out⟩
 case round=>
  clear HF
  obtain⟨k,hk,rfl,hb,hall⟩:=hrel
  by_cases hlt:k < m
  ·obtain⟨⟨a0,a1⟩,ar,hd⟩:=drop_head1 (show k < xs.length from by rw[←HM.out];exact hlt)
   obtain⟨b,o,rfl,hat⟩:=HX.out.2.2 (by rw[←HM.out];omega)
   have hat1:=(VaR.keep (hb.out.same fun b hb=>⟨HS.out b hb,id⟩) hat).drop k
   rw[hd.1]at hat1
   obtain⟨⟨hbS,_,r0,c0,c1⟩,_⟩:=hat1
   have hxr:b < wr.heap.size:=ltq (HS.out _ hbS) hb.out.size
   have hlt':(k:Int) < (m:Int):=by omega
   have hge:(0:Int)≤(k:Int):=by omega
   have hone:=rname_any a0 (HZ.out _ (mem_drop1 hd.1)) wr
   have hst:=hall.out.trans (allVa_step hd)
   obtain⟨v,hv⟩:=nmq (nameB a0.data.toList)
   rw[←hv]at hst hone
   have H1:=hdq hone
   have HST:=hdq hst
   have HB:=hdq hb.out
   simp only at c0 c1
   clear hd hat hall hb hbS r0 hone hst hv
   go_wp2_with fail
   refine H1.out.mono ?_
   rintro _ w1 ⟨rfl,hb1⟩
   have HB1:=hdq (HB.out.trans (Fr.below hb1))
   clear hb1 c0 c1
   cases v
   ·have HF:=hdq (show F=false from by rw[HST.out];rfl)
    clear HST
    go_wp2_with fail
    go_ret
    exact⟨by rw[HF.out];rfl,HB1.out⟩
   ·have HN:=hdq (show F=allVa (fun nm _=>nameB nm.data.toList) (xs.drop (k+1))from by rw[HST.out];rfl)
    clear HST
    go_wp2_with fail
    go_roundw
    case rel=>exact⟨k+1,by omega,by go_num,HB1.out,HN.out⟩
    case measure=>simp[intOf];omega
  ·have HF:=hdq (show F=true from by rw[hall.out,List.drop_eq_nil_of_le (by rw[←HM.out];omega)];rfl)
   have HB:=hdq hb.out
   clear hall hb
   go_wp2_with fail
   go_ret
   exact⟨by rw[HF.out];rfl,HB.out⟩
def okA1 (nm:ByteArray) (size:Int) (_:Int):Bool:=nameB nm.data.toList&&decide (0≤size)
def okP1 (nm:ByteArray) (ps:List Va) (body:Sts) (_:Int):Bool:=nameB nm.data.toList&&okVs ps&&okS body
theorem rmay_any (t:Tre) (w:World) (S:Nat→Prop) (Z:Prop) (Av Aa Ap Am:Option Addr) (cv ca cp cm:Nat) (hS:∀b,S b→b < w.heap.size) (hsz:SzT t) (hx:TrR w S Z t Av Aa Ap Am cv ca cp cm):
  Calls Tryz.prog 42 #[trV t Av Aa Ap Am cv ca cp cm] w (EqPost (okTr t) w):=by
 have hsw:∀W,Fr NoT w W→∀b,S b→b < W.heap.size:=fun W h b hb=>ltq (hS b hb) h.size
 have hxw:∀W,Fr NoT w W→TrR W S Z t Av Aa Ap Am cv ca cp cm:=fun W h=>hx.keep (h.same fun b hb=>⟨hS b hb,id⟩)
 have h1:=fun W (h:Fr NoT w W)=>rnames_any t.vars W S Z Av cv (hsw W h) hsz.vars (hxw W h).vars
 have h2:=fun W (h:Fr NoT w W)=>mstmts_any t.main W S Z Am cm (hsw W h) hsz.main (hxw W h).main
 have hl2:t.arrays.length≤9223372036854775807:=leq9 hx.arrays.1 hx.arrays.2.1.1
 have hl3:t.procs.length≤9223372036854775807:=leq9 hx.procs.1 hx.procs.2.1.1
 obtain⟨R,hR⟩:=nmq (okTr t)
 rw[←hR]
 replace hR:R=(okVs t.vars&&okS t.main&&allAr okA1 t.arrays&&allPr okP1 t.procs):=hR
 unfold trV
 obtain⟨n1,hn1⟩:=nmq t.vars.length
 obtain⟨n2,hn2⟩:=nmq t.arrays.length
 obtain⟨n3,hn3⟩:=nmq t.procs.length
 obtain⟨n4,hn4⟩:=nmq t.main.len
 obtain⟨v1,hv1⟩:=nmq (okVs t.vars)
 obtain⟨v2,hv2⟩:=nmq (okS t.main)
 rw[←hn1,←hv1]at h1
 rw[←hn4,←hv2]at h2
 rw[←hv1,←hv2]at hR
 rw[←hn2]at hl2
 rw[←hn3]at hl3
 rw[←hn1,←hn2,←hn3,←hn4]
 have HN2:=hdq hn2
 have HN3:=hdq hn3
 have H1:=hdq h1
 have H2:=hdq h2
 have HR:=hdq hR
 have HSW:=hdq hsw
 have HXW:=hdq hxw
 have HZ:=hdq hsz
 have HF1:=hdq (show Fr NoT w (w.alloc (.cells #[.slice Av n1 cv,.slice Aa n2 ca,.slice Ap n3 cp,.slice Am n4 cm] 27))from(Fr.refl _ _).alloc _)
 have HK1:=hdq (Bk.new w 27 #[.slice Av n1 cv,.slice Aa n2 ca,.slice Ap n3 cp,.slice Am n4 cm])
 clear hsw hxw h1 h2 hR hn1 hn2 hn3 hn4 hv1 hv2 hx hS hsz
 go_enter Tryz.func42,Tryz.ntmps42
 go_wp2_with fail
 refine(H1.out _ HF1.out).mono ?_
 rintro _ w2 ⟨rfl,hb⟩
 have hk:=HK1.out.fr0 hb
 obtain⟨x0,x1,x2,x3,hl1⟩:=bk4 hk
 have HF2:=hdq (HF1.out.trans hb)
 have HK2:=hdq hk
 clear hb hk
 cases v1
 ·have HF:=hdq (show R=false from by rw[HR.out];simp)
  clear HR
  go_wp2_with fail
  go_ret
  exact⟨by rw[HF.out];rfl,HF2.out⟩
 go_wp2_with fail
 refine(H2.out _ HF2.out).mono ?_
 rintro _ w3 ⟨rfl,hb⟩
 have hk:=HK2.out.fr0 hb
 clear x0 x1 x2 x3 hl1
 obtain⟨x0,x1,x2,x3,hl1⟩:=bk4 hk
 have HF3:=hdq (HF2.out.trans hb)
 have HK3:=hdq hk
 clear hb hk
 cases v2
 ·have HF:=hdq (show R=false from by rw[HR.out];simp)
  clear HR
  go_wp2_with fail
  go_ret
  exact⟨by rw[HF.out];rfl,HF3.out⟩
 have HR0:=hdq (show R=(allAr okA1 (t.arrays.drop 0)&&allPr okP1 t.procs)from by rw[HR.out];simp)
 clear HR
 go_wp2_with fail
 go_loopw [3] (fun i wr=>∃k:Nat,k≤n2∧i= .int .i64 k∧Hid (Fr NoT w3 wr)∧Hid (R=(allAr okA1 (t.arrays.drop k)&&allPr okP1 t.procs))) (fun i _=>n2 - (intOf i).toNat)
 case atStart=>exact⟨0,Nat.zero_le _,rfl,Fr.refl _ _,HR0.out⟩
 case round=>
  clear HR0 x0 x1 x2 x3 hl1
  obtain⟨k,hk,rfl,hb,hall⟩:=hrel
  have hkk:=HK3.out.fr0 hb.out
  obtain⟨x0,x1,x2,x3,hl1⟩:=bk4 hkk
  have HKr:=hdq hkk
  have HB:=hdq (HF3.out.trans hb.out)
  have HB3:=hdq hb.out
  clear hkk hb
  by_cases hlt:k < n2
  ·have hlt':(k:Int) < (n2:Int):=by omega
   have hge:(0:Int)≤(k:Int):=by omega
   obtain⟨⟨a0,a1,a2⟩,ar,hd⟩:=drop_head1 (show k < t.arrays.length from by rw[←HN2.out];exact hlt)
   obtain⟨b,o,rfl,hat⟩:=(HXW.out _ HB.out).arrays.2.2 (by rw[←HN2.out];omega)
   have hat1:=hat.drop k
   rw[hd.1]at hat1
   obtain⟨⟨hbS,_,r0,r1,c0,c1,c2⟩,_⟩:=hat1
   have hxr:b < wr.heap.size:=HSW.out _ HB.out _ hbS
   have hone:=rname_any a0 (HZ.out.arrays _ (mem_drop1 hd.1)) wr
   have hst:=hall.out
   rw[allAr_step hd]at hst
   unfold okA1 at hst
   obtain⟨v,hv⟩:=nmq (nameB a0.data.toList)
   rw[←hv]at hst hone
   have H1:=hdq hone
   have HST:=hdq hst
   simp only at c0 c1 c2
   have HC1:=hdq (aiq hxr c1)
   clear hd hall r0 r1 hone hst hv hat hbS
   go_wp2_with fail
   refine H1.out.mono ?_
   rintro _ w4 ⟨rfl,hb1⟩
   have hf:=Fr.below (T:=NoT) hb1
   have HB1:=hdq (HB.out.trans hf)
   have HB4:=hdq (HB3.out.trans hf)
   have hk4:=HKr.out.fr0 hf
   have c1':=(hf.cell (p:=⟨b,o+k*3+1,none⟩) HC1.out.1 id).trans HC1.out.2
   have hxr4:=ltq HC1.out.1 hf.size
   clear x0 x1 x2 x3 hl1 hb1 c0 c1 c2 hxr hf
   obtain⟨x0,x1,x2,x3,hl1⟩:=bk4 hk4
   clear hk4
   cases v
   ·have HF:=hdq (show R=false from by rw[HST.out];simp)
    clear HST
    go_wp2_with fail
    go_ret
    exact⟨by rw[HF.out];rfl,HB1.out⟩
   by_cases hsz:0≤a1
   rotate_left
   ·have HF:=hdq (show R=false from by rw[HST.out,show decide (0≤a1)=false from by simp;omega];simp)
    have e1:decide (a1 < 0)=true:=by simp;omega
    clear HST
    go_wp2_with fail
    go_ret
    exact⟨by rw[HF.out];rfl,HB1.out⟩
   ·have HN:=hdq (show R=(allAr okA1 (t.arrays.drop (k+1))&&allPr okP1 t.procs)from by rw[HST.out,show decide (0≤a1)=true from by simpa using hsz];simp;rfl)
    have e1:decide (a1 < 0)=false:=by simp;omega
    clear HST
    go_wp2_with fail
    go_roundw
    case rel=>exact⟨k+1,by omega,by go_num,HB4.out,HN.out⟩
    case measure=>simp[intOf];omega
  ·have hlt':¬(k:Int) < (n2:Int):=by omega
   have HQ:=hdq (show R=allPr okP1 (t.procs.drop 0)from by rw[hall.out,List.drop_eq_nil_of_le (by rw[←HN2.out];omega)];simp[allAr])
   clear hall
   go_wp2_with fail
   clear x0 x1 x2 x3 hl1
   obtain⟨wq,rfl⟩:∃wq:World,wq=wr:=⟨_,rfl⟩
   go_loopw [4] (fun i wr=>∃k:Nat,k≤n3∧i= .int .i64 k∧Hid (Fr NoT w3 wr)∧Hid (R=allPr okP1 (t.procs.drop k))) (fun i _=>n3 - (intOf i).toNat)
   case atStart=>exact⟨0,Nat.zero_le _,rfl,HB3.out,HQ.out⟩
   case round=>
    clear HQ HB HB3 HKr
    obtain⟨j,hj,rfl,hb,hall⟩:=hrel
    have hkk:=HK3.out.fr0 hb.out
    obtain⟨x0,x1,x2,x3,hl1⟩:=bk4 hkk
    have HB:=hdq (HF3.out.trans hb.out)
    have HB3:=hdq hb.out
    clear hkk hb
    by_cases hltj:j < n3
    ·have hltj':(j:Int) < (n3:Int):=by omega
     have hge:(0:Int)≤(j:Int):=by omega
     obtain⟨⟨a0,a1,a2,a3⟩,ar,hd⟩:=drop_head1 (show j < t.procs.length from by rw[←HN3.out];exact hltj)
     obtain⟨b,o,rfl,hat⟩:=(HXW.out _ HB.out).procs.2.2 (by rw[←HN3.out];omega)
     have hat1:=hat.drop j
     rw[hd.1]at hat1
     obtain⟨⟨hbS,_,r0,c0,c3⟩,⟨A1,q1,c1,s1⟩,⟨A2,q2,c2,s2⟩,_⟩:=hat1
     have hxr:b < wr.heap.size:=HSW.out _ HB.out _ hbS
     obtain⟨z1,z2,z3⟩:=HZ.out.procs _ (mem_drop1 hd.1)
     simp only at c0 c1 c2 c3 s1 s2 z1 z2 z3
     have hSr:=HSW.out _ HB.out
     have g1:=fun(W:World)=>rname_any a0 z1 W
     have g2:=fun(W:World) (hf:Fr NoT wr W)=>rnames_any a1 W S Z A1 q1 (fun b h=>ltq (hSr b h) hf.size) z2 (s1.imp fun _ _ hx=>VaR.keep (hf.same fun b hb=>⟨hSr b hb,id⟩) hx)
     have g3:=fun(W:World) (hf:Fr NoT wr W)=>mstmts_any a2 W S Z A2 q2 (fun b h=>ltq (hSr b h) hf.size) z3 (s2.imp fun _ _ hx=>StR.keep (hf.same fun b hb=>⟨hSr b hb,id⟩) hx)
     have hst:=hall.out
     rw[allPr_step hd]at hst
     unfold okP1 at hst
     obtain⟨u1,hu1⟩:=nmq (nameB a0.data.toList)
     obtain⟨u2,hu2⟩:=nmq (okVs a1)
     obtain⟨u3,hu3⟩:=nmq (okS a2)
     rw[←hu1]at hst g1
     rw[←hu2]at hst g2
     rw[←hu3]at hst g3
     obtain⟨l1,hl1'⟩:=nmq a1.length
     obtain⟨l2,hl2'⟩:=nmq a2.len
     rw[←hl1']at c1 g2
     rw[←hl2']at c2 g3
     have G1:=hdq g1
     have G2:=hdq g2
     have G3:=hdq g3
     have HST:=hdq hst
     clear hd hall r0 hat hbS g1 g2 g3 hst hu1 hu2 hu3 hl1' hl2' z1 z2 z3 hSr s1 s2
     have HK5:=hdq (Bk.new wr 68 #[.string a0,.slice A1 l1 q1,.slice A2 l2 q2,.int .i64 a3])
     have HF5:=hdq (show Fr NoT wr (wr.alloc (.cells #[.string a0,.slice A1 l1 q1,.slice A2 l2 q2,.int .i64 a3] 68))from(Fr.refl _ _).alloc _)
     go_wp2_with fail
     refine(G1.out _).mono ?_
     rintro _ w6 ⟨rfl,hb1⟩
     have hf:=Fr.below (T:=NoT) hb1
     have hk:=HK5.out.fr0 hf
     have HF6:=hdq (HF5.out.trans hf)
     have HK6:=hdq hk
     clear x0 x1 x2 x3 hl1 c0 c1 c2 c3 hb1 hf hxr
     obtain⟨y0,y1,y2,y3,hl1⟩:=bk4 hk
     clear hk
     cases u1
     ·have HF:=hdq (show R=false from by rw[HST.out];simp)
      clear HST
      go_wp2_with fail
      go_ret
      exact⟨by rw[HF.out];rfl,(HB.out.trans HF6.out)⟩
     go_wp2_with fail
     refine(G2.out _ HF6.out).mono ?_
     rintro _ w7 ⟨rfl,hf⟩
     have hk:=HK6.out.fr0 hf
     have HF7:=hdq (HF6.out.trans hf)
     have HK7:=hdq hk
     clear y0 y1 y2 y3 hl1 hf
     obtain⟨y0,y1,y2,y3,hl1⟩:=bk4 hk
     clear hk
     cases u2
     ·have HF:=hdq (show R=false from by rw[HST.out];simp)
      clear HST
      go_wp2_with fail
      go_ret
      exact⟨by rw[HF.out];rfl,(HB.out.trans HF7.out)⟩
     go_wp2_with fail
     refine(G3.out _ HF7.out).mono ?_
     rintro _ w8 ⟨rfl,hf⟩
     have HF8:=hdq (HF7.out.trans hf)
     clear y0 y1 y2 y3 hl1 hf
     cases u3
     ·have HF:=hdq (show R=false from by rw[HST.out];simp)
      clear HST
      go_wp2_with fail
      go_ret
      exact⟨by rw[HF.out];rfl,(HB.out.trans HF8.out)⟩
     have HN:=hdq (show R=allPr okP1 (t.procs.drop (j+1))from by rw[HST.out];simp;rfl)
     clear HST
     go_wp2_with fail
     go_roundw
     case rel=>exact⟨j+1,by omega,by go_num,HB3.out.trans HF8.out,HN.out⟩
     case measure=>simp[intOf];omega
    ·have hltj':¬(j:Int) < (n3:Int):=by omega
     have HF:=hdq (show R=true from by rw[hall.out,List.drop_eq_nil_of_le (by rw[←HN3.out];omega)];rfl)
     clear hall
     go_wp2_with fail
     go_ret
     exact⟨by rw[HF.out];rfl,HB.out⟩

theorem get_drop0 {α:Type} {l:List α} {i:Nat} {x:α} {r:List α} (h:l.drop i=x::r):l[i]?=some x:=by
 have:=congrArg List.head? h
 simpa using this
abbrev Wl:=List (ByteArray×Int×Int)
def RwR (w:World) (xs:List Value) (A:Option Addr) (c:Nat):Prop:=xs.length≤c∧c≤9223372036854775807∧(0 < xs.length→∃b,A=some ⟨b,0,none⟩∧b < w.heap.size∧∀i u,xs[i]?=some u→w.cell? ⟨b,i,none⟩=some u)
theorem RwR.keep {w w':World} {xs:List Value} {A:Option Addr} {c:Nat} (h:RwR w xs A c) (hf:Fr NoT w w'):RwR w' xs A c:=
 ⟨h.1,h.2.1,fun h0=>by
  obtain⟨b,e,hb,hc⟩:=h.2.2 h0
  exact⟨b,e,ltq hb hf.size,fun i u hi=>(hf.cell (p:=⟨b,i,none⟩) hb id).trans (hc i u hi)⟩⟩
structure WdR (w:World) (ws:Wl) (An Ak Am:Option Addr) (cn ck cm:Nat):Prop where
 names:RwR w (ws.map fun x=> .string x.1) An cn
 kinds:RwR w (ws.map fun x=> .int .i64 x.2.1) Ak ck
 many:RwR w (ws.map fun x=> .int .i64 x.2.2) Am cm
theorem WdR.keep {w w':World} {ws:Wl} {An Ak Am:Option Addr} {cn ck cm:Nat} (h:WdR w ws An Ak Am cn ck cm) (hf:Fr NoT w w'):WdR w' ws An Ak Am cn ck cm:=⟨h.names.keep hf,h.kinds.keep hf,h.many.keep hf⟩
theorem WdR.nil (w:World):WdR w [] none none none 0 0 0:=⟨⟨lrq _,by omega,fun h=>absurd h (by simp)⟩,⟨lrq _,by omega,fun h=>absurd h (by simp)⟩,⟨lrq _,by omega,fun h=>absurd h (by simp)⟩⟩
def wdV (ws:Wl) (An Ak Am:Option Addr) (cn ck cm:Nat):Value:= .agg #[.slice An ws.length cn,.slice Ak ws.length ck,.slice Am ws.length cm]
def atI (nm:ByteArray):Wl→Nat→Int
 | [],_=> -1
 |x::r,i=>if x.1.toList==nm.toList then i else atI nm r (i+1)
def IntPost (n:Int) (W:World) (e:Ending) (w':World):Prop:=e= .returned (.int .i64 n)∧Fr NoT W w'
theorem rat_any (ws:Wl) (nm:ByteArray) (w:World) (An Ak Am:Option Addr) (cn ck cm:Nat) (hx:WdR w ws An Ak Am cn ck cm):
  Calls Tryz.prog 152 #[wdV ws An Ak Am cn ck cm,.string nm] w (IntPost (atI nm ws 0) w):=by
 have hl:ws.length≤9223372036854775807:=by have:=hx.names.1;have:=hx.names.2.1;simp at*;omega
 unfold wdV
 have HX:=hdq hx
 obtain⟨m,hm⟩:=nmq ws.length
 rw[←hm]at hl ⊢
 have HM:=hdq hm
 obtain⟨F,hF⟩:=nmq (atI nm ws 0)
 rw[←hF]
 have HF:=hdq hF
 have HF1:=hdq (show Fr NoT w (w.alloc (.cells #[.slice An m cn,.slice Ak m ck,.slice Am m cm] 164))from(Fr.refl _ _).alloc _)
 have HK1:=hdq (Bk.new w 164 #[.slice An m cn,.slice Ak m ck,.slice Am m cm])
 obtain⟨w1,hw1⟩:=nmq (w.alloc (.cells #[.slice An m cn,.slice Ak m ck,.slice Am m cm] 164))
 rw[←hw1]at HF1 HK1
 have HW1:=hdq hw1
 clear hx hm hF hw1
 go_enter Tryz.func152,Tryz.ntmps152
 go_wp2_with fail
 rw[←HW1.out]
 have k0:=HK1.out.cell 0
 have hl1:=HK1.out.lt
 simp only[getsL]at k0
 go_loop [5] (fun i=>∃k:Nat,k≤m∧i= .int .i64 k∧Hid (F=atI nm (ws.drop k) k)) (fun i=>m - (intOf i).toNat)
 case atStart=>exact⟨0,Nat.zero_le _,rfl,HF.out⟩
 case round=>
  clear HF
  obtain⟨k,hk,rfl,hall⟩:=hrel
  by_cases hlt:k < m
  ·obtain⟨⟨a0,a1,a2⟩,ar,hd⟩:=drop_head1 (show k < ws.length from by rw[←HM.out];exact hlt)
   obtain⟨b,rfl,hb,hat⟩:=(HX.out.names.keep HF1.out).2.2 (by simp;rw[←HM.out];omega)
   have c0:=hat k (.string a0) (by rw[List.getElem?_map,get_drop0 hd.1];rfl)
   have hlt':(k:Int) < (m:Int):=by omega
   have hge:(0:Int)≤(k:Int):=by omega
   have hst:=hall.out
   rw[hd.1]at hst
   unfold atI at hst
   simp only at hst
   obtain⟨v,hv⟩:=nmq ((a0.toList==nm.toList))
   have e1:=hv.symm
   rw[←hv,←hd.2]at hst
   have HST:=hdq hst
   clear hd hall hat hst hv
   cases v
   ·have HN:=hdq (show F=atI nm (ws.drop (k+1)) (k+1)from by rw[HST.out];rfl)
    clear HST
    go_wp2_with fail
    go_round
    case rel=>exact⟨k+1,by omega,by go_num,HN.out⟩
    case measure=>simp[intOf];omega
   ·have HN:=hdq (show F=k from by rw[HST.out];rfl)
    clear HST
    go_wp2_with fail
    go_ret
    exact⟨by rw[HN.out];rfl,HF1.out⟩
  ·have HN:=hdq (show F= -1 from by rw[hall.out,List.drop_eq_nil_of_le (by rw[←HM.out];omega)];rfl)
   have hlt':¬(k:Int) < (m:Int):=by omega
   clear hall
   go_wp2_with fail
   go_ret
   exact⟨by rw[HN.out];rfl,HF1.out⟩

def fdW (nm:ByteArray):Wl→Option (Int×Int)
 | []=>none
 |x::r=>if x.1.toList==nm.toList then some x.2 else fdW nm r
def isI (nm:ByteArray) (kind:Int) (ws:Wl):Int:=match fdW nm ws with
 |none=>110
 |some v=>if v.1=kind then 0 else 112
theorem at_split (nm:ByteArray):∀(ws:Wl) (k:Nat),(fdW nm ws=none∧atI nm ws k= -1)∨∃(i:Nat) (x:ByteArray×Int×Int),atI nm ws k=((k+i:Nat):Int)∧ws[i]?=some x∧fdW nm ws=some x.2
 | [],k=> .inl ⟨rfl,rfl⟩
 |y::r,k=>by
  unfold fdW atI
  by_cases h:(y.1.toList==nm.toList)=true
  ·rw[if_pos h,if_pos h]
   exact .inr ⟨0,y,rfl,rfl,rfl⟩
  ·rw[if_neg h,if_neg h]
   rcases at_split nm r (k+1)with⟨h1,h2⟩|⟨i,x,h1,h2,h3⟩
   ·exact .inl ⟨h1,h2⟩
   ·exact .inr ⟨i+1,x,by rw[h1];congr 1;omega,by simpa using h2,h3⟩
theorem ris_any (ws:Wl) (nm:ByteArray) (kind:Int) (w:World) (An Ak Am:Option Addr) (cn ck cm:Nat) (hx:WdR w ws An Ak Am cn ck cm):
  Calls Tryz.prog 192 #[wdV ws An Ak Am cn ck cm,.string nm,.int .i64 kind] w (IntPost (isI nm kind ws) w):=by
 have hf1:Fr NoT w (w.alloc (.cells #[.slice An ws.length cn,.slice Ak ws.length ck,.slice Am ws.length cm] 164)):=(Fr.refl _ _).alloc _
 have h1:=rat_any ws nm _ An Ak Am cn ck cm (hx.keep hf1)
 have hl:ws.length≤9223372036854775807:=by have:=hx.names.1;have:=hx.names.2.1;simp at*;omega
 obtain⟨F,hF⟩:=nmq (isI nm kind ws)
 rw[←hF]
 unfold isI at hF
 have hs:=at_split nm ws 0
 unfold wdV at h1 ⊢
 have HX:=hdq hx
 obtain⟨m,hm⟩:=nmq ws.length
 rw[←hm]at hl h1 hf1 ⊢
 have HM:=hdq hm
 have HF1:=hdq hf1
 have HK1:=hdq (Bk.new w 164 #[.slice An m cn,.slice Ak m ck,.slice Am m cm])
 rcases hs with⟨e1,e2⟩|⟨i,x,e1,e2,e3⟩
 ·rw[e2]at h1
  rw[e1]at hF
  have H1:=hdq h1
  have HF:=hdq (show F=110 from hF)
  clear hx hm hF hf1 h1 e1 e2
  go_enter Tryz.func192,Tryz.ntmps192
  go_wp2_with fail
  refine H1.out.mono ?_
  rintro _ w2 ⟨rfl,hb⟩
  have HF2:=hdq (HF1.out.trans hb)
  clear hb
  go_wp2_with fail
  go_ret
  exact⟨by rw[HF.out];rfl,HF2.out⟩
 ·rw[e1,Nat.zero_add]at h1
  rw[e3]at hF
  have hi:i < m:=by rw[hm];exact(List.getElem?_eq_some_iff.1 e2).1
  obtain⟨b,rfl,hb,hat⟩:=hx.kinds.2.2 (by simp;omega)
  have c1:=hat i (.int .i64 x.2.1) (by rw[List.getElem?_map,e2];rfl)
  obtain⟨a0,a1,a2⟩:=x
  simp only at c1 hF
  have H1:=hdq h1
  have HC:=hdq (aiq hb c1)
  clear hx hm hf1 h1 e1 e2 e3 hat c1 hb
  have hi':(i:Int) < (m:Int):=by omega
  have hge:(0:Int)≤(i:Int):=by omega
  have hneg:decide ((i:Int) < 0)=false:=by simp
  have hcase:(a1=kind∧F=0)∨(a1≠kind∧F=112):=by
   by_cases h:a1=kind
   ·exact .inl ⟨h,by rw[hF,if_pos h]⟩
   ·exact .inr ⟨h,by rw[hF,if_neg h]⟩
  clear hF
  rcases hcase with⟨h,hF⟩|⟨h,hF⟩
  ·have HF:=hdq hF
   have e1:(a1 != kind)=false:=by simpa using h
   clear hF h
   go_enter Tryz.func192,Tryz.ntmps192
   go_wp2_with fail
   refine H1.out.mono ?_
   rintro _ w2 ⟨rfl,hf⟩
   have HF2:=hdq (HF1.out.trans hf)
   have hk:=HK1.out.fr0 hf
   have k1:=hk.cell 1
   have hl1:=hk.lt
   have d1:=(HF2.out.cell (p:=⟨b,i,none⟩) HC.out.1 id).trans HC.out.2
   have hxr:=ltq HC.out.1 HF2.out.size
   simp only[getsL]at k1
   clear hf hk
   go_wp2_with fail
   go_ret
   exact⟨by rw[HF.out];rfl,HF2.out⟩
  ·have HF:=hdq hF
   have e1:(a1 != kind)=true:=by simpa using h
   clear hF h
   go_enter Tryz.func192,Tryz.ntmps192
   go_wp2_with fail
   refine H1.out.mono ?_
   rintro _ w2 ⟨rfl,hf⟩
   have HF2:=hdq (HF1.out.trans hf)
   have hk:=HK1.out.fr0 hf
   have k1:=hk.cell 1
   have hl1:=hk.lt
   have d1:=(HF2.out.cell (p:=⟨b,i,none⟩) HC.out.1 id).trans HC.out.2
   have hxr:=ltq HC.out.1 HF2.out.size
   simp only[getsL]at k1
   clear hf hk
   go_wp2_with fail
   go_ret
   exact⟨by rw[HF.out];rfl,HF2.out⟩
end Go.Proofs.YtmopichdofgndaaGreatDoor
