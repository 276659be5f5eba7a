/-
  ref10: mayStmt, mayStmts: THE CONTRACT.
-/
import Derived.Test.YtmopichdofgndaaGreatDoorRmSt1
import Derived.Test.YtmopichdofgndaaGreatDoorRmSt2
import Derived.Test.YtmopichdofgndaaGreatDoorRmSt3
import Derived.Test.YtmopichdofgndaaGreatDoorJnCkC
set_option linter.unusedVariables false
set_option linter.unusedSimpArgs false
set_option maxHeartbeats 3200000
set_option maxRecDepth 100000
namespace Go.Proofs.YtmopichdofgndaaGreatDoor
open Go.RowKit Go.Shelf

def MsC (xs:Sts):Prop:=∀(W:World) (S:Nat→Prop) (Z:Prop) (A:Option Addr) (c:Nat),(∀b,S b→b < W.heap.size)→szS xs→SlR (fun b o=>StR W S Z xs b o) xs.len 128 A c→
 Calls Tryz.prog 105 #[.slice A xs.len c] W (EqPost (okS xs) W)
def MsI (xs:Sts):Prop:=∀(i:Nat) (a0:Int) (a1:ByteArray) (a2:Exs) (a3:Cds) (a4 a5:Sts) (a6:Int) (ar:Sts),Sts.drop i xs= .cons a0 a1 a2 a3 a4 a5 a6 ar→MsC a4∧MsC a5
theorem szS_drop:∀(i:Nat) {xs:Sts} {a0 a1 a2 a3 a4 a5 a6 ar},szS xs→Sts.drop i xs= .cons a0 a1 a2 a3 a4 a5 a6 ar→a1.size≤9223372036854775807∧szX a2∧szC a3∧szS a4∧szS a5
 |0,.nil,_,_,_,_,_,_,_,_,_,hd=>by simp[Sts.drop]at hd
 |i+1,.nil,_,_,_,_,_,_,_,_,_,hd=>by simp[Sts.drop]at hd
 |0,.cons _ _ _ _ _ _ _ _,_,_,_,_,_,_,_,_,h,hd=>by
  simp only[Sts.drop]at hd
  injection hd with e0 e1 e2 e3 e4 e5 e6 e7
  subst e1 e2 e3 e4 e5
  exact⟨h.1,h.2.1,h.2.2.1,h.2.2.2.1,h.2.2.2.2.1⟩
 |i+1,.cons _ _ _ _ _ _ _ _,_,_,_,_,_,_,_,_,h,hd=>by
  simp only[Sts.drop]at hd
  exact szS_drop i h.2.2.2.2.2 hd
theorem okS_step {xs:Sts} {i:Nat} {a0 a1 a2 a3 a4 a5 a6 ar} (hd:Sts.drop i xs= .cons a0 a1 a2 a3 a4 a5 a6 ar):okS (Sts.drop i xs)=(okT a0 a1 a2 a3 a4 a5 a6&&okS (Sts.drop (i+1) xs)):=by
 rw[Sts.drop_succ i xs hd,hd];rfl
theorem mst_out (k:Int) (hk:k < 1∨9 < k) (nm:ByteArray) (A2 A3 A4 A5:Option Addr) (l2 l3 l4 l5 q2 q3 q4 q5:Nat) (at_:Int) (w:World):
  Calls Tryz.prog 168 #[.agg #[.int .u8 k,.string nm,.slice A2 l2 q2,.slice A3 l3 q3,.slice A4 l4 q4,.slice A5 l5 q5,.int .i64 at_]] w (EqPost false w):=by
 have HF1:=hdq (show Fr NoT w (w.alloc (.cells #[.int .u8 k,.string nm,.slice A2 l2 q2,.slice A3 l3 q3,.slice A4 l4 q4,.slice A5 l5 q5,.int .i64 at_] 39))from(Fr.refl _ _).alloc _)
 rcases hk with h|h
 ·have e1:decide (k < 1)=true:=by simp;omega
  clear h
  go_enter Tryz.func168,Tryz.ntmps168
  go_wp2_with fail
  go_ret
  exact⟨rfl,HF1.out⟩
 ·have e1:decide (k < 1)=false:=by simp;omega
  have e2:decide (9 < k)=true:=by simp;omega
  clear h
  go_enter Tryz.func168,Tryz.ntmps168
  go_wp2_with fail
  go_ret
  exact⟨rfl,HF1.out⟩
theorem mst_any (k:Int) (nm:ByteArray) (args:Exs) (cond:Cds) (body els:Sts) (at_:Int) (w:World) (S:Nat→Prop) (Z:Prop) (A2 A3 A4 A5:Option Addr) (q2 q3 q4 q5:Nat) (hs:nm.size≤9223372036854775807) (hS:∀b,S b→b < w.heap.size) (hz1:szX args) (hz2:szC cond)
  (hx:SlR (fun b o=>ExR w S Z args b o) args.len 64 A2 q2) (hy:SlR (fun b o=>CdR w S Z cond b o) cond.len 64 A3 q3) (hl4:body.len≤9223372036854775807) (hl5:els.len≤9223372036854775807)
  (h4:∀W,Fr NoT w W→Calls Tryz.prog 105 #[.slice A4 body.len q4] W (EqPost (okS body) W)) (h5:∀W,Fr NoT w W→Calls Tryz.prog 105 #[.slice A5 els.len q5] W (EqPost (okS els) W)):
  Calls Tryz.prog 168 #[.agg #[.int .u8 k,.string nm,.slice A2 args.len q2,.slice A3 cond.len q3,.slice A4 body.len q4,.slice A5 els.len q5,.int .i64 at_]] w (EqPost (okT k nm args cond body els at_) w):=by
 by_cases h:k < 1∨9 < k
 ·have:=mst_out k h nm A2 A3 A4 A5 args.len cond.len body.len els.len q2 q3 q4 q5 at_ w
  rw[show okT k nm args cond body els at_=false from by
   unfold okT
   rcases h with h|h
   ·rw[show decide (1≤k)=false from by simp;omega];simp
   ·rw[show decide (k≤9)=false from by simp;omega];simp]
  exact this
 have:k=1∨k=2∨k=3∨k=4∨k=5∨k=6∨k=7∨k=8∨k=9:=by omega
 rcases this with rfl|rfl|rfl|rfl|rfl|rfl|rfl|rfl|rfl
 ·exact mst_k1 nm args cond body els at_ w S Z A2 A3 A4 A5 q2 q3 q4 q5 hs hS hz1 hz2 hx hy hl4 hl5 h4 h5
 ·exact mst_k2 nm args cond body els at_ w S Z A2 A3 A4 A5 q2 q3 q4 q5 hs hS hz1 hz2 hx hy hl4 hl5 h4 h5
 ·exact mst_k3 nm args cond body els at_ w S Z A2 A3 A4 A5 q2 q3 q4 q5 hs hS hz1 hz2 hx hy hl4 hl5 h4 h5
 ·exact mst_k4 nm args cond body els at_ w S Z A2 A3 A4 A5 q2 q3 q4 q5 hs hS hz1 hz2 hx hy hl4 hl5 h4 h5
 ·exact mst_k5 nm args cond body els at_ w S Z A2 A3 A4 A5 q2 q3 q4 q5 hs hS hz1 hz2 hx hy hl4 hl5 h4 h5
 ·exact mst_k6 nm args cond body els at_ w S Z A2 A3 A4 A5 q2 q3 q4 q5 hs hS hz1 hz2 hx hy hl4 hl5 h4 h5
 ·exact mst_k7 nm args cond body els at_ w S Z A2 A3 A4 A5 q2 q3 q4 q5 hs hS hz1 hz2 hx hy hl4 hl5 h4 h5
 ·exact mst_k8 nm args cond body els at_ w S Z A2 A3 A4 A5 q2 q3 q4 q5 hs hS hz1 hz2 hx hy hl4 hl5 h4 h5
 ·exact mst_k9 nm args cond body els at_ w S Z A2 A3 A4 A5 q2 q3 q4 q5 hs hS hz1 hz2 hx hy hl4 hl5 h4 h5
theorem ms_one (xs:Sts) (hall0:MsI xs):MsC xs:=by
 intro w S Z A c hS hsz hx
 have hl:xs.len≤9223372036854775807:=leq9 hx.1 hx.2.1.1
 have HA:=hdq hall0
 have HX:=hdq hx
 have HS:=hdq hS
 have HZ:=hdq hsz
 obtain⟨m,hm⟩:=nmq xs.len
 rw[←hm]at hl ⊢
 have HM:=hdq hm
 obtain⟨F,hF⟩:=nmq (okS xs)
 rw[←hF]
 have HF:=hdq hF
 clear hall0 hx hS hm hF hsz
 go_enter Tryz.func105,Tryz.ntmps105
 go_wp2_with fail
 go_loopw [3] (fun i wr=>∃k:Nat,k≤m∧i= .int .i64 k∧Hid (Fr NoT w wr)∧Hid (F=okS (Sts.drop k xs))) (fun i _=>m - (intOf i).toNat)
 case atStart=>exact⟨0,Nat.zero_le _,rfl,Fr.refl _ _,HF.out⟩
 case round=>
  clear HF
  obtain⟨k,hk,rfl,hb,hall⟩:=hrel
  by_cases hlt:k < m
  ·obtain⟨a0,a1,a2,a3,a4,a5,a6,ar,hd⟩:=Sts.drop_cons (show k < xs.len from by rw[←HM.out];exact hlt)
   obtain⟨b,o,rfl,hat⟩:=HX.out.2.2 (by rw[←HM.out];omega)
   have hat1:=(StR.keep (hb.out.same fun b hb=>⟨HS.out b hb,id⟩) hat).drop k
   rw[hd]at hat1
   obtain⟨⟨hbS,_,r0,r1,c0,c1,c6⟩,⟨A2,q2,c2,s2⟩,⟨A3,q3,c3,s3⟩,⟨A4,q4,c4,s4⟩,⟨A5,q5,c5,s5⟩,_⟩:=hat1
   have hxr:b < wr.heap.size:=ltq (HS.out _ hbS) hb.out.size
   have hlt':(k:Int) < (m:Int):=by omega
   have hge:(0:Int)≤(k:Int):=by omega
   obtain⟨z1,z2,z3,z4,z5⟩:=szS_drop k HZ.out hd
   have hSr:∀b,S b→b < wr.heap.size:=fun b h=>ltq (HS.out b h) hb.out.size
   obtain⟨hr4,hr5⟩:=HA.out k a0 a1 a2 a3 a4 a5 a6 ar hd
   have hone:=mst_any a0 a1 a2 a3 a4 a5 a6 wr S Z A2 A3 A4 A5 q2 q3 q4 q5 z1 hSr z2 z3 s2 s3 (leq9 s4.1 s4.2.1.1) (leq9 s5.1 s5.2.1.1)
    (fun W hf=>hr4 W S Z A4 q4 (fun b h=>ltq (hSr b h) hf.size) z4 (s4.imp fun _ _ hx=>StR.keep (hf.same fun b hb=>⟨hSr b hb,id⟩) hx))
    (fun W hf=>hr5 W S Z A5 q5 (fun b h=>ltq (hSr b h) hf.size) z5 (s5.imp fun _ _ hx=>StR.keep (hf.same fun b hb=>⟨hSr b hb,id⟩) hx))
   have hst:=hall.out.trans (okS_step hd)
   obtain⟨v,hv⟩:=nmq (okT a0 a1 a2 a3 a4 a5 a6)
   rw[←hv]at hst hone
   have H1:=hdq hone
   have HST:=hdq hst
   have HB:=hdq hb.out
   clear hd hat hall hb hbS s2 s3 s4 s5 r0 r1 hone hst hv z1 z2 z3 z4 z5 hSr hr4 hr5
   go_wp2_with fail
   refine H1.out.mono ?_
   rintro _ w1 ⟨rfl,hb1⟩
   have HB1:=hdq (HB.out.trans hb1)
   clear hb1 c0 c1 c2 c3 c4 c5 c6
   cases v
   ·have HF:=hdq (show F=false from by rw[HST.out];rfl)
    clear HST
    go_wp2_with fail
    go_ret
    exact⟨by rw[HF.out];rfl,HB1.out⟩
   ·have HN:=hdq (show F=okS (Sts.drop (k+1) xs)from by rw[HST.out];rfl)
    clear HST
    go_wp2_with fail
    go_roundw
    case rel=>exact⟨k+1,by omega,by go_num,HB1.out,HN.out⟩
    case measure=>simp[intOf];omega
  ·have HF:=hdq (show F=true from by rw[hall.out,Sts.drop_nil (by rw[←HM.out];omega)];rfl)
   have HB:=hdq hb.out
   clear hall hb
   go_wp2_with fail
   go_ret
   exact⟨by rw[HF.out];rfl,HB.out⟩
theorem msi_all:∀xs:Sts,MsI xs
 | .nil =>fun i _ _ _ _ _ _ _ _ hd=>by cases i<;>simp[Sts.drop]at hd
 | .cons k0 k1 k2 k3 k4 k5 k6 kr=>fun i _ _ _ _ _ _ _ _ hd=>by
  cases i with
  |zero=>
   simp only[Sts.drop]at hd
   injection hd with e0 e1 e2 e3 e4 e5 e6 e7
   subst e0 e1 e2 e3 e4 e5 e6 e7
   exact⟨ms_one k4 (msi_all k4),ms_one k5 (msi_all k5)⟩
  |succ i=>
   simp only[Sts.drop]at hd
   exact msi_all kr i _ _ _ _ _ _ _ _ hd
theorem mstmts_any (xs:Sts):MsC xs:=ms_one xs (msi_all xs)

theorem rnames_any (xs:List Va) (w:World) (S:Nat→Prop) (Z:Prop) (A:Option Addr) (c:Nat) (hS:∀b,S b→b < w.heap.size) (hsz:∀x∈xs,x.nm.size≤9223372036854775807) (hx:SlR (VaR w S Z xs) xs.length 24 A c):
  Calls Tryz.prog 104 #[.slice A xs.length c] w (EqPost (okVs xs) w):=by
 have hl:xs.length≤9223372036854775807:=leq9 hx.1 hx.2.1.1
 have HX:=hdq hx
 have HS:=hdq hS
 have HZ:=hdq hsz
 obtain⟨m,hm⟩:=nmq xs.length
 rw[←hm]at hl ⊢
 have HM:=hdq hm
 obtain⟨F,hF⟩:=nmq (okVs xs)
 rw[←hF]
 have HF:=hdq (show F=allVa (fun nm _=>nameB nm.data.toList) (xs.drop 0)from hF)
 clear hx hS hm hF hsz
 go_enter Tryz.func104,Tryz.ntmps104
 go_wp2_with fail
 go_loopw [3] (fun i wr=>∃k:Nat,k≤m∧i= .int .i64 k∧Hid (Fr NoT w wr)∧Hid (F=allVa (fun nm _=>nameB nm.data.toList) (xs.drop k))) (fun i _=>m - (intOf i).toNat)
 case atStart=>exact⟨0,Nat.zero_le _,rfl,Fr.refl _ _,HF.out⟩
 case round=>
  clear HF
  obtain⟨k,hk,rfl,hb,hall⟩:=hrel
  by_cases hlt:k < m
  ·obtain⟨⟨a0,a1⟩,ar,hd⟩:=drop_head1 (show k < xs.length from by rw[←HM.out];exact hlt)
   obtain⟨b,o,rfl,hat⟩:=HX.out.2.2 (by rw[←HM.out];omega)
   have hat1:=(VaR.keep (hb.out.same fun b hb=>⟨HS.out b hb,id⟩) hat).drop k
   rw[hd.1]at hat1
   obtain⟨⟨hbS,_,r0,c0,c1⟩,_⟩:=hat1
   have hxr:b < wr.heap.size:=ltq (HS.out _ hbS) hb.out.size
   have hlt':(k:Int) < (m:Int):=by omega
   have hge:(0:Int)≤(k:Int):=by omega
   have hone:=rname_any a0 (HZ.out _ (mem_drop1 hd.1)) wr
   have hst:=hall.out.trans (allVa_step hd)
   obtain⟨v,hv⟩:=nmq (nameB a0.data.toList)
   rw[←hv]at hst hone
   have H1:=hdq hone
   have HST:=hdq hst
   have HB:=hdq hb.out
   simp only at c0 c1
   clear hd hat hall hb hbS r0 hone hst hv
   go_wp2_with fail
   refine H1.out.mono ?_
   rintro _ w1 ⟨rfl,hb1⟩
   have HB1:=hdq (HB.out.trans (Fr.below hb1))
   clear hb1 c0 c1
   cases v
   ·have HF:=hdq (show F=false from by rw[HST.out];rfl)
    clear HST
    go_wp2_with fail
    go_ret
    exact⟨by rw[HF.out];rfl,HB1.out⟩
   ·have HN:=hdq (show F=allVa (fun nm _=>nameB nm.data.toList) (xs.drop (k+1))from by rw[HST.out];rfl)
    clear HST
    go_wp2_with fail
    go_roundw
    case rel=>exact⟨k+1,by omega,by go_num,HB1.out,HN.out⟩
    case measure=>simp[intOf];omega
  ·have HF:=hdq (show F=true from by rw[hall.out,List.drop_eq_nil_of_le (by rw[←HM.out];omega)];rfl)
   have HB:=hdq hb.out
   clear hall hb
   go_wp2_with fail
   go_ret
   exact⟨by rw[HF.out];rfl,HB.out⟩
def okA1 (nm:ByteArray) (size:Int) (_:Int):Bool:=nameB nm.data.toList&&decide (0≤size)
def okP1 (nm:ByteArray) (ps:List Va) (body:Sts) (_:Int):Bool:=nameB nm.data.toList&&okVs ps&&okS body
theorem rmay_any (t:Tre) (w:World) (S:Nat→Prop) (Z:Prop) (Av Aa Ap Am:Option Addr) (cv ca cp cm:Nat) (hS:∀b,S b→b < w.heap.size) (hsz:SzT t) (hx:TrR w S Z t Av Aa Ap Am cv ca cp cm):
  Calls Tryz.prog 42 #[trV t Av Aa Ap Am cv ca cp cm] w (EqPost (okTr t) w):=by
 have hsw:∀W,Fr NoT w W→∀b,S b→b < W.heap.size:=fun W h b hb=>ltq (hS b hb) h.size
 have hxw:∀W,Fr NoT w W→TrR W S Z t Av Aa Ap Am cv ca cp cm:=fun W h=>hx.keep (h.same fun b hb=>⟨hS b hb,id⟩)
 have h1:=fun W (h:Fr NoT w W)=>rnames_any t.vars W S Z Av cv (hsw W h) hsz.vars (hxw W h).vars
 have h2:=fun W (h:Fr NoT w W)=>mstmts_any t.main W S Z Am cm (hsw W h) hsz.main (hxw W h).main
 have hl2:t.arrays.length≤9223372036854775807:=leq9 hx.arrays.1 hx.arrays.2.1.1
 have hl3:t.procs.length≤9223372036854775807:=leq9 hx.procs.1 hx.procs.2.1.1
 obtain⟨R,hR⟩:=nmq (okTr t)
 rw[←hR]
 replace hR:R=(okVs t.vars&&okS t.main&&allAr okA1 t.arrays&&allPr okP1 t.procs):=hR
 unfold trV
 obtain⟨n1,hn1⟩:=nmq t.vars.length
 obtain⟨n2,hn2⟩:=nmq t.arrays.length
 obtain⟨n3,hn3⟩:=nmq t.procs.length
 obtain⟨n4,hn4⟩:=nmq t.main.len
 obtain⟨v1,hv1⟩:=nmq (okVs t.vars)
 obtain⟨v2,hv2⟩:=nmq (okS t.main)
 rw[←hn1,←hv1]at h1
 rw[←hn4,←hv2]at h2
 rw[←hv1,←hv2]at hR
 rw[←hn2]at hl2
 rw[←hn3]at hl3
 rw[←hn1,←hn2,←hn3,←hn4]
 have HN2:=hdq hn2
 have HN3:=hdq hn3
 have H1:=hdq h1
 have H2:=hdq h2
 have HR:=hdq hR
 have HSW:=hdq hsw
 have HXW:=hdq hxw
 have HZ:=hdq hsz
 have HF1:=hdq (show Fr NoT w (w.alloc (.cells #[.slice Av n1 cv,.slice Aa n2 ca,.slice Ap n3 cp,.slice Am n4 cm] 27))from(Fr.refl _ _).alloc _)
 have HK1:=hdq (Bk.new w 27 #[.slice Av n1 cv,.slice Aa n2 ca,.slice Ap n3 cp,.slice Am n4 cm])
 clear hsw hxw h1 h2 hR hn1 hn2 hn3 hn4 hv1 hv2 hx hS hsz
 go_enter Tryz.func42,Tryz.ntmps42
 go_wp2_with fail
 refine(H1.out _ HF1.out).mono ?_
 rintro _ w2 ⟨rfl,hb⟩
 have hk:=HK1.out.fr0 hb
 obtain⟨x0,x1,x2,x3,hl1⟩:=bk4 hk
 have HF2:=hdq (HF1.out.trans hb)
 have HK2:=hdq hk
 clear hb hk
 cases v1
 ·have HF:=hdq (show R=false from by rw[HR.out];simp)
  clear HR
  go_wp2_with fail
  go_ret
  exact⟨by rw[HF.out];rfl,HF2.out⟩
 go_wp2_with fail
 refine(H2.out _ HF2.out).mono ?_
 rintro _ w3 ⟨rfl,hb⟩
 have hk:=HK2.out.fr0 hb
 clear x0 x1 x2 x3 hl1
 obtain⟨x0,x1,x2,x3,hl1⟩:=bk4 hk
 have HF3:=hdq (HF2.out.trans hb)
 have HK3:=hdq hk
 clear hb hk
 cases v2
 ·have HF:=hdq (show R=false from by rw[HR.out];simp)
  clear HR
  go_wp2_with fail
  go_ret
  exact⟨by rw[HF.out];rfl,HF3.out⟩
 have HR0:=hdq (show R=(allAr okA1 (t.arrays.drop 0)&&allPr okP1 t.procs)from by rw[HR.out];simp)
 clear HR
 go_wp2_with fail
 go_loopw [3] (fun i wr=>∃k:Nat,k≤n2∧i= .int .i64 k∧Hid (Fr NoT w3 wr)∧Hid (R=(allAr okA1 (t.arrays.drop k)&&allPr okP1 t.procs))) (fun i _=>n2 - (intOf i).toNat)
 case atStart=>exact⟨0,Nat.zero_le _,rfl,Fr.refl _ _,HR0.out⟩
 case round=>
  clear HR0 x0 x1 x2 x3 hl1
  obtain⟨k,hk,rfl,hb,hall⟩:=hrel
  have hkk:=HK3.out.fr0 hb.out
  obtain⟨x0,x1,x2,x3,hl1⟩:=bk4 hkk
  have HKr:=hdq hkk
  have HB:=hdq (HF3.out.trans hb.out)
  have HB3:=hdq hb.out
  clear hkk hb
  by_cases hlt:k < n2
  ·have hlt':(k:Int) < (n2:Int):=by omega
   have hge:(0:Int)≤(k:Int):=by omega
   obtain⟨⟨a0,a1,a2⟩,ar,hd⟩:=drop_head1 (show k < t.arrays.length from by rw[←HN2.out];exact hlt)
   obtain⟨b,o,rfl,hat⟩:=(HXW.out _ HB.out).arrays.2.2 (by rw[←HN2.out];omega)
   have hat1:=hat.drop k
   rw[hd.1]at hat1
   obtain⟨⟨hbS,_,r0,r1,c0,c1,c2⟩,_⟩:=hat1
   have hxr:b < wr.heap.size:=HSW.out _ HB.out _ hbS
   have hone:=rname_any a0 (HZ.out.arrays _ (mem_drop1 hd.1)) wr
   have hst:=hall.out
   rw[allAr_step hd]at hst
   unfold okA1 at hst
   obtain⟨v,hv⟩:=nmq (nameB a0.data.toList)
   rw[←hv]at hst hone
   have H1:=hdq hone
   have HST:=hdq hst
   simp only at c0 c1 c2
   have HC1:=hdq (aiq hxr c1)
   clear hd hall r0 r1 hone hst hv hat hbS
   go_wp2_with fail
   refine H1.out.mono ?_
   rintro _ w4 ⟨rfl,hb1⟩
   have hf:=Fr.below (T:=NoT) hb1
   have HB1:=hdq (HB.out.trans hf)
   have HB4:=hdq (HB3.out.trans hf)
   have hk4:=HKr.out.fr0 hf
   have c1':=(hf.cell (p:=⟨b,o+k*3+1,none⟩) HC1.out.1 id).trans HC1.out.2
   have hxr4:=ltq HC1.out.1 hf.size
   clear x0 x1 x2 x3 hl1 hb1 c0 c1 c2 hxr hf
   obtain⟨x0,x1,x2,x3,hl1⟩:=bk4 hk4
   clear hk4
   cases v
   ·have HF:=hdq (show R=false from by rw[HST.out];simp)
    clear HST
    go_wp2_with fail
    go_ret
    exact⟨by rw[HF.out];rfl,HB1.out⟩
   by_cases hsz:0≤a1
   rotate_left
   ·have HF:=hdq (show R=false from by rw[HST.out,show decide (0≤a1)=false from by simp;omega];simp)
    have e1:decide (a1 < 0)=true:=by simp;omega
    clear HST
    go_wp2_with fail
    go_ret
    exact⟨by rw[HF.out];rfl,HB1.out⟩
   ·have HN:=hdq (show R=(allAr okA1 (t.arrays.drop (k+1))&&allPr okP1 t.procs)from by rw[HST.out,show decide (0≤a1)=true from by simpa using hsz];simp;rfl)
    have e1:decide (a1 < 0)=false:=by simp;omega
    clear HST
    go_wp2_with fail
    go_roundw
    case rel=>exact⟨k+1,by omega,by go_num,HB4.out,HN.out⟩
    case measure=>simp[intOf];omega
  ·have hlt':¬(k:Int) < (n2:Int):=by omega
   have HQ:=hdq (show R=allPr okP1 (t.procs.drop 0)from by rw[hall.out,List.drop_eq_nil_of_le (by rw[←HN2.out];omega)];simp[allAr])
   clear hall
   go_wp2_with fail
   clear x0 x1 x2 x3 hl1
   obtain⟨wq,rfl⟩:∃wq:World,wq=wr:=⟨_,rfl⟩
   go_loopw [4] (fun i wr=>∃k:Nat,k≤n3∧i= .int .i64 k∧Hid (Fr NoT w3 wr)∧Hid (R=allPr okP1 (t.procs.drop k))) (fun i _=>n3 - (intOf i).toNat)
   case atStart=>exact⟨0,Nat.zero_le _,rfl,HB3.out,HQ.out⟩
   case round=>
    clear HQ HB HB3 HKr
    obtain⟨j,hj,rfl,hb,hall⟩:=hrel
    have hkk:=HK3.out.fr0 hb.out
    obtain⟨x0,x1,x2,x3,hl1⟩:=bk4 hkk
    have HB:=hdq (HF3.out.trans hb.out)
    have HB3:=hdq hb.out
    clear hkk hb
    by_cases hltj:j < n3
    ·have hltj':(j:Int) < (n3:Int):=by omega
     have hge:(0:Int)≤(j:Int):=by omega
     obtain⟨⟨a0,a1,a2,a3⟩,ar,hd⟩:=drop_head1 (show j < t.procs.length from by rw[←HN3.out];exact hltj)
     obtain⟨b,o,rfl,hat⟩:=(HXW.out _ HB.out).procs.2.2 (by rw[←HN3.out];omega)
     have hat1:=hat.drop j
     rw[hd.1]at hat1
     obtain⟨⟨hbS,_,r0,c0,c3⟩,⟨A1,q1,c1,s1⟩,⟨A2,q2,c2,s2⟩,_⟩:=hat1
     have hxr:b < wr.heap.size:=HSW.out _ HB.out _ hbS
     obtain⟨z1,z2,z3⟩:=HZ.out.procs _ (mem_drop1 hd.1)
     simp only at c0 c1 c2 c3 s1 s2 z1 z2 z3
     have hSr:=HSW.out _ HB.out
     have g1:=fun(W:World)=>rname_any a0 z1 W
     have g2:=fun(W:World) (hf:Fr NoT wr W)=>rnames_any a1 W S Z A1 q1 (fun b h=>ltq (hSr b h) hf.size) z2 (s1.imp fun _ _ hx=>VaR.keep (hf.same fun b hb=>⟨hSr b hb,id⟩) hx)
     have g3:=fun(W:World) (hf:Fr NoT wr W)=>mstmts_any a2 W S Z A2 q2 (fun b h=>ltq (hSr b h) hf.size) z3 (s2.imp fun _ _ hx=>StR.keep (hf.same fun b hb=>⟨hSr b hb,id⟩) hx)
     have hst:=hall.out
     rw[allPr_step hd]at hst
     unfold okP1 at hst
     obtain⟨u1,hu1⟩:=nmq (nameB a0.data.toList)
     obtain⟨u2,hu2⟩:=nmq (okVs a1)
     obtain⟨u3,hu3⟩:=nmq (okS a2)
     rw[←hu1]at hst g1
     rw[←hu2]at hst g2
     rw[←hu3]at hst g3
     obtain⟨l1,hl1'⟩:=nmq a1.length
     obtain⟨l2,hl2'⟩:=nmq a2.len
     rw[←hl1']at c1 g2
     rw[←hl2']at c2 g3
     have G1:=hdq g1
     have G2:=hdq g2
     have G3:=hdq g3
     have HST:=hdq hst
     clear hd hall r0 hat hbS g1 g2 g3 hst hu1 hu2 hu3 hl1' hl2' z1 z2 z3 hSr s1 s2
     have HK5:=hdq (Bk.new wr 68 #[.string a0,.slice A1 l1 q1,.slice A2 l2 q2,.int .i64 a3])
     have HF5:=hdq (show Fr NoT wr (wr.alloc (.cells #[.string a0,.slice A1 l1 q1,.slice A2 l2 q2,.int .i64 a3] 68))from(Fr.refl _ _).alloc _)
     go_wp2_with fail
     refine(G1.out _).mono ?_
     rintro _ w6 ⟨rfl,hb1⟩
     have hf:=Fr.below (T:=NoT) hb1
     have hk:=HK5.out.fr0 hf
     have HF6:=hdq (HF5.out.trans hf)
     have HK6:=hdq hk
     clear x0 x1 x2 x3 hl1 c0 c1 c2 c3 hb1 hf hxr
     obtain⟨y0,y1,y2,y3,hl1⟩:=bk4 hk
     clear hk
     cases u1
     ·have HF:=hdq (show R=false from by rw[HST.out];simp)
      clear HST
      go_wp2_with fail
      go_ret
      exact⟨by rw[HF.out];rfl,(HB.out.trans HF6.out)⟩
     go_wp2_with fail
     refine(G2.out _ HF6.out).mono ?_
     rintro _ w7 ⟨rfl,hf⟩
     have hk:=HK6.out.fr0 hf
     have HF7:=hdq (HF6.out.trans hf)
     have HK7:=hdq hk
     clear y0 y1 y2 y3 hl1 hf
     obtain⟨y0,y1,y2,y3,hl1⟩:=bk4 hk
     clear hk
     cases u2
     ·have HF:=hdq (show R=false from by rw[HST.out];simp)
      clear HST
      go_wp2_with fail
      go_ret
      exact⟨by rw[HF.out];rfl,(HB.out.trans HF7.out)⟩
     go_wp2_with fail
     refine(G3.out _ HF7.out).mono ?_
     rintro _ w8 ⟨rfl,hf⟩
     have HF8:=hdq (HF7.out.trans hf)
     clear y0 y1 y2 y3 hl1 hf
     cases u3
     ·have HF:=hdq (show R=false from by rw[HST.out];simp)
      clear HST
      go_wp2_with fail
      go_ret
      exact⟨by rw[HF.out];rfl,(HB.out.trans HF8.out)⟩
     have HN:=hdq (show R=allPr okP1 (t.procs.drop (j+1))from by rw[HST.out];simp;rfl)
     clear HST
     go_wp2_with fail
     go_roundw
     case rel=>exact⟨j+1,by omega,by go_num,HB3.out.trans HF8.out,HN.out⟩
     case measure=>simp[intOf];omega
    ·have hltj':¬(j:Int) < (n3:Int):=by omega
     have HF:=hdq (show R=true from by rw[hall.out,List.drop_eq_nil_of_le (by rw[←HN3.out];omega)];rfl)
     clear hall
     go_wp2_with fail
     go_ret
     exact⟨by rw[HF.out];rfl,HB.out⟩
end Go.Proofs.YtmopichdofgndaaGreatDoor
