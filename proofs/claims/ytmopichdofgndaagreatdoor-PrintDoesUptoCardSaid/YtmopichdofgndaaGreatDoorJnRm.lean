/-
  ref10: mayExpr, mayExprs: may expressions be printed?
-/
import Derived.Test.YtmopichdofgndaaGreatDoorJnCkB
import Derived.Test.YtmopichdofgndaaGreatDoorJnLr
set_option linter.unusedVariables false
set_option linter.unusedSimpArgs false
set_option maxHeartbeats 6400000
set_option maxRecDepth 100000
namespace Go.Proofs.YtmopichdofgndaaGreatDoor
open Go.RowKit Go.Shelf

theorem nameB_ne {l:List UInt8} (h:nameB l=true):l≠ []:=by
 rintro rfl
 exact absurd h (by decide)
theorem nil_toList (a:ByteArray):(a.toList== [])=decide (a.data.toList= []):=by
 rw[Bool.eq_iff_iff]
 simp only[beq_iff_eq,decide_eq_true_eq]
 constructor
 ·intro h
  have:=congrArg List.length h
  simpa[ByteArray.toList_eq]using h
 ·intro h
  simpa[ByteArray.toList_eq]using h
theorem nmd_no {nm:ByteArray} (h:nameB nm.data.toList=true):nmdB false nm=false:=by
 show(nm.toList== [])=false
 rw[nil_toList]
 have:=nameB_ne h
 simpa using this
set_option hygiene false in
macro "nm_walk" :tactic=> `(tactic|(
 go_enter Tryz.func228,Tryz.ntmps228
 go_wp2_with fail
 refine(HNM.out _).mono ?_
 rintro _ w2 ⟨rfl,hb⟩
 have hk2:=HB1.out.fr0 (Fr.below hb)
 have HF2:=hdq (HF1.out.trans (Fr.below hb))
 have c0:=hk2.cell 0
 have c1:=hk2.cell 1
 have c3:=hk2.cell 3
 have hl1:=hk2.lt
 simp only[getsL]at c0 c1 c3
 clear hb hk2
 cases q<;>cases b
 all_goals
  first
   |exact absurd (HQ.out rfl) (by decide)
   |(go_wp2_with fail
     go_ret
     exact⟨by rw[HF.out];simp,HF2.out⟩)
   |(go_wp2_with fail
     refine(HC.out _ _ HF2.out).mono ?_
     rintro _ w3 ⟨rfl,hb⟩
     have HF3:=hdq (HF2.out.trans hb)
     clear hb
     go_wp2_with fail
     go_ret
     exact⟨by rw[HF.out];simp,HF3.out⟩)))
theorem mexpr_one (k:Int) (nm:ByteArray) (n:Int) (at_:Int) (A:Option Addr) (l c:Nat) (r:Bool) (w:World) (hs:nm.size≤9223372036854775807)
  (hc:∀W (many:Int),Fr NoT w W→Calls Tryz.prog 204 #[.slice A l c,.int .i64 many] W (EqPost (((l:Int)==many)&&r) W)):
  Calls Tryz.prog 228 #[.agg #[.int .u8 k,.string nm,.int .i64 n,.slice A l c,.int .i64 at_]] w
   (EqPost (decide (1≤k)&&decide (k≤11)&&decide (0≤n)&&(decide (n≤0) || k==1)&&nmdB (tabA exShp k).2.2.2 nm&&((l:Int)==(tabA exShp k).1)&&r) w):=by
 obtain⟨R,hR⟩:=nmq ((decide (1≤k)&&decide (k≤11)&&decide (0≤n)&&(decide (n≤0) || k==1)&&nmdB (tabA exShp k).2.2.2 nm&&((l:Int)==(tabA exShp k).1)&&r))
 rw[←hR]
 have HC:=hdq hc
 have HNM:=hdq (fun(W:World)=>rname_any nm hs W)
 clear hc hs
 have hf1:Fr NoT w (w.alloc (.cells #[.int .u8 k,.string nm,.int .i64 n,.slice A l c,.int .i64 at_] 41)):=(Fr.refl _ _).alloc _
 have HF1:=hdq hf1
 have HB1:=hdq (Bk.new w 41 #[.int .u8 k,.string nm,.int .i64 n,.slice A l c,.int .i64 at_])
 clear hf1
 -- what the kind says
 have hk:(k < 1∨11 < k)∨((1≤k∧k≤11)∧∃nd a,(tabA exShp k).2.2.2 =nd∧(tabA exShp k).1 =a∧((k=1∧nd=false∧a=0)∨(k=2∧nd=true∧a=0)∨(k=3∧nd=true∧a=1)∨(k=4∧nd=false∧a=1)∨(5≤k∧k≤11∧nd=false∧a=2))):=by
  by_cases h:k < 1∨11 < k
  ·exact .inl h
  right
  have h1:1≤k∧k≤11:=by omega
  refine⟨h1,_,_,rfl,rfl,?_⟩
  have:k=1∨k=2∨k=3∨k=4∨k=5∨k=6∨k=7∨k=8∨k=9∨k=10∨k=11:=by omega
  rcases this with rfl|rfl|rfl|rfl|rfl|rfl|rfl|rfl|rfl|rfl|rfl<;>decide
 rcases hk with hk|⟨hk0,nd,a,hnd,ha,hk⟩
 ·have HF:=hdq (show R=false from by
   rw[hR]
   rcases hk with h|h
   ·rw[show decide (1≤k)=false from by simp;omega];simp
   ·rw[show decide (k≤11)=false from by simp;omega];simp)
  have g1:(k==1)=false:=by simp;omega
  have g2:(k==2)=false:=by simp;omega
  have g3:(k==3)=false:=by simp;omega
  have g4:(k==4)=false:=by simp;omega
  rcases hk with h|h
  ·have e1:decide (k < 1)=true:=by simp;omega
   clear hR h HB1
   go_enter Tryz.func228,Tryz.ntmps228
   go_wp2_with fail
   go_ret
   exact⟨by rw[HF.out];rfl,HF1.out⟩
  ·have e1:decide (k < 1)=false:=by simp;omega
   have e2:decide (11 < k)=true:=by simp;omega
   clear hR h HB1
   go_enter Tryz.func228,Tryz.ntmps228
   go_wp2_with fail
   go_ret
   exact⟨by rw[HF.out];rfl,HF1.out⟩
 have hR1:R=(decide (0≤n)&&(decide (n≤0) || k==1)&&nmdB nd nm&&((l:Int)==a)&&r):=by
  rw[hR,hnd,ha,show decide (1≤k)=true from by simpa using hk0.1,show decide (k≤11)=true from by simpa using hk0.2]
  simp
 clear hR hnd ha
 obtain⟨q,hq⟩:=nmq (nameB nm.data.toList)
 obtain⟨b,hb⟩:=nmq ((nm.toList== []))
 have hn1:q=true→b=false:=fun h=>by
  have:=nmd_no (nm:=nm) (by rw[←hq];exact h)
  rw[hb];exact this
 have hnd:nmdB nd nm=if nd then q else b:=by unfold nmdB;rw[hq,hb]
 rw[hnd]at hR1
 rw[←hq]at HNM
 have eb:(nm.toList== [])=b:=hb.symm
 have eb2:(nm.toList != [])= !b:=by rw[hb];rfl
 clear hq hb hnd
 have hnc:n < 0∨n=0∨(0 < n∧k=1)∨(0 < n∧k≠1):=by omega
 have hx:n < 0∨(0 < n∧k≠1)→R=false:=fun h=>by
  rw[hR1]
  rcases h with h|⟨h,h2⟩
  ·rw[show decide (0≤n)=false from by simp;omega];simp
  ·rw[show decide (n≤0)=false from by simp;omega,show(k==1)=false from by simpa using h2];simp
 have hy:n=0∨(0 < n∧k=1)→R=((if nd then q else b)&&((l:Int)==a)&&r):=fun h=>by
  rw[hR1,show decide (0≤n)=true from by simp;omega,show(decide (n≤0) || k==1)=true from by rcases h with h|⟨h,h2⟩<;>simp[*]]
  simp
 have HX:=hdq hx
 have HY:=hdq hy
 have HQ:=hdq hn1
 clear hR1 hx hy hn1
 rcases hk with⟨rfl,rfl,rfl⟩|⟨rfl,rfl,rfl⟩|⟨rfl,rfl,rfl⟩|⟨rfl,rfl,rfl⟩|⟨h5,h11,rfl,rfl⟩
 case' inr.inr.inr.inr=>
  have g1:(k==1)=false:=by simp;omega
  have g2:(k==2)=false:=by simp;omega
  have g3:(k==3)=false:=by simp;omega
  have g4:(k==4)=false:=by simp;omega
  have g5:(k != 1)=true:=by simp;omega
  have g6:decide (k < 1)=false:=by simp;omega
  have g7:decide (11 < k)=false:=by simp;omega
 all_goals
  rcases hnc with h|rfl|⟨h,hk1⟩|⟨h,hk1⟩
  ·have HF:=hdq (HX.out (.inl h))
   have e3:decide (n < 0)=true:=by simpa using h
   clear HX HY HQ h hk0 HB1
   go_enter Tryz.func228,Tryz.ntmps228
   go_wp2_with fail
   go_ret
   exact⟨by rw[HF.out];rfl,HF1.out⟩
  rotate_left
  rotate_left
  ·first
    |exact absurd rfl hk1
    |(have HF:=hdq (HX.out (.inr ⟨h,hk1⟩))
      have e3:decide (n < 0)=false:=by simp;omega
      have e4:(n != 0)=true:=by simp;omega
      clear HX HY HQ h hk0 HB1 hk1
      go_enter Tryz.func228,Tryz.ntmps228
      go_wp2_with fail
      go_ret
      exact⟨by rw[HF.out];rfl,HF1.out⟩)
  ·have HF:=hdq (HY.out (.inl rfl))
   clear HX HY hk0
   nm_walk
  ·first
    |exact absurd hk1 (by decide)
    |exact absurd hk1 (by omega)
    |(have HF:=hdq (HY.out (.inr ⟨h,hk1⟩))
      have e3:decide (n < 0)=false:=by simp;omega
      have e4:(n != 0)=true:=by simp;omega
      clear HX HY hk0 h hk1
      nm_walk)

def MxC (xs:Exs):Prop:=∀(W:World) (S:Nat→Prop) (Z:Prop) (A:Option Addr) (c:Nat) (many:Int),(∀b,S b→b < W.heap.size)→szX xs→SlR (fun b o=>ExR W S Z xs b o) xs.len 64 A c→
 Calls Tryz.prog 204 #[.slice A xs.len c,.int .i64 many] W (EqPost (((xs.len:Int)==many)&&okX xs) W)
def MxI (xs:Exs):Prop:=∀(i:Nat) (a0:Int) (a1:ByteArray) (a2:Int) (a3:Exs) (a4:Int) (ar:Exs),Exs.drop i xs= .cons a0 a1 a2 a3 a4 ar→MxC a3
theorem szX_drop:∀(i:Nat) {xs:Exs} {a0 a1 a2 a3 a4 ar},szX xs→Exs.drop i xs= .cons a0 a1 a2 a3 a4 ar→a1.size≤9223372036854775807∧szX a3
 |0,.nil,_,_,_,_,_,_,_,hd=>by simp[Exs.drop]at hd
 |i+1,.nil,_,_,_,_,_,_,_,hd=>by simp[Exs.drop]at hd
 |0,.cons k nm n args at_ r,_,_,_,_,_,_,h,hd=>by
  simp only[Exs.drop]at hd
  injection hd with e0 e1 e2 e3 e4 e5
  subst e1 e3
  exact⟨h.1,h.2.1⟩
 |i+1,.cons k nm n args at_ r,_,_,_,_,_,_,h,hd=>by
  simp only[Exs.drop]at hd
  exact szX_drop i h.2.2 hd
theorem okX_step {xs:Exs} {i:Nat} {a0 a1 a2 a3 a4 ar} (hd:Exs.drop i xs= .cons a0 a1 a2 a3 a4 ar):okX (Exs.drop i xs)=(okE a0 a1 a2 a3 a4&&okX (Exs.drop (i+1) xs)):=by
 rw[Exs.drop_succ i xs hd,hd];rfl
theorem mx_one (xs:Exs) (hall0:MxI xs):MxC xs:=by
 intro w S Z A c many hS hsz hx
 have hl:xs.len≤9223372036854775807:=leq9 hx.1 hx.2.1.1
 have HA:=hdq hall0
 have HX:=hdq hx
 have HS:=hdq hS
 have HZ:=hdq hsz
 obtain⟨m,hm⟩:=nmq xs.len
 rw[←hm]at hl ⊢
 have HM:=hdq hm
 obtain⟨F,hF⟩:=nmq ((((m:Int)==many)&&okX xs))
 rw[←hF]
 by_cases hmm:(m:Int)=many
 rotate_left
 ·have HF:=hdq (show F=false from by rw[hF,show((m:Int)==many)=false from by simpa using hmm];rfl)
  have e1:((m:Int) != many)=true:=by simpa using hmm
  clear hF hmm hx hS hsz hm hall0
  go_enter Tryz.func204,Tryz.ntmps204
  go_wp2_with fail
  go_ret
  exact⟨by rw[HF.out];rfl,Fr.refl _ _⟩
 subst hmm
 have HF:=hdq (show F=okX xs from by rw[hF];simp)
 clear hall0 hx hS hm hF hsz
 go_enter Tryz.func204,Tryz.ntmps204
 go_wp2_with fail
 go_loopw [5] (fun i wr=>∃k:Nat,k≤m∧i= .int .i64 k∧Hid (Fr NoT w wr)∧Hid (F=okX (Exs.drop k xs))) (fun i _=>m - (intOf i).toNat)
 case atStart=>exact⟨0,Nat.zero_le _,rfl,Fr.refl _ _,HF.out⟩
 case round=>
  clear HF
  obtain⟨k,hk,rfl,hb,hall⟩:=hrel
  by_cases hlt:k < m
  ·obtain⟨a0,a1,a2,a3,a4,ar,hd⟩:=Exs.drop_cons (show k < xs.len from by rw[←HM.out];exact hlt)
   obtain⟨b,o,rfl,hat⟩:=HX.out.2.2 (by rw[←HM.out];omega)
   have hat1:=(ExR.keep (hb.out.same fun b hb=>⟨HS.out b hb,id⟩) hat).drop k
   rw[hd]at hat1
   obtain⟨⟨hbS,_,r0,r1,_,c0,c1,c2,c4⟩,⟨A3,q3,c3,s3⟩,_⟩:=hat1
   have hxr:b < wr.heap.size:=ltq (HS.out _ hbS) hb.out.size
   have hlt':(k:Int) < (m:Int):=by omega
   have hge:(0:Int)≤(k:Int):=by omega
   obtain⟨z1,z2⟩:=szX_drop k HZ.out hd
   have hSr:∀b,S b→b < wr.heap.size:=fun b h=>ltq (HS.out b h) hb.out.size
   have hone:=mexpr_one a0 a1 a2 a4 A3 a3.len q3 (okX a3) wr z1 fun W many hf=>HA.out k a0 a1 a2 a3 a4 ar hd W S Z A3 q3 many (fun b h=>ltq (hSr b h) hf.size) z2 (s3.imp fun _ _ hx=>ExR.keep (hf.same fun b hb=>⟨hSr b hb,id⟩) hx)
   have hst:=hall.out.trans (okX_step hd)
   obtain⟨v,hv⟩:=nmq (okE a0 a1 a2 a3 a4)
   rw[←hv]at hst
   unfold okE at hv
   rw[←hv]at hone
   have H1:=hdq hone
   have HST:=hdq hst
   have HB:=hdq hb.out
   clear hd hat hall hb hbS s3 r0 r1 hone hst hv z1 z2 hSr
   go_wp2_with fail
   refine H1.out.mono ?_
   rintro _ w1 ⟨rfl,hb1⟩
   have HB1:=hdq (HB.out.trans hb1)
   clear hb1 c0 c1 c2 c3 c4
   cases v
   ·have HF:=hdq (show F=false from by rw[HST.out];rfl)
    clear HST
    go_wp2_with fail
    go_ret
    exact⟨by rw[HF.out];rfl,HB1.out⟩
   ·have HN:=hdq (show F=okX (Exs.drop (k+1) xs)from by rw[HST.out];rfl)
    clear HST
    go_wp2_with fail
    go_roundw
    case rel=>exact⟨k+1,by omega,by go_num,HB1.out,HN.out⟩
    case measure=>simp[intOf];omega
  ·have HF:=hdq (show F=true from by rw[hall.out,Exs.drop_nil (by rw[←HM.out];omega)];rfl)
   have HB:=hdq hb.out
   clear hall hb
   go_wp2_with fail
   go_ret
   exact⟨by rw[HF.out];rfl,HB.out⟩
theorem mxi_all:∀xs:Exs,MxI xs
 | .nil =>fun i _ _ _ _ _ _ hd=>by cases i<;>simp[Exs.drop]at hd
 | .cons k nm n args at_ r=>fun i _ _ _ _ _ _ hd=>by
  cases i with
  |zero=>
   simp only[Exs.drop]at hd
   injection hd with e0 e1 e2 e3 e4 e5
   subst e0 e1 e2 e3 e4 e5
   exact mx_one args (mxi_all args)
  |succ i=>
   simp only[Exs.drop]at hd
   exact mxi_all r i _ _ _ _ _ _ hd
theorem mexprs_any (xs:Exs):MxC xs:=mx_one xs (mxi_all xs)

def McC (k:Int) (args:Exs) (of_:Cds) (at_:Int):Prop:=∀(W:World) (S:Nat→Prop) (Z:Prop) (A2 A3:Option Addr) (q2 q3:Nat),(∀b,S b→b < W.heap.size)→szX args→szC of_→SlR (fun b o=>ExR W S Z args b o) args.len 64 A2 q2→SlR (fun b o=>CdR W S Z of_ b o) of_.len 64 A3 q3→
 Calls Tryz.prog 205 #[.agg #[.int .u8 k,.slice A2 args.len q2,.slice A3 of_.len q3,.int .i64 at_]] W (EqPost (okD k args of_ at_) W)
def McI (xs:Cds):Prop:=∀(i:Nat) (a0:Int) (a1:Exs) (a2:Cds) (a3:Int) (ar:Cds),Cds.drop i xs= .cons a0 a1 a2 a3 ar→McC a0 a1 a2 a3
theorem szC_drop:∀(i:Nat) {xs:Cds} {a0 a1 a2 a3 ar},szC xs→Cds.drop i xs= .cons a0 a1 a2 a3 ar→szX a1∧szC a2
 |0,.nil,_,_,_,_,_,_,hd=>by simp[Cds.drop]at hd
 |i+1,.nil,_,_,_,_,_,_,hd=>by simp[Cds.drop]at hd
 |0,.cons k args of_ at_ r,_,_,_,_,_,h,hd=>by
  simp only[Cds.drop]at hd
  injection hd with e0 e1 e2 e3 e4
  subst e1 e2
  exact⟨h.1,h.2.1⟩
 |i+1,.cons k args of_ at_ r,_,_,_,_,_,h,hd=>by
  simp only[Cds.drop]at hd
  exact szC_drop i h.2.2 hd
theorem okC_step {xs:Cds} {i:Nat} {a0 a1 a2 a3 ar} (hd:Cds.drop i xs= .cons a0 a1 a2 a3 ar):okC (Cds.drop i xs)=(okD a0 a1 a2 a3&&okC (Cds.drop (i+1) xs)):=by
 rw[Cds.drop_succ i xs hd,hd];rfl
set_option hygiene false in
macro "mc_walk" a:term:max o:term:max:tactic=> `(tactic|(
 by_cases hmm:(m:Int)= $o
 rotate_left
 ·have HF:=hdq (show R=false from by rw[HRR.out,show((m:Int)== $o)=false from by simpa using hmm];simp)
  have e1:((m:Int) != $o)=true:=by simpa using hmm
  clear HRR HM hmm HB1
  go_enter Tryz.func205,Tryz.ntmps205
  go_wp2_with fail
  go_ret
  exact⟨by rw[HF.out];rfl,HF1.out⟩
 have e1:((m:Int) != $o)=false:=by simpa using hmm
 have HRR2:=hdq (show R=((((l:Int)== $a)&&okX args)&&okC of_)from by rw[HRR.out,show((m:Int)== $o)=true from by simpa using hmm,Bool.and_true])
 have hmv:=fun(W:World) (hf:Fr NoT w W)=>HMX.out W $a hf
 obtain⟨v,hv⟩:=nmq ((((l:Int)== $a)&&okX args))
 have hr2:=HRR2.out
 rw[←hv]at hmv hr2
 have HMV:=hdq hmv
 have HR2:=hdq hr2
 clear HRR hmm HRR2 hr2 hmv hv
 go_enter Tryz.func205,Tryz.ntmps205
 go_wp2_with fail
 refine(HMV.out _ HF1.out).mono ?_
 rintro _ w2 ⟨rfl,hb⟩
 have hk2:=HB1.out.fr0 hb
 have HF2:=hdq (HF1.out.trans hb)
 have c2:=hk2.cell 2
 have hl1:=hk2.lt
 simp only[getsL]at c2
 have HB2:=hdq hk2
 clear hb hk2
 cases v
 ·have HF:=hdq (show R=false from by rw[HR2.out];rfl)
  clear HR2
  go_wp2_with fail
  go_ret
  exact⟨by rw[HF.out];rfl,HF2.out⟩
 have HF:=hdq (show R=okC of_ from by rw[HR2.out];rfl)
 clear HR2
 go_wp2_with fail
 go_loopw [5] (fun i wr=>∃k:Nat,k≤m∧i= .int .i64 k∧Hid (Fr NoT w2 wr)∧Hid (R=okC (Cds.drop k of_))) (fun i _=>m - (intOf i).toNat)
 case atStart=>exact⟨0,Nat.zero_le _,rfl,Fr.refl _ _,HF.out⟩
 case round=>
  clear HF c2 hl1
  obtain⟨k,hk,rfl,hb,hall⟩:=hrel
  have hk3:=HB2.out.fr0 hb.out
  have c2:=hk3.cell 2
  have hl1:=hk3.lt
  simp only[getsL]at c2
  have hbw:=HF2.out.trans hb.out
  clear hk3
  by_cases hlt:k < m
  ·obtain⟨a0,a1,a2,a3,ar,hd⟩:=Cds.drop_cons (show k < of_.len from by rw[←HM.out];exact hlt)
   obtain⟨b,o',rfl,hat⟩:=HX.out.2.2 (by rw[←HM.out];omega)
   have hat1:=(CdR.keep (hbw.same fun b hb=>⟨HS.out b hb,id⟩) hat).drop k
   rw[hd]at hat1
   obtain⟨⟨hbS,_,r0,r1,d0,d3⟩,⟨A2',p2,d1,s2⟩,⟨A3',p3,d2,s3⟩,_⟩:=hat1
   have hxr:b < wr.heap.size:=ltq (HS.out _ hbS) hbw.size
   have hlt':(k:Int) < (m:Int):=by omega
   have hge:(0:Int)≤(k:Int):=by omega
   obtain⟨z1,z2⟩:=szC_drop k HZ.out hd
   have hone:=HA.out k a0 a1 a2 a3 ar hd wr S Z A2' A3' p2 p3 (fun b h=>ltq (HS.out b h) hbw.size) z1 z2 s2 s3
   have hst:=hall.out.trans (okC_step hd)
   obtain⟨v,hv⟩:=nmq (okD a0 a1 a2 a3)
   rw[←hv]at hst hone
   have H1:=hdq hone
   have HST:=hdq hst
   have HB:=hdq hb.out
   have HBW:=hdq hbw
   clear hd hat hall hb hbS s2 s3 r0 r1 hone hst hv z1 z2 hbw
   go_wp2_with fail
   refine H1.out.mono ?_
   rintro _ w1 ⟨rfl,hb1⟩
   have HB1:=hdq (HB.out.trans hb1)
   have HBW1:=hdq (HBW.out.trans hb1)
   clear hb1 c2 d0 d1 d2 d3
   cases v
   ·have HF:=hdq (show R=false from by rw[HST.out];rfl)
    clear HST
    go_wp2_with fail
    go_ret
    exact⟨by rw[HF.out];rfl,HBW1.out⟩
   ·have HN:=hdq (show R=okC (Cds.drop (k+1) of_)from by rw[HST.out];rfl)
    clear HST
    go_wp2_with fail
    go_roundw
    case rel=>exact⟨k+1,by omega,by go_num,HB1.out,HN.out⟩
    case measure=>simp[intOf];omega
  ·have HF:=hdq (show R=true from by rw[hall.out,Cds.drop_nil (by rw[←HM.out];omega)];rfl)
   have HB:=hdq hbw
   clear hall hb hbw
   go_wp2_with fail
   go_ret
   exact⟨by rw[HF.out];rfl,HB.out⟩))
theorem mc_one (k:Int) (args:Exs) (of_:Cds) (at_:Int) (hall0:McI of_):McC k args of_ at_:=by
 intro w S Z A2 A3 q2 q3 hS hz1 hz2 hx hy
 have hl:args.len≤9223372036854775807:=leq9 hx.1 hx.2.1.1
 have hm9:of_.len≤9223372036854775807:=leq9 hy.1 hy.2.1.1
 obtain⟨R,hR⟩:=nmq (okD k args of_ at_)
 rw[←hR]
 unfold okD at hR
 have HMX0:=hdq (fun(W:World) (many:Int) (hf:Fr NoT w W)=>mexprs_any args W S Z A2 q2 many (fun b h=>ltq (hS b h) hf.size) hz1 (hx.imp fun _ _ hx=>ExR.keep (hf.same fun b hb=>⟨hS b hb,id⟩) hx))
 obtain⟨l,hll⟩:=nmq args.len
 have hmx:=HMX0.out
 rw[←hll]at hl hR hmx ⊢
 have HMX:=hdq hmx
 have HA:=hdq hall0
 have HX:=hdq hy
 have HS:=hdq hS
 have HZ:=hdq hz2
 obtain⟨m,hm⟩:=nmq of_.len
 rw[←hm]at hR hm9 ⊢
 have HM:=hdq hm
 clear hall0 hx hy hS hz1 hz2 HMX0 hmx hll hm
 have hf1:Fr NoT w (w.alloc (.cells #[.int .u8 k,.slice A2 l q2,.slice A3 m q3,.int .i64 at_] 160)):=(Fr.refl _ _).alloc _
 have HF1:=hdq hf1
 have HB1:=hdq (Bk.new w 160 #[.int .u8 k,.slice A2 l q2,.slice A3 m q3,.int .i64 at_])
 clear hf1
 have hk:(k < 1∨11 < k)∨((1≤k∧k≤11)∧∃a o,(tabA cdShp k).1 =a∧(tabA cdShp k).2.1 =o∧((k=1∧a=0∧o=0)∨(k=2∧a=0∧o=0)∨(k=9∧a=0∧o=1)∨(k=10∧a=0∧o=2)∨(k=11∧a=0∧o=2)∨(3≤k∧k≤8∧a=2∧o=0))):=by
  by_cases h:k < 1∨11 < k
  ·exact .inl h
  right
  have h1:1≤k∧k≤11:=by omega
  refine⟨h1,_,_,rfl,rfl,?_⟩
  have:k=1∨k=2∨k=3∨k=4∨k=5∨k=6∨k=7∨k=8∨k=9∨k=10∨k=11:=by omega
  rcases this with rfl|rfl|rfl|rfl|rfl|rfl|rfl|rfl|rfl|rfl|rfl<;>decide
 rcases hk with hk|⟨hk0,a,o,ha,ho,hk⟩
 ·have HF:=hdq (show R=false from by
   rw[hR]
   rcases hk with h|h
   ·rw[show decide (1≤k)=false from by simp;omega];simp
   ·rw[show decide (k≤11)=false from by simp;omega];simp)
  have g1:(k==9)=false:=by simp;omega
  have g2:(k==10)=false:=by simp;omega
  have g3:(k==11)=false:=by simp;omega
  rcases hk with h|h
  ·have e1:decide (k < 1)=true:=by simp;omega
   have e2:decide (3≤k)=false:=by simp;omega
   clear hR h HB1
   go_enter Tryz.func205,Tryz.ntmps205
   go_wp2_with fail
   go_ret
   exact⟨by rw[HF.out];rfl,HF1.out⟩
  ·have e1:decide (k < 1)=false:=by simp;omega
   have e2:decide (11 < k)=true:=by simp;omega
   have e3:decide (3≤k)=true:=by simp;omega
   have e4:decide (k≤8)=false:=by simp;omega
   clear hR h HB1
   go_enter Tryz.func205,Tryz.ntmps205
   go_wp2_with fail
   go_ret
   exact⟨by rw[HF.out];rfl,HF1.out⟩
 have HRR:=hdq (show R=(((l:Int)==a)&&((m:Int)==o)&&okX args&&okC of_)from by
  rw[hR,ha,ho,show decide (1≤k)=true from by simpa using hk0.1,show decide (k≤11)=true from by simpa using hk0.2]
  simp)
 clear hR ha ho
 rcases hk with⟨rfl,rfl,rfl⟩|⟨rfl,rfl,rfl⟩|⟨rfl,rfl,rfl⟩|⟨rfl,rfl,rfl⟩|⟨rfl,rfl,rfl⟩|⟨h5,h11,rfl,rfl⟩
 case' inr.inr.inr.inr.inr=>
  have g1:(k==9)=false:=by simp;omega
  have g2:(k==10)=false:=by simp;omega
  have g3:(k==11)=false:=by simp;omega
  have g4:decide (3≤k)=true:=by simpa using h5
  have g5:decide (k≤8)=true:=by simpa using h11
  have g6:decide (k < 1)=false:=by simp;omega
  have g7:decide (11 < k)=false:=by simp;omega
 all_goals clear hk0
 ·mc_walk 2 0
 ·mc_walk 0 0
 ·mc_walk 0 0
 ·mc_walk 0 1
 ·mc_walk 0 2
 ·mc_walk 0 2
theorem mci_all:∀xs:Cds,McI xs
 | .nil =>fun i _ _ _ _ _ hd=>by cases i<;>simp[Cds.drop]at hd
 | .cons k args of_ at_ r=>fun i _ _ _ _ _ hd=>by
  cases i with
  |zero=>
   simp only[Cds.drop]at hd
   injection hd with e0 e1 e2 e3 e4
   subst e0 e1 e2 e3 e4
   exact mc_one k args of_ at_ (mci_all of_)
  |succ i=>
   simp only[Cds.drop]at hd
   exact mci_all r i _ _ _ _ _ hd
theorem mcond_any (k:Int) (args:Exs) (of_:Cds) (at_:Int):McC k args of_ at_:=mc_one k args of_ at_ (mci_all of_)
end Go.Proofs.YtmopichdofgndaaGreatDoor
