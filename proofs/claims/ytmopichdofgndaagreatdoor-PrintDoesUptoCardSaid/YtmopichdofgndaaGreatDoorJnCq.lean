/-
  ref10.sizeExprs, sizeConds, sizeStmts, sizeVars, Great: they answer, whatever they answer.
-/
import Derived.Test.YtmopichdofgndaaGreatDoorJnCkA
set_option linter.unusedVariables false
set_option linter.unusedSimpArgs false
set_option maxHeartbeats 3200000
set_option maxRecDepth 100000
namespace Go.Proofs.YtmopichdofgndaaGreatDoor
open Go.RowKit Go.Shelf

def Dr (w w':World):Prop:=∃q,w'=w.drewN q
theorem Dr.refl (w:World):Dr w w:=⟨0,rfl⟩
theorem Dr.trans {a b c:World} (h:Dr a b) (k:Dr b c):Dr a c:=by
 obtain⟨n,rfl⟩:=h
 obtain⟨m,rfl⟩:=k
 exact⟨n+m,by rw[World.drewN_drewN]⟩
theorem Dr.more (w:World) (n:Nat):Dr w (w.drewN n):=⟨n,rfl⟩
theorem Dr.same {S:Nat→Prop} {w w':World} (h:Dr w w'):SameS S w w':=by
 obtain⟨n,rfl⟩:=h
 exact fun _ _=>⟨rfl,rfl⟩
theorem Dr.fr {w w':World} (h:Dr w w'):Fr NoT w w':=by
 obtain⟨n,rfl⟩:=h
 exact(Fr.refl _ _).drewN _
def IntD (n:Int) (W:World) (e:Ending) (w':World):Prop:=e= .returned (.int .i64 n)∧Dr W w'
theorem quiet_d {P:Program} {f:FuncId} {args:Array Value} {w:World} {n:Nat} {v:Int} (h:Calls P f args (w.drewN n) (IntD v (w.drewN n))):
  Calls P f args (w.drewN n) fun e w''=>e= .returned (.int .i64 v)∧∃m,w''=w.drewN m:=
 h.mono fun _ _ ⟨he,m,hm⟩=>⟨he,n+m,by rw[hm,World.drewN_drewN]⟩
def szXF:Exs→Int→Int→Int
 | .nil,n,_=>n
 | .cons _ nm _ args _ r,n,most=>if n≤most then szXF r (wrap64 (wrap64 (wrap64 (n+1)+(nm.size:Int))+szXF args 0 (wrap64 (most - n)))) most else n
theorem szXF_stop {xs:Exs} {n most:Int} (h:¬n≤most):szXF xs n most=n:=by
 cases xs with
 |nil=>rfl
 |cons k nm m args at_ r=>show(if n≤most then _ else n)=n;rw[if_neg h]
theorem szXF_step {xs:Exs} {i:Nat} {n most:Int} {k nm m args at_ r} (hd:Exs.drop i xs= .cons k nm m args at_ r) (h:n≤most):
  szXF (Exs.drop i xs) n most=szXF (Exs.drop (i+1) xs) (wrap64 (wrap64 (wrap64 (n+1)+(nm.size:Int))+szXF args 0 (wrap64 (most - n)))) most:=by
 rw[Exs.drop_succ i xs hd,hd]
 show(if n≤most then _ else n)=_
 rw[if_pos h]
def SzX (xs:Exs):Prop:=∀(most:Int) (W:World) (S:Nat→Prop) (Z:Prop) (A:Option Addr) (c:Nat),(∀x,S x→x < W.heap.size)→SlR (fun b o=>ExR W S Z xs b o) xs.len 64 A c→
 Calls Tryz.prog 73 #[.slice A xs.len c,.int .i64 most] W (IntD (szXF xs 0 most) W)
def SzXI (xs:Exs):Prop:=∀(i:Nat) (a0:Int) (a1:ByteArray) (a2:Int) (a3:Exs) (a4:Int) (ar:Exs),Exs.drop i xs= .cons a0 a1 a2 a3 a4 ar→SzX a3
theorem szx_one (xs:Exs) (hall0:SzXI xs):SzX xs:=by
 intro most w S Z A c hS hx
 have hl:xs.len≤9223372036854775807:=leq9 hx.1 hx.2.1.1
 have HA:=hdq hall0
 have HX:=hdq hx
 have HS:=hdq hS
 obtain⟨m,hm⟩:=nmq xs.len
 rw[←hm]at hl ⊢
 have HM:=hdq hm
 obtain⟨F,hF⟩:=nmq (szXF xs 0 most)
 rw[←hF]
 have HF:=hdq hF
 clear hall0 hx hS hm hF
 go_enter Tryz.func73,Tryz.ntmps73
 go_wp2_with fail
 go_loopw [5,6] (fun n i wr=>∃(k:Nat) (v:Int),k≤m∧i= .int .i64 k∧n= .int .i64 v∧Hid (Dr w wr)∧Hid (F=szXF (Exs.drop k xs) v most)) (fun _ i _=>m - (intOf i).toNat)
 case atStart=>exact⟨0,0,Nat.zero_le _,rfl,rfl,Dr.refl _,HF.out⟩
 case round=>
  obtain⟨k,v,hk,rfl,rfl,hb,hall⟩:=hrel
  by_cases hlt:k < m
  ·by_cases hv:v≤most
   ·have hv1:decide (v≤most)=true:=by simpa using hv
    obtain⟨a0,a1,a2,a3,a4,ar,hd⟩:=Exs.drop_cons (show k < xs.len from by rw[←HM.out];exact hlt)
    obtain⟨B,o,rfl,hat⟩:=HX.out.2.2 (by rw[←HM.out];omega)
    have hat1:=(ExR.keep hb.out.same hat).drop k
    rw[hd]at hat1
    obtain⟨⟨hbS,_,r0,r1,r2,c0,c1,c2,c4⟩,⟨A3,q3,c3,s3⟩,_⟩:=hat1
    have hxr:B < wr.heap.size:=ltq (HS.out _ hbS) hb.out.fr.size
    have hlt':(k:Int) < (m:Int):=by omega
    have hge:(0:Int)≤(k:Int):=by omega
    have hrec:=HA.out k a0 a1 a2 a3 a4 ar hd
    have HR:=hdq (fun(mo:Int) (n:Nat)=>hrec mo (wr.drewN n) S Z A3 q3 (fun x hx=>ltq (HS.out x hx) hb.out.fr.size) (s3.imp fun _ _ hx=>ExR.keep (Dr.same ⟨n,rfl⟩) hx))
    have HST:=hdq (hall.out.trans (szXF_step hd hv))
    have HB:=hdq hb.out
    clear hd hat hall hb hbS s3 r0 r1 r2 hrec hv
    go_wp2_with fail
    go_quiet ((go_at_call 73;exact quiet_d (HR.out _ _)))
    go_wp2_with fail
    go_roundw
    case rel=>exact⟨k+1,_,by omega,by go_num,rfl,HB.out.trans (Dr.more _ _),HST.out⟩
    case measure=>simp[intOf];omega
   ·have hv1:decide (v≤most)=false:=by simpa using hv
    have HE:=hdq (show F=v from by rw[hall.out,szXF_stop hv])
    have HB:=hdq hb.out
    have hlt':(k:Int) < (m:Int):=by omega
    clear hall hb hv
    go_wp2_with fail
    go_ret
    exact⟨by rw[HE.out];rfl,HB.out⟩
  ·have HE:=hdq (show F=v from by rw[hall.out,Exs.drop_nil (by rw[←HM.out];omega)];rfl)
   have HB:=hdq hb.out
   have hlt':¬(k:Int) < (m:Int):=by omega
   clear hall hb
   go_wp2_with fail
   go_ret
   exact⟨by rw[HE.out];rfl,HB.out⟩
theorem szxi_all:∀xs:Exs,SzXI xs
 | .nil =>fun i _ _ _ _ _ _ hd=>by cases i<;>simp[Exs.drop]at hd
 | .cons k0 k1 k2 k3 k4 kr=>fun i _ _ _ _ _ _ hd=>by
  cases i with
  |zero=>
   simp only[Exs.drop]at hd
   injection hd with e0 e1 e2 e3 e4 e5
   subst e0 e1 e2 e3 e4 e5
   exact szx_one k3 (szxi_all k3)
  |succ i=>
   simp only[Exs.drop]at hd
   exact szxi_all kr i _ _ _ _ _ _ hd
theorem szx_any (xs:Exs):SzX xs:=szx_one xs (szxi_all xs)

def szAdd (v most:Int) (f:Int→Int):Int:=wrap64 (v+f (wrap64 (most - v)))
def szCF:Cds→Int→Int→Int
 | .nil,n,_=>n
 | .cons _ args of_ _ r,n,most=>if n≤most then szCF r (szAdd (wrap64 (wrap64 (n+1)+szXF args 0 (wrap64 (most - n)))) most (szCF of_ 0)) most else n
theorem szCF_stop {xs:Cds} {n most:Int} (h:¬n≤most):szCF xs n most=n:=by
 cases xs with
 |nil=>rfl
 |cons k args of_ at_ r=>show(if n≤most then _ else n)=n;rw[if_neg h]
theorem szCF_step {xs:Cds} {i:Nat} {n most:Int} {k args of_ at_ r} (hd:Cds.drop i xs= .cons k args of_ at_ r) (h:n≤most):
  szCF (Cds.drop i xs) n most=szCF (Cds.drop (i+1) xs) (szAdd (wrap64 (wrap64 (n+1)+szXF args 0 (wrap64 (most - n)))) most (szCF of_ 0)) most:=by
 rw[Cds.drop_succ i xs hd,hd]
 show(if n≤most then _ else n)=_
 rw[if_pos h]
def SzC (xs:Cds):Prop:=∀(most:Int) (W:World) (S:Nat→Prop) (Z:Prop) (A:Option Addr) (c:Nat),(∀x,S x→x < W.heap.size)→SlR (fun b o=>CdR W S Z xs b o) xs.len 64 A c→
 Calls Tryz.prog 74 #[.slice A xs.len c,.int .i64 most] W (IntD (szCF xs 0 most) W)
def SzCI (xs:Cds):Prop:=∀(i:Nat) (a0:Int) (a1:Exs) (a2:Cds) (a3:Int) (ar:Cds),Cds.drop i xs= .cons a0 a1 a2 a3 ar→SzC a2
theorem szc_one (xs:Cds) (hall0:SzCI xs):SzC xs:=by
 intro most w S Z A c hS hx
 have hl:xs.len≤9223372036854775807:=leq9 hx.1 hx.2.1.1
 have HA:=hdq hall0
 have HX:=hdq hx
 have HS:=hdq hS
 obtain⟨m,hm⟩:=nmq xs.len
 rw[←hm]at hl ⊢
 have HM:=hdq hm
 obtain⟨F,hF⟩:=nmq (szCF xs 0 most)
 rw[←hF]
 have HF:=hdq hF
 clear hall0 hx hS hm hF
 go_enter Tryz.func74,Tryz.ntmps74
 go_wp2_with fail
 go_loopw [5,6] (fun n i wr=>∃(k:Nat) (v:Int),k≤m∧i= .int .i64 k∧n= .int .i64 v∧Hid (Dr w wr)∧Hid (F=szCF (Cds.drop k xs) v most)) (fun _ i _=>m - (intOf i).toNat)
 case atStart=>exact⟨0,0,Nat.zero_le _,rfl,rfl,Dr.refl _,HF.out⟩
 case round=>
  obtain⟨k,v,hk,rfl,rfl,hb,hall⟩:=hrel
  by_cases hlt:k < m
  ·by_cases hv:v≤most
   ·have hv1:decide (v≤most)=true:=by simpa using hv
    obtain⟨a0,a1,a2,a3,ar,hd⟩:=Cds.drop_cons (show k < xs.len from by rw[←HM.out];exact hlt)
    obtain⟨B,o,rfl,hat⟩:=HX.out.2.2 (by rw[←HM.out];omega)
    have hat1:=(CdR.keep hb.out.same hat).drop k
    rw[hd]at hat1
    obtain⟨⟨hbS,_,r0,r1,c0,c3⟩,⟨A1,q1,c1,s1⟩,⟨A2,q2,c2,s2⟩,_⟩:=hat1
    have hxr:B < wr.heap.size:=ltq (HS.out _ hbS) hb.out.fr.size
    have hlt':(k:Int) < (m:Int):=by omega
    have hge:(0:Int)≤(k:Int):=by omega
    have hrec:=HA.out k a0 a1 a2 a3 ar hd
    have HR1:=hdq (fun(mo:Int)=>szx_any a1 mo wr S Z A1 q1 (fun x hx=>ltq (HS.out x hx) hb.out.fr.size) s1)
    have HR2:=hdq (fun(mo:Int) (W:World) (h:Dr wr W)=>hrec mo W S Z A2 q2 (fun x hx=>ltq (HS.out x hx) (hb.out.trans h).fr.size) (s2.imp fun _ _ hx=>CdR.keep h.same hx))
    have HST:=hdq (hall.out.trans (szCF_step hd hv))
    have HB:=hdq hb.out
    clear hd hat hall hb hbS s1 s2 r0 r1 hrec hv
    go_wp2_with fail
    refine(HR1.out _).mono ?_
    rintro _ w1 ⟨rfl,hd1⟩
    have c2':=(hd1.fr.cell (p:=⟨B,o+k*4+2,none⟩) hxr id).trans c2
    have hx1:=ltq hxr hd1.fr.size
    have HD1:=hdq hd1
    clear hd1 c0 c1 c2 c3 hxr
    go_wp2_with fail
    refine(HR2.out _ _ HD1.out).mono ?_
    rintro _ w2 ⟨rfl,hd2⟩
    have HD2:=hdq ((HB.out.trans HD1.out).trans hd2)
    clear hd2 c2' hx1
    go_wp2_with fail
    go_roundw
    case rel=>exact⟨k+1,_,by omega,by go_num,rfl,HD2.out,HST.out⟩
    case measure=>simp[intOf];omega
   ·have hv1:decide (v≤most)=false:=by simpa using hv
    have HE:=hdq (show F=v from by rw[hall.out,szCF_stop hv])
    have HB:=hdq hb.out
    have hlt':(k:Int) < (m:Int):=by omega
    clear hall hb hv
    go_wp2_with fail
    go_ret
    exact⟨by rw[HE.out];rfl,HB.out⟩
  ·have HE:=hdq (show F=v from by rw[hall.out,Cds.drop_nil (by rw[←HM.out];omega)];rfl)
   have HB:=hdq hb.out
   have hlt':¬(k:Int) < (m:Int):=by omega
   clear hall hb
   go_wp2_with fail
   go_ret
   exact⟨by rw[HE.out];rfl,HB.out⟩
theorem szci_all:∀xs:Cds,SzCI xs
 | .nil =>fun i _ _ _ _ _ hd=>by cases i<;>simp[Cds.drop]at hd
 | .cons k0 k1 k2 k3 kr=>fun i _ _ _ _ _ hd=>by
  cases i with
  |zero=>
   simp only[Cds.drop]at hd
   injection hd with e0 e1 e2 e3 e4
   subst e0 e1 e2 e3 e4
   exact szc_one k2 (szci_all k2)
  |succ i=>
   simp only[Cds.drop]at hd
   exact szci_all kr i _ _ _ _ _ hd
theorem szc_any (xs:Cds):SzC xs:=szc_one xs (szci_all xs)

def szS1 (v most:Int) (n:Nat) (args:Exs):Int:=wrap64 (wrap64 (wrap64 (v+1)+(n:Int))+szXF args 0 (wrap64 (most - v)))
def szSF:Sts→Int→Int→Int
 | .nil,n,_=>n
 | .cons _ nm args cond body els _ r,n,most=>if n≤most then szSF r (szAdd (szAdd (szAdd (szS1 n most nm.size args) most (szCF cond 0)) most (szSF body 0)) most (szSF els 0)) most else n
theorem szSF_stop {xs:Sts} {n most:Int} (h:¬n≤most):szSF xs n most=n:=by
 cases xs with
 |nil=>rfl
 |cons k nm args cond body els at_ r=>show(if n≤most then _ else n)=n;rw[if_neg h]
theorem szSF_step {xs:Sts} {i:Nat} {n most:Int} {k nm args cond body els at_ r} (hd:Sts.drop i xs= .cons k nm args cond body els at_ r) (h:n≤most):
  szSF (Sts.drop i xs) n most=szSF (Sts.drop (i+1) xs) (szAdd (szAdd (szAdd (szS1 n most nm.size args) most (szCF cond 0)) most (szSF body 0)) most (szSF els 0)) most:=by
 rw[Sts.drop_succ i xs hd,hd]
 show(if n≤most then _ else n)=_
 rw[if_pos h]
def SzS (xs:Sts):Prop:=∀(most:Int) (W:World) (S:Nat→Prop) (Z:Prop) (A:Option Addr) (c:Nat),(∀x,S x→x < W.heap.size)→SlR (fun b o=>StR W S Z xs b o) xs.len 128 A c→
 Calls Tryz.prog 22 #[.slice A xs.len c,.int .i64 most] W (IntD (szSF xs 0 most) W)
def SzSI (xs:Sts):Prop:=∀(i:Nat) (a0:Int) (a1:ByteArray) (a2:Exs) (a3:Cds) (a4 a5:Sts) (a6:Int) (ar:Sts),Sts.drop i xs= .cons a0 a1 a2 a3 a4 a5 a6 ar→SzS a4∧SzS a5
theorem szs_one (xs:Sts) (hall0:SzSI xs):SzS xs:=by
 intro most w S Z A c hS hx
 have hl:xs.len≤9223372036854775807:=leq9 hx.1 hx.2.1.1
 have HA:=hdq hall0
 have HX:=hdq hx
 have HS:=hdq hS
 obtain⟨m,hm⟩:=nmq xs.len
 rw[←hm]at hl ⊢
 have HM:=hdq hm
 obtain⟨F,hF⟩:=nmq (szSF xs 0 most)
 rw[←hF]
 have HF:=hdq hF
 clear hall0 hx hS hm hF
 go_enter Tryz.func22,Tryz.ntmps22
 go_wp2_with fail
 go_loopw [5,6] (fun n i wr=>∃(k:Nat) (v:Int),k≤m∧i= .int .i64 k∧n= .int .i64 v∧Hid (Dr w wr)∧Hid (F=szSF (Sts.drop k xs) v most)) (fun _ i _=>m - (intOf i).toNat)
 case atStart=>exact⟨0,0,Nat.zero_le _,rfl,rfl,Dr.refl _,HF.out⟩
 case round=>
  obtain⟨k,v,hk,rfl,rfl,hb,hall⟩:=hrel
  by_cases hlt:k < m
  ·by_cases hv:v≤most
   ·have hv1:decide (v≤most)=true:=by simpa using hv
    obtain⟨a0,a1,a2,a3,a4,a5,a6,ar,hd⟩:=Sts.drop_cons (show k < xs.len from by rw[←HM.out];exact hlt)
    obtain⟨B,o,rfl,hat⟩:=HX.out.2.2 (by rw[←HM.out];omega)
    have hat1:=(StR.keep hb.out.same hat).drop k
    rw[hd]at hat1
    obtain⟨⟨hbS,_,r0,r1,c0,c1,c6⟩,⟨A2,q2,c2,s2⟩,⟨A3,q3,c3,s3⟩,⟨A4,q4,c4,s4⟩,⟨A5,q5,c5,s5⟩,_⟩:=hat1
    have hxr:B < wr.heap.size:=ltq (HS.out _ hbS) hb.out.fr.size
    have hlt':(k:Int) < (m:Int):=by omega
    have hge:(0:Int)≤(k:Int):=by omega
    obtain⟨hr4,hr5⟩:=HA.out k a0 a1 a2 a3 a4 a5 a6 ar hd
    have hsw:∀W,Dr wr W→∀x,S x→x < W.heap.size:=fun W h x hx=>ltq (HS.out x hx) (hb.out.trans h).fr.size
    have HR1:=hdq (fun(mo:Int) (n:Nat)=>szx_any a2 mo (wr.drewN n) S Z A2 q2 (hsw _ ⟨n,rfl⟩) (s2.imp fun _ _ hx=>ExR.keep (Dr.same ⟨n,rfl⟩) hx))
    have HR2:=hdq (fun(mo:Int) (W:World) (h:Dr wr W)=>szc_any a3 mo W S Z A3 q3 (hsw W h) (s3.imp fun _ _ hx=>CdR.keep h.same hx))
    have HR3:=hdq (fun(mo:Int) (W:World) (h:Dr wr W)=>hr4 mo W S Z A4 q4 (hsw W h) (s4.imp fun _ _ hx=>StR.keep h.same hx))
    have HR4:=hdq (fun(mo:Int) (W:World) (h:Dr wr W)=>hr5 mo W S Z A5 q5 (hsw W h) (s5.imp fun _ _ hx=>StR.keep h.same hx))
    have HST:=hdq (hall.out.trans (szSF_step hd hv))
    have HB:=hdq hb.out
    clear hd hat hall hb hbS s2 s3 s4 s5 r0 r1 hr4 hr5 hv hsw
    go_wp2_with fail
    go_quiet ((go_at_call 73;exact quiet_d (HR1.out _ _)))
    obtain⟨w1,hw1⟩:=nmq (wr.drewN nq)
    rw[←hw1]
    have hd1:Dr wr w1:=⟨nq,hw1⟩
    have d3:=(hd1.fr.cell (p:=⟨B,o+k*7+3,none⟩) hxr id).trans c3
    have d4:=(hd1.fr.cell (p:=⟨B,o+k*7+4,none⟩) hxr id).trans c4
    have d5:=(hd1.fr.cell (p:=⟨B,o+k*7+5,none⟩) hxr id).trans c5
    have hx1:=ltq hxr hd1.fr.size
    have HD1:=hdq hd1
    clear hd1 c0 c1 c2 c3 c4 c5 c6 hxr hw1
    go_wp2_with fail
    refine(HR2.out _ _ HD1.out).mono ?_
    rintro _ w2 ⟨rfl,hd2⟩
    have e4:=(hd2.fr.cell (p:=⟨B,o+k*7+4,none⟩) hx1 id).trans d4
    have e5:=(hd2.fr.cell (p:=⟨B,o+k*7+5,none⟩) hx1 id).trans d5
    have hx2:=ltq hx1 hd2.fr.size
    have HD2:=hdq (HD1.out.trans hd2)
    clear hd2 d3 d4 d5 hx1
    go_wp2_with fail
    refine(HR3.out _ _ HD2.out).mono ?_
    rintro _ w3 ⟨rfl,hd3⟩
    have g5:=(hd3.fr.cell (p:=⟨B,o+k*7+5,none⟩) hx2 id).trans e5
    have hx3:=ltq hx2 hd3.fr.size
    have HD3:=hdq (HD2.out.trans hd3)
    clear hd3 e4 e5 hx2
    go_wp2_with fail
    refine(HR4.out _ _ HD3.out).mono ?_
    rintro _ w4 ⟨rfl,hd4⟩
    have HD4:=hdq (HB.out.trans (HD3.out.trans hd4))
    clear hd4 g5 hx3
    go_wp2_with fail
    go_roundw
    case rel=>exact⟨k+1,_,by omega,by go_num,rfl,HD4.out,HST.out⟩
    case measure=>simp[intOf];omega
   ·have hv1:decide (v≤most)=false:=by simpa using hv
    have HE:=hdq (show F=v from by rw[hall.out,szSF_stop hv])
    have HB:=hdq hb.out
    have hlt':(k:Int) < (m:Int):=by omega
    clear hall hb hv
    go_wp2_with fail
    go_ret
    exact⟨by rw[HE.out];rfl,HB.out⟩
  ·have HE:=hdq (show F=v from by rw[hall.out,Sts.drop_nil (by rw[←HM.out];omega)];rfl)
   have HB:=hdq hb.out
   have hlt':¬(k:Int) < (m:Int):=by omega
   clear hall hb
   go_wp2_with fail
   go_ret
   exact⟨by rw[HE.out];rfl,HB.out⟩
theorem szsi_all:∀xs:Sts,SzSI xs
 | .nil =>fun i _ _ _ _ _ _ _ _ hd=>by cases i<;>simp[Sts.drop]at hd
 | .cons k0 k1 k2 k3 k4 k5 k6 kr=>fun i _ _ _ _ _ _ _ _ hd=>by
  cases i with
  |zero=>
   simp only[Sts.drop]at hd
   injection hd with e0 e1 e2 e3 e4 e5 e6 e7
   subst e0 e1 e2 e3 e4 e5 e6 e7
   exact⟨szs_one k4 (szsi_all k4),szs_one k5 (szsi_all k5)⟩
  |succ i=>
   simp only[Sts.drop]at hd
   exact szsi_all kr i _ _ _ _ _ _ _ _ hd
theorem szs_any (xs:Sts):SzS xs:=szs_one xs (szsi_all xs)

def szVF:List Va→Int→Int→Int
 | [],n,_=>n
 |x::r,n,most=>if n≤most then szVF r (wrap64 (wrap64 (n+1)+(x.nm.size:Int))) most else n
theorem szVF_stop {xs:List Va} {n most:Int} (h:¬n≤most):szVF xs n most=n:=by
 cases xs with
 |nil=>rfl
 |cons x r=>show(if n≤most then _ else n)=n;rw[if_neg h]
theorem szVF_step {xs:List Va} {i:Nat} {n most:Int} {a0 a1 ar} (hd:xs.drop i=(⟨a0,a1⟩:Va)::ar∧xs.drop (i+1)=ar) (h:n≤most):
  szVF (xs.drop i) n most=szVF (xs.drop (i+1)) (wrap64 (wrap64 (n+1)+(a0.size:Int))) most:=by
 rw[hd.1,hd.2]
 show(if n≤most then _ else n)=_
 rw[if_pos h]
theorem szv_any (xs:List Va) (most:Int) (w:World) (S:Nat→Prop) (Z:Prop) (A:Option Addr) (c:Nat) (hS:∀x,S x→x < w.heap.size) (hx:SlR (fun b o=>VaR w S Z xs b o) xs.length 24 A c):
  Calls Tryz.prog 23 #[.slice A xs.length c,.int .i64 most] w (IntD (szVF xs 0 most) w):=by
 have hl:xs.length≤9223372036854775807:=leq9 hx.1 hx.2.1.1
 have HX:=hdq hx
 have HS:=hdq hS
 obtain⟨m,hm⟩:=nmq xs.length
 rw[←hm]at hl ⊢
 have HM:=hdq hm
 obtain⟨F,hF⟩:=nmq (szVF xs 0 most)
 rw[←hF]
 have HF:=hdq hF
 clear hx hS hm hF
 go_enter Tryz.func23,Tryz.ntmps23
 go_wp2_with fail
 go_loop [5,6] (fun n i=>∃(k:Nat) (v:Int),k≤m∧i= .int .i64 k∧n= .int .i64 v∧Hid (F=szVF (xs.drop k) v most)) (fun _ i=>m - (intOf i).toNat)
 case atStart=>exact⟨0,0,Nat.zero_le _,rfl,rfl,HF.out⟩
 case round=>
  obtain⟨k,v,hk,rfl,rfl,hall⟩:=hrel
  by_cases hlt:k < m
  ·by_cases hv:v≤most
   ·have hv1:decide (v≤most)=true:=by simpa using hv
    obtain⟨⟨a0,a1⟩,ar,hd⟩:=drop_head1 (show k < xs.length from by rw[←HM.out];exact hlt)
    obtain⟨B,o,rfl,hat⟩:=HX.out.2.2 (by rw[←HM.out];omega)
    have hat1:=hat.drop k
    rw[hd.1]at hat1
    obtain⟨⟨hbS,_,r1,c0,c1⟩,_⟩:=hat1
    have hxr:B < w.heap.size:=HS.out _ hbS
    have hlt':(k:Int) < (m:Int):=by omega
    have hge:(0:Int)≤(k:Int):=by omega
    simp only at c0 c1
    have HST:=hdq (hall.out.trans (szVF_step hd hv))
    clear hd hat hall hbS r1 hv
    go_wp2_with fail
    go_round
    case rel=>exact⟨k+1,_,by omega,by go_num,rfl,HST.out⟩
    case measure=>simp[intOf];omega
   ·have hv1:decide (v≤most)=false:=by simpa using hv
    have HE:=hdq (show F=v from by rw[hall.out,szVF_stop hv])
    have hlt':(k:Int) < (m:Int):=by omega
    clear hall hv
    go_wp2_with fail
    go_ret
    exact⟨by rw[HE.out];rfl,Dr.refl _⟩
  ·have HE:=hdq (show F=v from by rw[hall.out,List.drop_eq_nil_of_le (by rw[←HM.out];omega)];rfl)
   have hlt':¬(k:Int) < (m:Int):=by omega
   clear hall
   go_wp2_with fail
   go_ret
   exact⟨by rw[HE.out];rfl,Dr.refl _⟩
def AnyB (W:World) (e:Ending) (w':World):Prop:=∃b:Bool,e= .returned (.bool b)∧Fr NoT W w'
theorem tgreat_any (t:Tre) (w:World) (S:Nat→Prop) (Z:Prop) (Av Aa Ap Am:Option Addr) (cv ca cp cm:Nat) (hS:∀b,S b→b < w.heap.size) (hx:TrR w S Z t Av Aa Ap Am cv ca cp cm):
  Calls Tryz.prog 6 #[trV t Av Aa Ap Am cv ca cp cm] w (AnyB w):=by
 have l1:t.vars.length≤9223372036854775807:=leq9 hx.vars.1 hx.vars.2.1.1
 have l2:t.arrays.length≤9223372036854775807:=leq9 hx.arrays.1 hx.arrays.2.1.1
 have l3:t.procs.length≤9223372036854775807:=leq9 hx.procs.1 hx.procs.2.1.1
 obtain⟨n1,hn1⟩:=nmq t.vars.length
 obtain⟨n2,hn2⟩:=nmq t.arrays.length
 obtain⟨n3,hn3⟩:=nmq t.procs.length
 obtain⟨n4,hn4⟩:=nmq t.main.len
 obtain⟨w1,hw1⟩:=nmq (w.alloc (.cells #[.slice Av n1 cv,.slice Aa n2 ca,.slice Ap n3 cp,.slice Am n4 cm] 27))
 have hf1:Fr NoT w w1:=by rw[hw1];exact(Fr.refl _ _).alloc _
 have hk1:Bk w1 w.heap.size 27 #[.slice Av n1 cv,.slice Aa n2 ca,.slice Ap n3 cp,.slice Am n4 cm]:=by rw[hw1];exact Bk.new _ _ _
 have hS1:∀x,S x→x < w1.heap.size:=fun x hx=>ltq (hS x hx) hf1.size
 have hx1:TrR w1 S Z t Av Aa Ap Am cv ca cp cm:=hx.keep (hf1.same fun b hb=>⟨hS b hb,id⟩)
 have HR1:=hdq (fun(mo:Int) (n:Nat)=>szs_any t.main mo (w1.drewN n) S Z Am cm (fun x hx=>hS1 x hx) (hx1.main.imp fun _ _ hx=>StR.keep (Dr.same ⟨n,rfl⟩) hx))
 have HR2:=hdq (fun(mo:Int) (n:Nat)=>szv_any t.vars mo (w1.drewN n) S Z Av cv (fun x hx=>hS1 x hx) (hx1.vars.imp fun _ _ hx=>VaR.keep (Dr.same ⟨n,rfl⟩) hx))
 rw[←hn1]at HR2
 rw[←hn4]at HR1
 obtain⟨x0,x1,x2,x3,hl1⟩:=bk4 hk1
 unfold trV
 rw[←hn1,←hn2,←hn3,←hn4]
 rw[←hn1]at l1
 rw[←hn2]at l2
 rw[←hn3]at l3
 have HX1:=hdq hx1
 have HS1:=hdq hS1
 have HF1:=hdq hf1
 have HK1:=hdq hk1
 have HW1:=hdq hw1
 have HN2:=hdq hn2
 have HN3:=hdq hn3
 clear hf1 hk1 hS1 hx1 hx hS hw1 hn1 hn2 hn3 hn4
 go_enter Tryz.func6,Tryz.ntmps6
 go_wp2_with fail
 rw[←HW1.out]
 go_quiet ((first|(go_at_call 22;exact quiet_d (HR1.out _ _))|(go_at_call 23;exact quiet_d (HR2.out _ _))))
 obtain⟨w2,hw2⟩:=nmq (w1.drewN nq)
 rw[←hw2]
 have hd2:Dr w1 w2:=⟨nq,hw2⟩
 have HD2:=hdq hd2.fr
 clear hd2 hw2 x0 x1 x2 x3 HR1 HR2
 go_wp2_with fail
 go_loopw [3,4] (fun n i wr=>∃(k:Nat) (v:Int),k≤n2∧i= .int .i64 k∧n= .int .i64 v∧Hid (Fr NoT w1 wr)) (fun _ i _=>n2 - (intOf i).toNat)
 case atStart=>exact⟨0,_,Nat.zero_le _,rfl,rfl,HD2.out⟩
 case round=>
  obtain⟨k,v,hk,rfl,rfl,hb⟩:=hrel
  obtain⟨x0,x1,x2,x3,hl1⟩:=bk4 (HK1.out.fr0 hb.out)
  by_cases hgo:k < n2∧v≤5000
  ·obtain⟨hlt,hv⟩:=hgo
   have hv1:decide (v≤5000)=true:=by simpa using hv
   obtain⟨⟨a0,a1,a2⟩,ar,hd⟩:=drop_head1 (show k < t.arrays.length from by rw[←HN2.out];exact hlt)
   obtain⟨B,o,rfl,hat⟩:=HX1.out.arrays.2.2 (by rw[←HN2.out];omega)
   have hat1:=(ArR.keep (hb.out.same fun x hx=>⟨HS1.out x hx,id⟩) hat).drop k
   rw[hd.1]at hat1
   obtain⟨⟨hbS,_,r1,r2,c0,c1,c2⟩,_⟩:=hat1
   have hxr:B < wr.heap.size:=ltq (HS1.out _ hbS) hb.out.size
   have hlt':(k:Int) < (n2:Int):=by omega
   have hge:(0:Int)≤(k:Int):=by omega
   simp only at c0 c1 c2
   have HB:=hdq hb.out
   clear hd hat hb hbS r1 r2 hv
   go_wp2_with fail
   go_roundw
   case rel=>exact⟨k+1,_,by omega,by go_num,rfl,HB.out⟩
   case measure=>simp[intOf];omega
  ·have hcase:(¬(k:Int) < (n2:Int))∨((k:Int) < (n2:Int)∧decide (v≤5000)=false):=by
    simp only[decide_eq_false_iff_not]
    omega
   have HB:=hdq hb.out
   clear hb hgo
   rcases hcase with hlt'|⟨hlt',hv1⟩
   all_goals
    go_wp2_with fail
    clear x0 x1 x2 x3 hl1 hlt'
    obtain⟨wo,rfl⟩:∃wo:World,wo=wr:=⟨_,rfl⟩
    go_loopw [3,5] (fun n i wr=>∃(k:Nat) (v:Int),k≤n3∧i= .int .i64 k∧n= .int .i64 v∧Hid (Fr NoT w1 wr)) (fun _ i _=>n3 - (intOf i).toNat)
    case atStart=>exact⟨0,_,Nat.zero_le _,rfl,rfl,HB.out⟩
    case round=>
     clear HB
     obtain⟨j,u,hj,rfl,rfl,hb⟩:=hrel
     obtain⟨x0,x1,x2,x3,hl1⟩:=bk4 (HK1.out.fr0 hb.out)
     by_cases hgo:j < n3∧u≤5000
     ·obtain⟨hlt,hv⟩:=hgo
      have hv2:decide (u≤5000)=true:=by simpa using hv
      obtain⟨⟨a0,a1,a2,a3⟩,ar,hd⟩:=drop_head1 (show j < t.procs.length from by rw[←HN3.out];exact hlt)
      obtain⟨B,o,rfl,hat⟩:=HX1.out.procs.2.2 (by rw[←HN3.out];omega)
      have hat1:=(PrR.keep (hb.out.same fun x hx=>⟨HS1.out x hx,id⟩) hat).drop j
      rw[hd.1]at hat1
      obtain⟨⟨hbS,_,r1,c0,c3⟩,⟨A1,q1,c1,s1⟩,⟨A2,q2,c2,s2⟩,_⟩:=hat1
      have hxr:B < wr.heap.size:=ltq (HS1.out _ hbS) hb.out.size
      have hltj:(j:Int) < (n3:Int):=by omega
      have hgej:(0:Int)≤(j:Int):=by omega
      simp only at c0 c1 c2 c3 s1 s2
      obtain⟨wa,hwa⟩:=nmq (wr.alloc (.cells #[.string a0,.slice A1 a1.length q1,.slice A2 a2.len q2,.int .i64 a3] 68))
      have hfa:Fr NoT wr wa:=by rw[hwa];exact(Fr.refl _ _).alloc _
      have hka:Bk wa wr.heap.size 68 #[.string a0,.slice A1 a1.length q1,.slice A2 a2.len q2,.int .i64 a3]:=by rw[hwa];exact Bk.new _ _ _
      have hsw:∀W,Fr NoT wr W→∀x,S x→x < W.heap.size:=fun W h x hx=>ltq (HS1.out x hx) (hb.out.trans h).size
      have hsm:∀W,Fr NoT wr W→SameS S wr W:=fun W h=>h.same fun x hx=>⟨ltq (HS1.out x hx) hb.out.size,id⟩
      have HR1:=hdq (fun(mo:Int) (n:Nat)=>szv_any a1 mo (wa.drewN n) S Z A1 q1 (hsw _ (hfa.drewN n)) (s1.imp fun _ _ hx=>VaR.keep (hsm _ (hfa.drewN n)) hx))
      have HR2:=hdq (fun(mo:Int) (W:World) (h:Fr NoT wr W)=>szs_any a2 mo W S Z A2 q2 (hsw _ h) (s2.imp fun _ _ hx=>StR.keep (hsm _ h) hx))
      obtain⟨z0,z1,z2,z3,zl⟩:=bk4 hka
      have HB:=hdq hb.out
      have HFA:=hdq hfa
      have HKA:=hdq hka
      have HWA:=hdq hwa
      clear hd hat hb hbS r1 hv s1 s2 hsw hsm hfa hka hwa
      go_wp2_with fail
      rw[←HWA.out]
      clear c0 c1 c2 c3 hxr x0 x1 x2 x3 hl1
      go_quiet ((go_at_call 23;exact quiet_d (HR1.out _ _)))
      obtain⟨wb,hwb⟩:=nmq (wa.drewN nq)
      rw[←hwb]
      have hdb:Dr wa wb:=⟨nq,hwb⟩
      have hkb:=HKA.out.fr0 hdb.fr
      clear z0 z1 z2 z3 zl
      obtain⟨z0,z1,z2,z3,zl⟩:=bk4 hkb
      have HDB:=hdq (HFA.out.trans hdb.fr)
      clear hdb hwb hkb
      go_wp2_with fail
      refine(HR2.out _ _ HDB.out).mono ?_
      rintro _ wc ⟨rfl,hdc⟩
      have HDC:=hdq (HB.out.trans (HDB.out.trans hdc.fr))
      clear hdc z0 z1 z2 z3
      go_wp2_with fail
      go_roundw
      case rel=>exact⟨j+1,_,by omega,by go_num,rfl,HDC.out⟩
      case measure=>simp[intOf];omega
     ·have hcase:(¬(j:Int) < (n3:Int))∨((j:Int) < (n3:Int)∧decide (u≤5000)=false):=by
       simp only[decide_eq_false_iff_not]
       omega
      have HB:=hdq hb.out
      clear hb hgo
      rcases hcase with hltj|⟨hltj,hv2⟩
      all_goals
       go_wp2_with fail
       go_ret
       exact⟨_,rfl,HF1.out.trans HB.out⟩
end Go.Proofs.YtmopichdofgndaaGreatDoor
