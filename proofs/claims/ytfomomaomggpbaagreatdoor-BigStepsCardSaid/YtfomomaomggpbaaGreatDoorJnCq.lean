/- ref10.sizeExprs, sizeConds, sizeStmts, sizeVars, Great: they answer, whatever they answer. -/
import Derived.Test.YtfomomaomggpbaaGreatDoorJgCkB
set_option linter.all false
set_option maxHeartbeats 3200000
set_option maxRecDepth 100000
namespace Go.Proofs.YtfomomaomggpbaaGreatDoor
open Go.RowKit Go.Shelf
def Dr (w w':World):Prop:=∃q,w'=w.drewN q
theorem Dr.refl (w:World):Dr w w:=⟨0,rfl⟩
theorem Dr.trans {a b c:World}(h:Dr a b)(k:Dr b c):Dr a c:=by
 obtain⟨n,rfl⟩:=h;obtain⟨m,rfl⟩:=k;exact⟨n+m,by rw[World.drewN_drewN]⟩
theorem Dr.more (w:World)(n:Nat):Dr w (w.drewN n):=⟨n,rfl⟩
theorem Dr.same {S:Nat->Prop}{w w':World}(h:Dr w w'):SameS S w w':=by
 obtain⟨n,rfl⟩:=h;exact λ_ _=>⟨rfl,rfl⟩
theorem Dr.fr {w w':World}(h:Dr w w'):Fr NoT w w':=by
 obtain⟨n,rfl⟩:=h;exact(Fr.refl _ _).drewN _
def IntD (n:Int)(W:World)(e:Ending)(w':World):Prop:=e= .returned (.int .i64 n)/\Dr W w'
theorem zer {P:Program}{f:FuncId}{args:Array Value}{w:World}{n:Nat}{v:Int}(h:Calls P f args (w.drewN n) (IntD v (w.drewN n))):
  Calls P f args (w.drewN n) λe w''=>e= .returned (.int .i64 v)/\∃m,w''=w.drewN m:=
 h.mono λ_ _ ⟨he,m,hm⟩=>⟨he,n+m,by rw[hm,World.drewN_drewN]⟩
def szXF:Exs->Int->Int->Int
 | .nil,n,_=>n
 | .cons _ nm _ args _ r,n,most=>if n<=most then szXF r (wrap64 (wrap64 (wrap64 (n+1)+(nm.size:Int))+szXF args 0 (wrap64 (most - n)))) most else n
theorem zk0 {xs:Exs}{n most:Int}(h:¬n<=most):szXF xs n most=n:=by
 cases xs with
 |nil=>rfl
 |cons k nm m args at_ r=>show(if n<=most then _ else n)=n;rw[if_neg h]
theorem zk1 {xs:Exs}{i:Nat}{n most:Int}{k nm m args at_ r}(hd:Exs.drop i xs= .cons k nm m args at_ r)(h:n<=most):
  szXF (Exs.drop i xs) n most=szXF (Exs.drop (i+1) xs) (wrap64 (wrap64 (wrap64 (n+1)+(nm.size:Int))+szXF args 0 (wrap64 (most - n)))) most:=by
 rw[Exs.drop_succ i xs hd,hd];show(if n<=most then _ else n)=_
 rw[if_pos h]
def SzX (xs:Exs):Prop:=∀(most:Int)(W:World)(S:Nat->Prop)(Z:Prop)(A:Option Addr)(c:Nat),(∀x,S x->x < W.heap.size)->SlR (λb o=>ExR W S Z xs b o) xs.len 64 A c->
 Calls Tryz.prog 45 #[.slice A xs.len c,.int .i64 most] W (IntD (szXF xs 0 most) W)
def SzXI (xs:Exs):Prop:=∀(i:Nat)(a0:Int)(a1:ByteArray)(a2:Int)(a3:Exs)(a4:Int)(ar:Exs),Exs.drop i xs= .cons a0 a1 a2 a3 a4 ar->SzX a3
theorem zk2 (xs:Exs)(Fq:SzXI xs):SzX xs:=by
 intro most w S Z A c hS hx;have hl:xs.len<=9223372036854775807:=leq9 hx.1 hx.2.1.1;have HA:=hdq Fq;have HX:=hdq hx;have HS:=hdq hS;obtain⟨m,hm⟩:=nmq xs.len;rw[<-hm]at hl ⊢;have HM:=hdq hm;obtain⟨F,hF⟩:=nmq (szXF xs 0 most);rw[<-hF];have HF:=hdq hF;clear Fq hx hS hm hF;go_enter Tryz.func45,Tryz.ntmps45;go_wp2_with fail;go_loopw [5,6] (λn i wr=>∃(k:Nat)(v:Int),k<=m/\i= .int .i64 k/\n= .int .i64 v/\Hid (Dr w wr)/\Hid (F=szXF (Exs.drop k xs) v most)) (λ_ i _=>m - (intOf i).toNat);case atStart=>exact⟨0,0,Nat.zero_le _,rfl,rfl,Dr.refl _,HF.out⟩
 case round=>
  obtain⟨k,v,hk,rfl,rfl,hb,Ha⟩:=hrel;by_cases Hl:k < m
  ·by_cases hv:v<=most
   ·have FN:decide (v<=most)=true:=by simpa using hv
    obtain⟨a0,a1,a2,a3,a4,ar,hd⟩:=Exs.drop_cons (show k < xs.len from by rw[<-HM.out];exact Hl);obtain⟨B,o,rfl,Hh⟩:=HX.2.2 (by rw[<-HM.out];omega);have Hm:=(ExR.keep hb.same Hh).drop k;rw[hd]at Hm;obtain⟨⟨Gh,_,r0,r1,r2,c0,c1,c2,c4⟩,⟨A3,q3,c3,s3⟩,_⟩:=Hm;have Jr:B < wr.heap.size:=ltq (HS _ Gh) hb.fr.size;have GD:(k:Int) < (m:Int):=by omega
    have Fz:(0:Int)<=(k:Int):=by omega
    have MB:=HA k a0 a1 a2 a3 a4 ar hd;have HR:=hdq (λ(mo:Int)(n:Nat)=>MB mo (wr.drewN n) S Z A3 q3 (λx hx=>ltq (HS x hx) hb.fr.size) (s3.imp λ_ _ hx=>ExR.keep (Dr.same ⟨n,rfl⟩) hx));have Gi:=hdq (Ha.trans (zk1 hd hv));have HB:=hdq hb.out;clear hd Hh Ha hb Gh s3 r0 r1 r2 MB hv;go_wp2_with fail
    go_quiet ((go_at_call 45;exact zer (HR _ _)))
    go_wp2_with fail;go_roundw;case rel=>exact⟨k+1,_,by omega,by go_num,rfl,HB.trans (Dr.more _ _),Gi.out⟩
    case measure=>simp[intOf];omega
   ·have FN:decide (v<=most)=false:=by simpa using hv
    have HE:=hdq (show F=v from by rw[Ha.out,zk0 hv]);have HB:=hdq hb.out;have GD:(k:Int) < (m:Int):=by omega
    clear Ha hb hv;go_wp2_with fail;go_ret;exact⟨by rw[HE.out];rfl,HB.out⟩
  ·have HE:=hdq (show F=v from by rw[Ha.out,Exs.drop_nil (by rw[<-HM.out];omega)];rfl);have HB:=hdq hb.out;have GD:¬(k:Int) < (m:Int):=by omega
   clear Ha hb;go_wp2_with fail;go_ret;exact⟨by rw[HE.out];rfl,HB.out⟩
theorem zfK:∀xs:Exs,SzXI xs
 | .nil =>λi _ _ _ _ _ _ hd=>by cases i<;>simp[Exs.drop]at hd
 | .cons k0 k1 k2 k3 k4 kr=>λi _ _ _ _ _ _ hd=>by
  cases i with
  |zero=>
   simp only[Exs.drop]at hd;injection hd with e0 e1 e2 e3 e4 e5;subst e0 e1 e2 e3 e4 e5;exact zk2 k3 (zfK k3)
  |succ i=>
   simp only[Exs.drop]at hd;exact zfK kr i _ _ _ _ _ _ hd
theorem zk3 (xs:Exs):SzX xs:=zk2 xs (zfK xs)
def zgF (v most:Int)(f:Int->Int):Int:=wrap64 (v+f (wrap64 (most - v)))
def szCF:Cds->Int->Int->Int
 | .nil,n,_=>n
 | .cons _ args of_ _ r,n,most=>if n<=most then szCF r (zgF (wrap64 (wrap64 (n+1)+szXF args 0 (wrap64 (most - n)))) most (szCF of_ 0)) most else n
theorem zk4 {xs:Cds}{n most:Int}(h:¬n<=most):szCF xs n most=n:=by
 cases xs with
 |nil=>rfl
 |cons k args of_ at_ r=>show(if n<=most then _ else n)=n;rw[if_neg h]
theorem zk5 {xs:Cds}{i:Nat}{n most:Int}{k args of_ at_ r}(hd:Cds.drop i xs= .cons k args of_ at_ r)(h:n<=most):
  szCF (Cds.drop i xs) n most=szCF (Cds.drop (i+1) xs) (zgF (wrap64 (wrap64 (n+1)+szXF args 0 (wrap64 (most - n)))) most (szCF of_ 0)) most:=by
 rw[Cds.drop_succ i xs hd,hd];show(if n<=most then _ else n)=_
 rw[if_pos h]
def SzC (xs:Cds):Prop:=∀(most:Int)(W:World)(S:Nat->Prop)(Z:Prop)(A:Option Addr)(c:Nat),(∀x,S x->x < W.heap.size)->SlR (λb o=>CdR W S Z xs b o) xs.len 64 A c->
 Calls Tryz.prog 46 #[.slice A xs.len c,.int .i64 most] W (IntD (szCF xs 0 most) W)
def SzCI (xs:Cds):Prop:=∀(i:Nat)(a0:Int)(a1:Exs)(a2:Cds)(a3:Int)(ar:Cds),Cds.drop i xs= .cons a0 a1 a2 a3 ar->SzC a2
theorem zk6 (xs:Cds)(Fq:SzCI xs):SzC xs:=by
 intro most w S Z A c hS hx;have hl:xs.len<=9223372036854775807:=leq9 hx.1 hx.2.1.1;have HA:=hdq Fq;have HX:=hdq hx;have HS:=hdq hS;obtain⟨m,hm⟩:=nmq xs.len;rw[<-hm]at hl ⊢;have HM:=hdq hm;obtain⟨F,hF⟩:=nmq (szCF xs 0 most);rw[<-hF];have HF:=hdq hF;clear Fq hx hS hm hF;go_enter Tryz.func46,Tryz.ntmps46;go_wp2_with fail;go_loopw [5,6] (λn i wr=>∃(k:Nat)(v:Int),k<=m/\i= .int .i64 k/\n= .int .i64 v/\Hid (Dr w wr)/\Hid (F=szCF (Cds.drop k xs) v most)) (λ_ i _=>m - (intOf i).toNat);case atStart=>exact⟨0,0,Nat.zero_le _,rfl,rfl,Dr.refl _,HF.out⟩
 case round=>
  obtain⟨k,v,hk,rfl,rfl,hb,Ha⟩:=hrel;by_cases Hl:k < m
  ·by_cases hv:v<=most
   ·have FN:decide (v<=most)=true:=by simpa using hv
    obtain⟨a0,a1,a2,a3,ar,hd⟩:=Cds.drop_cons (show k < xs.len from by rw[<-HM.out];exact Hl);obtain⟨B,o,rfl,Hh⟩:=HX.2.2 (by rw[<-HM.out];omega);have Hm:=(CdR.keep hb.same Hh).drop k;rw[hd]at Hm;obtain⟨⟨Gh,_,r0,r1,c0,c3⟩,⟨A1,q1,c1,s1⟩,⟨A2,q2,c2,s2⟩,_⟩:=Hm;have Jr:B < wr.heap.size:=ltq (HS _ Gh) hb.fr.size;have GD:(k:Int) < (m:Int):=by omega
    have Fz:(0:Int)<=(k:Int):=by omega
    have MB:=HA k a0 a1 a2 a3 ar hd;have Mk:=hdq (λ(mo:Int)=>zk3 a1 mo wr S Z A1 q1 (λx hx=>ltq (HS x hx) hb.fr.size) s1);have GB:=hdq (λ(mo:Int)(W:World)(h:Dr wr W)=>MB mo W S Z A2 q2 (λx hx=>ltq (HS x hx) (hb.trans h).fr.size) (s2.imp λ_ _ hx=>CdR.keep h.same hx));have Gi:=hdq (Ha.trans (zk5 hd hv));have HB:=hdq hb.out;clear hd Hh Ha hb Gh s1 s2 r0 r1 MB hv;go_wp2_with fail;refine(Mk _).mono ?_;rintro _ w1 ⟨rfl,NX⟩;have xr:=(NX.fr.cell (p:=⟨B,o+k*4+2,none⟩) Jr id).trans c2;have G2:=ltq Jr NX.fr.size;have Ld:=hdq NX;clear NX c0 c1 c2 c3 Jr;go_wp2_with fail;refine(GB _ _ Ld.out).mono ?_;rintro _ w2 ⟨rfl,Le⟩;have Sx:=hdq ((HB.trans Ld.out).trans Le);clear Le xr G2;go_wp2_with fail;go_roundw;case rel=>exact⟨k+1,_,by omega,by go_num,rfl,Sx.out,Gi.out⟩
    case measure=>simp[intOf];omega
   ·have FN:decide (v<=most)=false:=by simpa using hv
    have HE:=hdq (show F=v from by rw[Ha.out,zk4 hv]);have HB:=hdq hb.out;have GD:(k:Int) < (m:Int):=by omega
    clear Ha hb hv;go_wp2_with fail;go_ret;exact⟨by rw[HE.out];rfl,HB.out⟩
  ·have HE:=hdq (show F=v from by rw[Ha.out,Cds.drop_nil (by rw[<-HM.out];omega)];rfl);have HB:=hdq hb.out;have GD:¬(k:Int) < (m:Int):=by omega
   clear Ha hb;go_wp2_with fail;go_ret;exact⟨by rw[HE.out];rfl,HB.out⟩
theorem zfL:∀xs:Cds,SzCI xs
 | .nil =>λi _ _ _ _ _ hd=>by cases i<;>simp[Cds.drop]at hd
 | .cons k0 k1 k2 k3 kr=>λi _ _ _ _ _ hd=>by
  cases i with
  |zero=>
   simp only[Cds.drop]at hd;injection hd with e0 e1 e2 e3 e4;subst e0 e1 e2 e3 e4;exact zk6 k2 (zfL k2)
  |succ i=>
   simp only[Cds.drop]at hd;exact zfL kr i _ _ _ _ _ hd
theorem zn8 (xs:Cds):SzC xs:=zk6 xs (zfL xs)
def szS1 (v most:Int)(n:Nat)(args:Exs):Int:=wrap64 (wrap64 (wrap64 (v+1)+(n:Int))+szXF args 0 (wrap64 (most - v)))
def szSF:Sts->Int->Int->Int
 | .nil,n,_=>n
 | .cons _ nm args cond body els _ r,n,most=>if n<=most then szSF r (zgF (zgF (zgF (szS1 n most nm.size args) most (szCF cond 0)) most (szSF body 0)) most (szSF els 0)) most else n
theorem zk7 {xs:Sts}{n most:Int}(h:¬n<=most):szSF xs n most=n:=by
 cases xs with
 |nil=>rfl
 |cons k nm args cond body els at_ r=>show(if n<=most then _ else n)=n;rw[if_neg h]
theorem zk8 {xs:Sts}{i:Nat}{n most:Int}{k nm args cond body els at_ r}(hd:Sts.drop i xs= .cons k nm args cond body els at_ r)(h:n<=most):
  szSF (Sts.drop i xs) n most=szSF (Sts.drop (i+1) xs) (zgF (zgF (zgF (szS1 n most nm.size args) most (szCF cond 0)) most (szSF body 0)) most (szSF els 0)) most:=by
 rw[Sts.drop_succ i xs hd,hd];show(if n<=most then _ else n)=_
 rw[if_pos h]
def SzS (xs:Sts):Prop:=∀(most:Int)(W:World)(S:Nat->Prop)(Z:Prop)(A:Option Addr)(c:Nat),(∀x,S x->x < W.heap.size)->SlR (λb o=>StR W S Z xs b o) xs.len 128 A c->
 Calls Tryz.prog 20 #[.slice A xs.len c,.int .i64 most] W (IntD (szSF xs 0 most) W)
def SzSI (xs:Sts):Prop:=∀(i:Nat)(a0:Int)(a1:ByteArray)(a2:Exs)(a3:Cds)(a4 a5:Sts)(a6:Int)(ar:Sts),Sts.drop i xs= .cons a0 a1 a2 a3 a4 a5 a6 ar->SzS a4/\SzS a5
theorem zhe (xs:Sts)(Fq:SzSI xs):SzS xs:=by
 intro most w S Z A c hS hx;have hl:xs.len<=9223372036854775807:=leq9 hx.1 hx.2.1.1;have HA:=hdq Fq;have HX:=hdq hx;have HS:=hdq hS;obtain⟨m,hm⟩:=nmq xs.len;rw[<-hm]at hl ⊢;have HM:=hdq hm;obtain⟨F,hF⟩:=nmq (szSF xs 0 most);rw[<-hF];have HF:=hdq hF;clear Fq hx hS hm hF;go_enter Tryz.func20,Tryz.ntmps20;go_wp2_with fail;go_loopw [5,6] (λn i wr=>∃(k:Nat)(v:Int),k<=m/\i= .int .i64 k/\n= .int .i64 v/\Hid (Dr w wr)/\Hid (F=szSF (Sts.drop k xs) v most)) (λ_ i _=>m - (intOf i).toNat);case atStart=>exact⟨0,0,Nat.zero_le _,rfl,rfl,Dr.refl _,HF.out⟩
 case round=>
  obtain⟨k,v,hk,rfl,rfl,hb,Ha⟩:=hrel;by_cases Hl:k < m
  ·by_cases hv:v<=most
   ·have FN:decide (v<=most)=true:=by simpa using hv
    obtain⟨a0,a1,a2,a3,a4,a5,a6,ar,hd⟩:=Sts.drop_cons (show k < xs.len from by rw[<-HM.out];exact Hl);obtain⟨B,o,rfl,Hh⟩:=HX.2.2 (by rw[<-HM.out];omega);have Hm:=(StR.keep hb.same Hh).drop k;rw[hd]at Hm;obtain⟨⟨Gh,_,r0,r1,c0,c1,c6⟩,⟨A2,q2,c2,s2⟩,⟨A3,q3,c3,s3⟩,⟨A4,q4,c4,s4⟩,⟨A5,q5,c5,s5⟩,_⟩:=Hm;have Jr:B < wr.heap.size:=ltq (HS _ Gh) hb.fr.size;have GD:(k:Int) < (m:Int):=by omega
    have Fz:(0:Int)<=(k:Int):=by omega
    obtain⟨NK,M5⟩:=HA k a0 a1 a2 a3 a4 a5 a6 ar hd;have Mx:∀W,Dr wr W->∀x,S x->x < W.heap.size:=λW h x hx=>ltq (HS x hx) (hb.trans h).fr.size;have Mk:=hdq (λ(mo:Int)(n:Nat)=>zk3 a2 mo (wr.drewN n) S Z A2 q2 (Mx _ ⟨n,rfl⟩) (s2.imp λ_ _ hx=>ExR.keep (Dr.same ⟨n,rfl⟩) hx));have GB:=hdq (λ(mo:Int)(W:World)(h:Dr wr W)=>zn8 a3 mo W S Z A3 q3 (Mx W h) (s3.imp λ_ _ hx=>CdR.keep h.same hx));have G8:=hdq (λ(mo:Int)(W:World)(h:Dr wr W)=>NK mo W S Z A4 q4 (Mx W h) (s4.imp λ_ _ hx=>StR.keep h.same hx));have KH:=hdq (λ(mo:Int)(W:World)(h:Dr wr W)=>M5 mo W S Z A5 q5 (Mx W h) (s5.imp λ_ _ hx=>StR.keep h.same hx));have Gi:=hdq (Ha.trans (zk8 hd hv));have HB:=hdq hb.out;clear hd Hh Ha hb Gh s2 s3 s4 s5 r0 r1 NK M5 hv Mx;go_wp2_with fail
    go_quiet ((go_at_call 45;exact zer (Mk _ _)))
    obtain⟨w1,Hc⟩:=nmq (wr.drewN nq);rw[<-Hc];have NX:Dr wr w1:=⟨nq,Hc⟩;have d3:=(NX.fr.cell (p:=⟨B,o+k*7+3,none⟩) Jr id).trans c3;have d4:=(NX.fr.cell (p:=⟨B,o+k*7+4,none⟩) Jr id).trans c4;have d5:=(NX.fr.cell (p:=⟨B,o+k*7+5,none⟩) Jr id).trans c5;have G2:=ltq Jr NX.fr.size;have Ld:=hdq NX;clear NX c0 c1 c2 c3 c4 c5 c6 Jr Hc;go_wp2_with fail;refine(GB _ _ Ld.out).mono ?_;rintro _ w2 ⟨rfl,Le⟩;have e4:=(Le.fr.cell (p:=⟨B,o+k*7+4,none⟩) G2 id).trans d4;have e5:=(Le.fr.cell (p:=⟨B,o+k*7+5,none⟩) G2 id).trans d5;have GC:=ltq G2 Le.fr.size;have Sx:=hdq (Ld.trans Le);clear Le d3 d4 d5 G2;go_wp2_with fail;refine(G8 _ _ Sx.out).mono ?_;rintro _ w3 ⟨rfl,Py⟩;have g5:=(Py.fr.cell (p:=⟨B,o+k*7+5,none⟩) GC id).trans e5;have LH:=ltq GC Py.fr.size;have jH:=hdq (Sx.trans Py);clear Py e4 e5 GC;go_wp2_with fail;refine(KH _ _ jH.out).mono ?_;rintro _ w4 ⟨rfl,jI⟩;have vD:=hdq (HB.trans (jH.trans jI));clear jI g5 LH;go_wp2_with fail;go_roundw;case rel=>exact⟨k+1,_,by omega,by go_num,rfl,vD.out,Gi.out⟩
    case measure=>simp[intOf];omega
   ·have FN:decide (v<=most)=false:=by simpa using hv
    have HE:=hdq (show F=v from by rw[Ha.out,zk7 hv]);have HB:=hdq hb.out;have GD:(k:Int) < (m:Int):=by omega
    clear Ha hb hv;go_wp2_with fail;go_ret;exact⟨by rw[HE.out];rfl,HB.out⟩
  ·have HE:=hdq (show F=v from by rw[Ha.out,Sts.drop_nil (by rw[<-HM.out];omega)];rfl);have HB:=hdq hb.out;have GD:¬(k:Int) < (m:Int):=by omega
   clear Ha hb;go_wp2_with fail;go_ret;exact⟨by rw[HE.out];rfl,HB.out⟩
theorem zdH:∀xs:Sts,SzSI xs
 | .nil =>λi _ _ _ _ _ _ _ _ hd=>by cases i<;>simp[Sts.drop]at hd
 | .cons k0 k1 k2 k3 k4 k5 k6 kr=>λi _ _ _ _ _ _ _ _ hd=>by
  cases i with
  |zero=>
   simp only[Sts.drop]at hd;injection hd with e0 e1 e2 e3 e4 e5 e6 e7;subst e0 e1 e2 e3 e4 e5 e6 e7;exact⟨zhe k4 (zdH k4),zhe k5 (zdH k5)⟩
  |succ i=>
   simp only[Sts.drop]at hd;exact zdH kr i _ _ _ _ _ _ _ _ hd
theorem zk9 (xs:Sts):SzS xs:=zhe xs (zdH xs)
def szVF:List Va->Int->Int->Int
 | [],n,_=>n
 |x::r,n,most=>if n<=most then szVF r (wrap64 (wrap64 (n+1)+(x.nm.size:Int))) most else n
theorem zla {xs:List Va}{n most:Int}(h:¬n<=most):szVF xs n most=n:=by
 cases xs with
 |nil=>rfl
 |cons x r=>show(if n<=most then _ else n)=n;rw[if_neg h]
theorem zlb {xs:List Va}{i:Nat}{n most:Int}{a0 a1 ar}(hd:xs.drop i=(⟨a0,a1⟩:Va)::ar/\xs.drop (i+1)=ar)(h:n<=most):
  szVF (xs.drop i) n most=szVF (xs.drop (i+1)) (wrap64 (wrap64 (n+1)+(a0.size:Int))) most:=by
 rw[hd.1,hd.2];show(if n<=most then _ else n)=_
 rw[if_pos h]
theorem zlc (xs:List Va)(most:Int)(w:World)(S:Nat->Prop)(Z:Prop)(A:Option Addr)(c:Nat)(hS:∀x,S x->x < w.heap.size)(hx:SlR (λb o=>VaR w S Z xs b o) xs.length 24 A c):
  Calls Tryz.prog 21 #[.slice A xs.length c,.int .i64 most] w (IntD (szVF xs 0 most) w):=by
 have hl:xs.length<=9223372036854775807:=leq9 hx.1 hx.2.1.1;have HX:=hdq hx;have HS:=hdq hS;obtain⟨m,hm⟩:=nmq xs.length;rw[<-hm]at hl ⊢;have HM:=hdq hm;obtain⟨F,hF⟩:=nmq (szVF xs 0 most);rw[<-hF];have HF:=hdq hF;clear hx hS hm hF;go_enter Tryz.func21,Tryz.ntmps21;go_wp2_with fail;go_loop [5,6] (λn i=>∃(k:Nat)(v:Int),k<=m/\i= .int .i64 k/\n= .int .i64 v/\Hid (F=szVF (xs.drop k) v most)) (λ_ i=>m - (intOf i).toNat);case atStart=>exact⟨0,0,Nat.zero_le _,rfl,rfl,HF.out⟩
 case round=>
  obtain⟨k,v,hk,rfl,rfl,Ha⟩:=hrel;by_cases Hl:k < m
  ·by_cases hv:v<=most
   ·have FN:decide (v<=most)=true:=by simpa using hv
    obtain⟨⟨a0,a1⟩,ar,hd⟩:=zaB (show k < xs.length from by rw[<-HM.out];exact Hl);obtain⟨B,o,rfl,Hh⟩:=HX.2.2 (by rw[<-HM.out];omega);have Hm:=Hh.drop k;rw[hd.1]at Hm;obtain⟨⟨Gh,_,r1,c0,c1⟩,_⟩:=Hm;have Jr:B < w.heap.size:=HS _ Gh;have GD:(k:Int) < (m:Int):=by omega
    have Fz:(0:Int)<=(k:Int):=by omega
    simp only at c0 c1;have Gi:=hdq (Ha.trans (zlb hd hv));clear hd Hh Ha Gh r1 hv;go_wp2_with fail;go_round;case rel=>exact⟨k+1,_,by omega,by go_num,rfl,Gi.out⟩
    case measure=>simp[intOf];omega
   ·have FN:decide (v<=most)=false:=by simpa using hv
    have HE:=hdq (show F=v from by rw[Ha.out,zla hv]);have GD:(k:Int) < (m:Int):=by omega
    clear Ha hv;go_wp2_with fail;go_ret;exact⟨by rw[HE.out];rfl,Dr.refl _⟩
  ·have HE:=hdq (show F=v from by rw[Ha.out,List.drop_eq_nil_of_le (by rw[<-HM.out];omega)];rfl);have GD:¬(k:Int) < (m:Int):=by omega
   clear Ha;go_wp2_with fail;go_ret;exact⟨by rw[HE.out];rfl,Dr.refl _⟩
def AnyB (W:World)(e:Ending)(w':World):Prop:=∃b:Bool,e= .returned (.bool b)/\Fr NoT W w'
theorem ziR (t:Tre)(w:World)(S:Nat->Prop)(Z:Prop)(Av Aa Ap Am:Option Addr)(cv ca cp cm:Nat)(hS:∀b,S b->b < w.heap.size)(hx:TrR w S Z t Av Aa Ap Am cv ca cp cm):
  Calls Tryz.prog 8 #[trV t Av Aa Ap Am cv ca cp cm] w (AnyB w):=by
 have l1:t.vars.length<=9223372036854775807:=leq9 hx.vars.1 hx.vars.2.1.1;have l2:t.arrays.length<=9223372036854775807:=leq9 hx.arrays.1 hx.arrays.2.1.1;have l3:t.procs.length<=9223372036854775807:=leq9 hx.procs.1 hx.procs.2.1.1;obtain⟨n1,J3⟩:=nmq t.vars.length;obtain⟨n2,Mr⟩:=nmq t.arrays.length;obtain⟨n3,P6⟩:=nmq t.procs.length;obtain⟨n4,Th⟩:=nmq t.main.len;obtain⟨w1,Hc⟩:=nmq (w.alloc (.cells #[.slice Av n1 cv,.slice Aa n2 ca,.slice Ap n3 cp,.slice Am n4 cm] 27));have Hg:Fr NoT w w1:=by rw[Hc];exact(Fr.refl _ _).alloc _
 have F0:Bk w1 w.heap.size 27 #[.slice Av n1 cv,.slice Aa n2 ca,.slice Ap n3 cp,.slice Am n4 cm]:=by rw[Hc];exact Bk.new _ _ _
 have Kg:∀x,S x->x < w1.heap.size:=λx hx=>ltq (hS x hx) Hg.size;have G2:TrR w1 S Z t Av Aa Ap Am cv ca cp cm:=hx.keep (Hg.same λb hb=>⟨hS b hb,id⟩);have Mk:=hdq (λ(mo:Int)(n:Nat)=>zk9 t.main mo (w1.drewN n) S Z Am cm (λx hx=>Kg x hx) (G2.main.imp λ_ _ hx=>StR.keep (Dr.same ⟨n,rfl⟩) hx));have GB:=hdq (λ(mo:Int)(n:Nat)=>zlc t.vars mo (w1.drewN n) S Z Av cv (λx hx=>Kg x hx) (G2.vars.imp λ_ _ hx=>VaR.keep (Dr.same ⟨n,rfl⟩) hx));rw[<-J3]at GB;rw[<-Th]at Mk;obtain⟨x0,x1,x2,x3,Fo⟩:=bk4 F0;unfold trV;rw[<-J3,<-Mr,<-P6,<-Th];rw[<-J3]at l1;rw[<-Mr]at l2;rw[<-P6]at l3;have RB:=hdq G2;have Nn:=hdq Kg;have Hs:=hdq Hg;have Lq:=hdq F0;have Gg:=hdq Hc;have Rq:=hdq Mr;have Ml:=hdq P6;clear Hg F0 Kg G2 hx hS Hc J3 Mr P6 Th;go_enter Tryz.func8,Tryz.ntmps8;go_wp2_with fail;rw[<-Gg.out]
 go_quiet ((first|(go_at_call 20;exact zer (Mk _ _))|(go_at_call 21;exact zer (GB _ _))))
 obtain⟨w2,HJ⟩:=nmq (w1.drewN nq);rw[<-HJ];have Le:Dr w1 w2:=⟨nq,HJ⟩;have Sx:=hdq Le.fr;clear Le HJ x0 x1 x2 x3 Mk GB;go_wp2_with fail;go_loopw [3,4] (λn i wr=>∃(k:Nat)(v:Int),k<=n2/\i= .int .i64 k/\n= .int .i64 v/\Hid (Fr NoT w1 wr)) (λ_ i _=>n2 - (intOf i).toNat);case atStart=>exact⟨0,_,Nat.zero_le _,rfl,rfl,Sx.out⟩
 case round=>
  obtain⟨k,v,hk,rfl,rfl,hb⟩:=hrel;obtain⟨x0,x1,x2,x3,Fo⟩:=bk4 (Lq.fr0 hb.out);by_cases Pn:k < n2/\v<=5000
  ·obtain⟨Hl,hv⟩:=Pn;have FN:decide (v<=5000)=true:=by simpa using hv
   obtain⟨⟨a0,a1,a2⟩,ar,hd⟩:=zaB (show k < t.arrays.length from by rw[<-Rq.out];exact Hl);obtain⟨B,o,rfl,Hh⟩:=RB.arrays.2.2 (by rw[<-Rq.out];omega);have Hm:=(ArR.keep (hb.same λx hx=>⟨Nn x hx,id⟩) Hh).drop k;rw[hd.1]at Hm;obtain⟨⟨Gh,_,r1,r2,c0,c1,c2⟩,_⟩:=Hm;have Jr:B < wr.heap.size:=ltq (Nn _ Gh) hb.size;have GD:(k:Int) < (n2:Int):=by omega
   have Fz:(0:Int)<=(k:Int):=by omega
   simp only at c0 c1 c2;have HB:=hdq hb.out;clear hd Hh hb Gh r1 r2 hv;go_wp2_with fail;go_roundw;case rel=>exact⟨k+1,_,by omega,by go_num,rfl,HB.out⟩
   case measure=>simp[intOf];omega
  ·have K0:(¬(k:Int) < (n2:Int))\/((k:Int) < (n2:Int)/\decide (v<=5000)=false):=by
    simp only[decide_eq_false_iff_not];omega
   have HB:=hdq hb.out;clear hb Pn;rcases K0 with GD|⟨GD,FN⟩;all_goals
    go_wp2_with fail;clear x0 x1 x2 x3 Fo GD;obtain⟨wo,rfl⟩:∃wo:World,wo=wr:=⟨_,rfl⟩;go_loopw [3,5] (λn i wr=>∃(k:Nat)(v:Int),k<=n3/\i= .int .i64 k/\n= .int .i64 v/\Hid (Fr NoT w1 wr)) (λ_ i _=>n3 - (intOf i).toNat);case atStart=>exact⟨0,_,Nat.zero_le _,rfl,rfl,HB.out⟩
    case round=>
     clear HB;obtain⟨j,u,hj,rfl,rfl,hb⟩:=hrel;obtain⟨x0,x1,x2,x3,Fo⟩:=bk4 (Lq.fr0 hb.out);by_cases Pn:j < n3/\u<=5000
     ·obtain⟨Hl,hv⟩:=Pn;have Ka:decide (u<=5000)=true:=by simpa using hv
      obtain⟨⟨a0,a1,a2,a3⟩,ar,hd⟩:=zaB (show j < t.procs.length from by rw[<-Ml.out];exact Hl);obtain⟨B,o,rfl,Hh⟩:=RB.procs.2.2 (by rw[<-Ml.out];omega);have Hm:=(PrR.keep (hb.same λx hx=>⟨Nn x hx,id⟩) Hh).drop j;rw[hd.1]at Hm;obtain⟨⟨Gh,_,r1,c0,c3⟩,⟨A1,q1,c1,s1⟩,⟨A2,q2,c2,s2⟩,_⟩:=Hm;have Jr:B < wr.heap.size:=ltq (Nn _ Gh) hb.size;have Rs:(j:Int) < (n3:Int):=by omega
      have Ys:(0:Int)<=(j:Int):=by omega
      simp only at c0 c1 c2 c3 s1 s2;obtain⟨wa,Lt⟩:=nmq (wr.alloc (.cells #[.string a0,.slice A1 a1.length q1,.slice A2 a2.len q2,.int .i64 a3] 63));have FX:Fr NoT wr wa:=by rw[Lt];exact(Fr.refl _ _).alloc _
      have Te:Bk wa wr.heap.size 63 #[.string a0,.slice A1 a1.length q1,.slice A2 a2.len q2,.int .i64 a3]:=by rw[Lt];exact Bk.new _ _ _
      have Mx:∀W,Fr NoT wr W->∀x,S x->x < W.heap.size:=λW h x hx=>ltq (Nn x hx) (hb.trans h).size;have Fe:∀W,Fr NoT wr W->SameS S wr W:=λW h=>h.same λx hx=>⟨ltq (Nn x hx) hb.size,id⟩;have Mk:=hdq (λ(mo:Int)(n:Nat)=>zlc a1 mo (wa.drewN n) S Z A1 q1 (Mx _ (FX.drewN n)) (s1.imp λ_ _ hx=>VaR.keep (Fe _ (FX.drewN n)) hx));have GB:=hdq (λ(mo:Int)(W:World)(h:Fr NoT wr W)=>zk9 a2 mo W S Z A2 q2 (Mx _ h) (s2.imp λ_ _ hx=>StR.keep (Fe _ h) hx));obtain⟨z0,z1,z2,z3,zl⟩:=bk4 Te;have HB:=hdq hb.out;have GO:=hdq FX;have vE:=hdq Te;have Yo:=hdq Lt;clear hd Hh hb Gh r1 hv s1 s2 Mx Fe FX Te Lt;go_wp2_with fail;rw[<-Yo.out];clear c0 c1 c2 c3 Jr x0 x1 x2 x3 Fo
      go_quiet ((go_at_call 21;exact zer (Mk _ _)))
      obtain⟨wb,Z1⟩:=nmq (wa.drewN nq);rw[<-Z1];have UR:Dr wa wb:=⟨nq,Z1⟩;have Km:=vE.fr0 UR.fr;clear z0 z1 z2 z3 zl;obtain⟨z0,z1,z2,z3,zl⟩:=bk4 Km;have jJ:=hdq (GO.trans UR.fr);clear UR Z1 Km;go_wp2_with fail;refine(GB _ _ jJ.out).mono ?_;rintro _ wc ⟨rfl,UO⟩;have vF:=hdq (HB.trans (jJ.trans UO.fr));clear UO z0 z1 z2 z3;go_wp2_with fail;go_roundw;case rel=>exact⟨j+1,_,by omega,by go_num,rfl,vF.out⟩
      case measure=>simp[intOf];omega
     ·have K0:(¬(j:Int) < (n3:Int))\/((j:Int) < (n3:Int)/\decide (u<=5000)=false):=by
       simp only[decide_eq_false_iff_not];omega
      have HB:=hdq hb.out;clear hb Pn;rcases K0 with Rs|⟨Rs,Ka⟩;all_goals
       go_wp2_with fail;go_ret;exact⟨_,rfl,Hs.trans HB.out⟩
