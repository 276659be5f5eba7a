/- ref10. -/
import Derived.Test.YtfomomaomggpbaaGreatDoorJgCkB
set_option linter.all false
set_option maxHeartbeats 3200000
set_option maxRecDepth 100000
namespace Go.Proofs.YtfomomaomggpbaaGreatDoor
open Go.RowKit Go.Shelf
def Dr (w w':World):Prop:=∃q,w'=w.drewN q
theorem Dr.refl (w:World):Dr w w:=⟨0,rfl⟩
theorem Dr.trans {a b c:World}(h:Dr a b)(k:Dr b c):Dr a c:=by
 obtain⟨n,rfl⟩:=h;obtain⟨m,rfl⟩:=k;exact⟨n+m,by rw[World.drewN_drewN]⟩
theorem Dr.more (w:World)(n:Nat):Dr w (w.drewN n):=⟨n,rfl⟩
theorem Dr.same {S:Nat->Prop}{w w':World}(h:Dr w w'):SameS S w w':=by
 obtain⟨n,rfl⟩:=h;exact λ_ _=>⟨rfl,rfl⟩
theorem Dr.fr {w w':World}(h:Dr w w'):Fr NoT w w':=by
 obtain⟨n,rfl⟩:=h;exact aH.drewN _
def IntD (n:Int)(W:World)(e:Ending)(w':World):Prop:=e= .returned (.int .i64 n)/\Dr W w'
theorem zeO {P:Program}{f:FuncId}{args:Array Value}{w:World}{n:Nat}{v:Int}(h:Calls P f args (w.drewN n) (IntD v (w.drewN n))):
  Calls P f args (w.drewN n) λe w''=>e= .returned (.int .i64 v)/\∃m,w''=w.drewN m:=
 h.mono λ_ _ ⟨he,m,hm⟩=>⟨he,n+m,by rw[hm,World.drewN_drewN]⟩
def szXF:Exs->Int->Int->Int
 | .nil,n,_=>n
 | .cons _ nm _ args _ r,n,most=>if n<=most then szXF r (wrap64 (wrap64 (wrap64 (n+1)+(nm.size:Int))+szXF args 0 (wrap64 (most - n)))) most else n
theorem zl8 {xs:Exs}{n most:Int}(h:¬n<=most):szXF xs n most=n:=by
 cases xs with
 |nil=>rfl
 |cons k nm m args at_ r=>show(if n<=most then _ else n)=n;rw[if_neg h]
theorem zl9 {xs:Exs}{i:Nat}{n most:Int}{k nm m args at_ r}(hd:Exs.drop i xs= .cons k nm m args at_ r)(h:n<=most):
  szXF (Exs.drop i xs) n most=szXF (Exs.drop (i+1) xs) (wrap64 (wrap64 (wrap64 (n+1)+(nm.size:Int))+szXF args 0 (wrap64 (most - n)))) most:=by
 rw[Exs.drop_succ i xs hd,hd];show(if n<=most then _ else n)=_
 rw[if_pos h]
def SzX (xs:Exs):Prop:=∀(most:Int)(W:World)(S:Nat->Prop)(Z:Prop)(A:Option Addr)(c:Nat),(∀x,S x->x < W.heap.size)->SlR (λb o=>ExR W S Z xs b o) xs.len 64 A c->
 Calls Tryz.prog 45 #[.slice A xs.len c,.int .i64 most] W (IntD (szXF xs 0 most) W)
def SzXI (xs:Exs):Prop:=∀(i:Nat)(a0:Int)(a1:ByteArray)(a2:Int)(a3:Exs)(a4:Int)(ar:Exs),Exs.drop i xs= .cons a0 a1 a2 a3 a4 ar->SzX a3
theorem zma (xs:Exs)(FI:SzXI xs):SzX xs:=by
 intro most w S Z A c hS hx;have hl:xs.len<=9223372036854775807:=aK hx.1 hx.2.1.1;have HA:=aA FI;have HX:=aA hx;have HS:=aA hS;obtain⟨m,hm⟩:=aF xs.len;rw[<-hm]at hl ⊢;have HM:=aA hm;obtain⟨F,hF⟩:=aF (szXF xs 0 most);rw[<-hF];have HF:=aA hF;clear FI hx hS hm hF;go_enter Tryz.func45,Tryz.ntmps45;go_wp2_with fail;go_loopw [5,6] (λn i wr=>∃(k:Nat)(v:Int),k<=m/\i= .int .i64 k/\n= .int .i64 v/\Hid (Dr w wr)/\Hid (F=szXF (Exs.drop k xs) v most)) (λ_ i _=>m - (intOf i).toNat);case atStart=>exact⟨0,0,Nat.zero_le _,rfl,rfl,Dr.refl _,HF.out⟩
 case round=>
  obtain⟨k,v,hk,rfl,rfl,hb,Hb⟩:=hrel;by_cases Hk:k < m
  ·by_cases hv:v<=most
   ·have F5:decide (v<=most)=true:=by simpa using hv
    obtain⟨a0,a1,a2,a3,a4,ar,hd⟩:=Exs.drop_cons (show k < xs.len from by rw[<-HM.out];exact Hk);obtain⟨B,o,rfl,Hg⟩:=HX.2.2 (by rw[<-HM.out];omega);have Hq:=(ExR.keep hb.same Hg).drop k;rw[hd]at Hq;obtain⟨⟨Gn,_,r0,r1,r2,c0,c1,c2,c4⟩,⟨A3,q3,c3,s3⟩,_⟩:=Hq;have JC:B < wr.heap.size:=aM (HS _ Gn) hb.fr.size;have Gj:(k:Int) < (m:Int):=by omega
    have G9:(0:Int)<=(k:Int):=by omega
    have MY:=HA k a0 a1 a2 a3 a4 ar hd;have HR:=aA (λ(mo:Int)(n:Nat)=>MY mo (wr.drewN n) S Z A3 q3 (λx hx=>aM (HS x hx) hb.fr.size) (s3.imp λ_ _ hx=>ExR.keep (Dr.same ⟨n,rfl⟩) hx));have Gb:=aA (Hb.trans (zl9 hd hv));have HB:=aA hb.out;clear hd Hg Hb hb Gn s3 r0 r1 r2 MY hv;go_wp2_with fail
    go_quiet ((go_at_call 45;exact zeO (HR _ _)))
    go_wp2_with fail;go_roundw;case rel=>exact⟨k+1,_,by omega,by go_num,rfl,HB.trans (Dr.more _ _),Gb.out⟩
    case measure=>simp[intOf];omega
   ·have F5:decide (v<=most)=false:=by simpa using hv
    have HE:=aA (show F=v from by rw[Hb.out,zl8 hv]);have HB:=aA hb.out;have Gj:(k:Int) < (m:Int):=by omega
    clear Hb hb hv;go_wp2_with fail;go_ret;exact⟨by rw[HE.out];rfl,HB.out⟩
  ·have HE:=aA (show F=v from by rw[Hb.out,Exs.drop_nil (by rw[<-HM.out];omega)];rfl);have HB:=aA hb.out;have Gj:¬(k:Int) < (m:Int):=by omega
   clear Hb hb;go_wp2_with fail;go_ret;exact⟨by rw[HE.out];rfl,HB.out⟩
theorem zgg:∀xs:Exs,SzXI xs
 | .nil =>λi _ _ _ _ _ _ hd=>by cases i<;>simp[Exs.drop]at hd
 | .cons k0 k1 k2 k3 k4 kr=>λi _ _ _ _ _ _ hd=>by
  cases i with
  |zero=>
   simp only[Exs.drop]at hd;injection hd with e0 e1 e2 e3 e4 e5;subst e0 e1 e2 e3 e4 e5;exact zma k3 (zgg k3)
  |succ i=>
   simp only[Exs.drop]at hd;exact zgg kr i _ _ _ _ _ _ hd
theorem zmb (xs:Exs):SzX xs:=zma xs (zgg xs)
def zhh (v most:Int)(f:Int->Int):Int:=wrap64 (v+f (wrap64 (most - v)))
def szCF:Cds->Int->Int->Int
 | .nil,n,_=>n
 | .cons _ args of_ _ r,n,most=>if n<=most then szCF r (zhh (wrap64 (wrap64 (n+1)+szXF args 0 (wrap64 (most - n)))) most (szCF of_ 0)) most else n
theorem zmc {xs:Cds}{n most:Int}(h:¬n<=most):szCF xs n most=n:=by
 cases xs with
 |nil=>rfl
 |cons k args of_ at_ r=>show(if n<=most then _ else n)=n;rw[if_neg h]
theorem zmd {xs:Cds}{i:Nat}{n most:Int}{k args of_ at_ r}(hd:Cds.drop i xs= .cons k args of_ at_ r)(h:n<=most):
  szCF (Cds.drop i xs) n most=szCF (Cds.drop (i+1) xs) (zhh (wrap64 (wrap64 (n+1)+szXF args 0 (wrap64 (most - n)))) most (szCF of_ 0)) most:=by
 rw[Cds.drop_succ i xs hd,hd];show(if n<=most then _ else n)=_
 rw[if_pos h]
def SzC (xs:Cds):Prop:=∀(most:Int)(W:World)(S:Nat->Prop)(Z:Prop)(A:Option Addr)(c:Nat),(∀x,S x->x < W.heap.size)->SlR (λb o=>CdR W S Z xs b o) xs.len 64 A c->
 Calls Tryz.prog 46 #[.slice A xs.len c,.int .i64 most] W (IntD (szCF xs 0 most) W)
def SzCI (xs:Cds):Prop:=∀(i:Nat)(a0:Int)(a1:Exs)(a2:Cds)(a3:Int)(ar:Cds),Cds.drop i xs= .cons a0 a1 a2 a3 ar->SzC a2
theorem zme (xs:Cds)(FI:SzCI xs):SzC xs:=by
 intro most w S Z A c hS hx;have hl:xs.len<=9223372036854775807:=aK hx.1 hx.2.1.1;have HA:=aA FI;have HX:=aA hx;have HS:=aA hS;obtain⟨m,hm⟩:=aF xs.len;rw[<-hm]at hl ⊢;have HM:=aA hm;obtain⟨F,hF⟩:=aF (szCF xs 0 most);rw[<-hF];have HF:=aA hF;clear FI hx hS hm hF;go_enter Tryz.func46,Tryz.ntmps46;go_wp2_with fail;go_loopw [5,6] (λn i wr=>∃(k:Nat)(v:Int),k<=m/\i= .int .i64 k/\n= .int .i64 v/\Hid (Dr w wr)/\Hid (F=szCF (Cds.drop k xs) v most)) (λ_ i _=>m - (intOf i).toNat);case atStart=>exact⟨0,0,Nat.zero_le _,rfl,rfl,Dr.refl _,HF.out⟩
 case round=>
  obtain⟨k,v,hk,rfl,rfl,hb,Hb⟩:=hrel;by_cases Hk:k < m
  ·by_cases hv:v<=most
   ·have F5:decide (v<=most)=true:=by simpa using hv
    obtain⟨a0,a1,a2,a3,ar,hd⟩:=Cds.drop_cons (show k < xs.len from by rw[<-HM.out];exact Hk);obtain⟨B,o,rfl,Hg⟩:=HX.2.2 (by rw[<-HM.out];omega);have Hq:=(CdR.keep hb.same Hg).drop k;rw[hd]at Hq;obtain⟨⟨Gn,_,r0,r1,c0,c3⟩,⟨A1,q1,c1,s1⟩,⟨A2,q2,c2,s2⟩,_⟩:=Hq;have JC:B < wr.heap.size:=aM (HS _ Gn) hb.fr.size;have Gj:(k:Int) < (m:Int):=by omega
    have G9:(0:Int)<=(k:Int):=by omega
    have MY:=HA k a0 a1 a2 a3 ar hd;have L0:=aA (λ(mo:Int)=>zmb a1 mo wr S Z A1 q1 (λx hx=>aM (HS x hx) hb.fr.size) s1);have GF:=aA (λ(mo:Int)(W:World)(h:Dr wr W)=>MY mo W S Z A2 q2 (λx hx=>aM (HS x hx) (hb.trans h).fr.size) (s2.imp λ_ _ hx=>CdR.keep h.same hx));have Gb:=aA (Hb.trans (zmd hd hv));have HB:=aA hb.out;clear hd Hg Hb hb Gn s1 s2 r0 r1 MY hv;go_wp2_with fail;refine(L0 _).mono ?_;rintro _ w1 ⟨rfl,KW⟩;have D6:=(KW.fr.cell (p:=⟨B,o+k*4+2,none⟩) JC id).trans c2;have Ff:=aM JC KW.fr.size;have LD:=aA KW;clear KW c0 c1 c2 c3 JC;go_wp2_with fail;refine(GF _ _ LD.out).mono ?_;rintro _ w2 ⟨rfl,LE⟩;have Td:=aA ((HB.trans LD.out).trans LE);clear LE D6 Ff;go_wp2_with fail;go_roundw;case rel=>exact⟨k+1,_,by omega,by go_num,rfl,Td.out,Gb.out⟩
    case measure=>simp[intOf];omega
   ·have F5:decide (v<=most)=false:=by simpa using hv
    have HE:=aA (show F=v from by rw[Hb.out,zmc hv]);have HB:=aA hb.out;have Gj:(k:Int) < (m:Int):=by omega
    clear Hb hb hv;go_wp2_with fail;go_ret;exact⟨by rw[HE.out];rfl,HB.out⟩
  ·have HE:=aA (show F=v from by rw[Hb.out,Cds.drop_nil (by rw[<-HM.out];omega)];rfl);have HB:=aA hb.out;have Gj:¬(k:Int) < (m:Int):=by omega
   clear Hb hb;go_wp2_with fail;go_ret;exact⟨by rw[HE.out];rfl,HB.out⟩
theorem zgh:∀xs:Cds,SzCI xs
 | .nil =>λi _ _ _ _ _ hd=>by cases i<;>simp[Cds.drop]at hd
 | .cons k0 k1 k2 k3 kr=>λi _ _ _ _ _ hd=>by
  cases i with
  |zero=>
   simp only[Cds.drop]at hd;injection hd with e0 e1 e2 e3 e4;subst e0 e1 e2 e3 e4;exact zme k2 (zgh k2)
  |succ i=>
   simp only[Cds.drop]at hd;exact zgh kr i _ _ _ _ _ hd
theorem zpC (xs:Cds):SzC xs:=zme xs (zgh xs)
def szS1 (v most:Int)(n:Nat)(args:Exs):Int:=wrap64 (wrap64 (wrap64 (v+1)+(n:Int))+szXF args 0 (wrap64 (most - v)))
def szSF:Sts->Int->Int->Int
 | .nil,n,_=>n
 | .cons _ nm args cond body els _ r,n,most=>if n<=most then szSF r (zhh (zhh (zhh (szS1 n most nm.size args) most (szCF cond 0)) most (szSF body 0)) most (szSF els 0)) most else n
theorem zmf {xs:Sts}{n most:Int}(h:¬n<=most):szSF xs n most=n:=by
 cases xs with
 |nil=>rfl
 |cons k nm args cond body els at_ r=>show(if n<=most then _ else n)=n;rw[if_neg h]
theorem zmg {xs:Sts}{i:Nat}{n most:Int}{k nm args cond body els at_ r}(hd:Sts.drop i xs= .cons k nm args cond body els at_ r)(h:n<=most):
  szSF (Sts.drop i xs) n most=szSF (Sts.drop (i+1) xs) (zhh (zhh (zhh (szS1 n most nm.size args) most (szCF cond 0)) most (szSF body 0)) most (szSF els 0)) most:=by
 rw[Sts.drop_succ i xs hd,hd];show(if n<=most then _ else n)=_
 rw[if_pos h]
def SzS (xs:Sts):Prop:=∀(most:Int)(W:World)(S:Nat->Prop)(Z:Prop)(A:Option Addr)(c:Nat),(∀x,S x->x < W.heap.size)->SlR (λb o=>StR W S Z xs b o) xs.len 128 A c->
 Calls Tryz.prog 20 #[.slice A xs.len c,.int .i64 most] W (IntD (szSF xs 0 most) W)
def SzSI (xs:Sts):Prop:=∀(i:Nat)(a0:Int)(a1:ByteArray)(a2:Exs)(a3:Cds)(a4 a5:Sts)(a6:Int)(ar:Sts),Sts.drop i xs= .cons a0 a1 a2 a3 a4 a5 a6 ar->SzS a4/\SzS a5
theorem zhV (xs:Sts)(FI:SzSI xs):SzS xs:=by
 intro most w S Z A c hS hx;have hl:xs.len<=9223372036854775807:=aK hx.1 hx.2.1.1;have HA:=aA FI;have HX:=aA hx;have HS:=aA hS;obtain⟨m,hm⟩:=aF xs.len;rw[<-hm]at hl ⊢;have HM:=aA hm;obtain⟨F,hF⟩:=aF (szSF xs 0 most);rw[<-hF];have HF:=aA hF;clear FI hx hS hm hF;go_enter Tryz.func20,Tryz.ntmps20;go_wp2_with fail;go_loopw [5,6] (λn i wr=>∃(k:Nat)(v:Int),k<=m/\i= .int .i64 k/\n= .int .i64 v/\Hid (Dr w wr)/\Hid (F=szSF (Sts.drop k xs) v most)) (λ_ i _=>m - (intOf i).toNat);case atStart=>exact⟨0,0,Nat.zero_le _,rfl,rfl,Dr.refl _,HF.out⟩
 case round=>
  obtain⟨k,v,hk,rfl,rfl,hb,Hb⟩:=hrel;by_cases Hk:k < m
  ·by_cases hv:v<=most
   ·have F5:decide (v<=most)=true:=by simpa using hv
    obtain⟨a0,a1,a2,a3,a4,a5,a6,ar,hd⟩:=Sts.drop_cons (show k < xs.len from by rw[<-HM.out];exact Hk);obtain⟨B,o,rfl,Hg⟩:=HX.2.2 (by rw[<-HM.out];omega);have Hq:=(StR.keep hb.same Hg).drop k;rw[hd]at Hq;obtain⟨⟨Gn,_,r0,r1,c0,c1,c6⟩,⟨A2,q2,c2,s2⟩,⟨A3,q3,c3,s3⟩,⟨A4,q4,c4,s4⟩,⟨A5,q5,c5,s5⟩,_⟩:=Hq;have JC:B < wr.heap.size:=aM (HS _ Gn) hb.fr.size;have Gj:(k:Int) < (m:Int):=by omega
    have G9:(0:Int)<=(k:Int):=by omega
    obtain⟨Pa,Np⟩:=HA k a0 a1 a2 a3 a4 a5 a6 ar hd;have ML:∀W,Dr wr W->∀x,S x->x < W.heap.size:=λW h x hx=>aM (HS x hx) (hb.trans h).fr.size;have L0:=aA (λ(mo:Int)(n:Nat)=>zmb a2 mo (wr.drewN n) S Z A2 q2 (ML _ ⟨n,rfl⟩) (s2.imp λ_ _ hx=>ExR.keep (Dr.same ⟨n,rfl⟩) hx));have GF:=aA (λ(mo:Int)(W:World)(h:Dr wr W)=>zpC a3 mo W S Z A3 q3 (ML W h) (s3.imp λ_ _ hx=>CdR.keep h.same hx));have Fe:=aA (λ(mo:Int)(W:World)(h:Dr wr W)=>Pa mo W S Z A4 q4 (ML W h) (s4.imp λ_ _ hx=>StR.keep h.same hx));have K6:=aA (λ(mo:Int)(W:World)(h:Dr wr W)=>Np mo W S Z A5 q5 (ML W h) (s5.imp λ_ _ hx=>StR.keep h.same hx));have Gb:=aA (Hb.trans (zmg hd hv));have HB:=aA hb.out;clear hd Hg Hb hb Gn s2 s3 s4 s5 r0 r1 Pa Np hv ML;go_wp2_with fail
    go_quiet ((go_at_call 45;exact zeO (L0 _ _)))
    obtain⟨w1,Hc⟩:=aF (wr.drewN nq);rw[<-Hc];have KW:Dr wr w1:=⟨nq,Hc⟩;have d3:=(KW.fr.cell (p:=⟨B,o+k*7+3,none⟩) JC id).trans c3;have d4:=(KW.fr.cell (p:=⟨B,o+k*7+4,none⟩) JC id).trans c4;have d5:=(KW.fr.cell (p:=⟨B,o+k*7+5,none⟩) JC id).trans c5;have Ff:=aM JC KW.fr.size;have LD:=aA KW;clear KW c0 c1 c2 c3 c4 c5 c6 JC Hc;go_wp2_with fail;refine(GF _ _ LD.out).mono ?_;rintro _ w2 ⟨rfl,LE⟩;have e4:=(LE.fr.cell (p:=⟨B,o+k*7+4,none⟩) Ff id).trans d4;have e5:=(LE.fr.cell (p:=⟨B,o+k*7+5,none⟩) Ff id).trans d5;have GK:=aM Ff LE.fr.size;have Td:=aA (LD.trans LE);clear LE d3 d4 d5 Ff;go_wp2_with fail;refine(Fe _ _ Td.out).mono ?_;rintro _ w3 ⟨rfl,P3⟩;have g5:=(P3.fr.cell (p:=⟨B,o+k*7+5,none⟩) GK id).trans e5;have L3:=aM GK P3.fr.size;have qg:=aA (Td.trans P3);clear P3 e4 e5 GK;go_wp2_with fail;refine(K6 _ _ qg.out).mono ?_;rintro _ w4 ⟨rfl,qh⟩;have zk:=aA (HB.trans (qg.trans qh));clear qh g5 L3;go_wp2_with fail;go_roundw;case rel=>exact⟨k+1,_,by omega,by go_num,rfl,zk.out,Gb.out⟩
    case measure=>simp[intOf];omega
   ·have F5:decide (v<=most)=false:=by simpa using hv
    have HE:=aA (show F=v from by rw[Hb.out,zmf hv]);have HB:=aA hb.out;have Gj:(k:Int) < (m:Int):=by omega
    clear Hb hb hv;go_wp2_with fail;go_ret;exact⟨by rw[HE.out];rfl,HB.out⟩
  ·have HE:=aA (show F=v from by rw[Hb.out,Sts.drop_nil (by rw[<-HM.out];omega)];rfl);have HB:=aA hb.out;have Gj:¬(k:Int) < (m:Int):=by omega
   clear Hb hb;go_wp2_with fail;go_ret;exact⟨by rw[HE.out];rfl,HB.out⟩
theorem zdW:∀xs:Sts,SzSI xs
 | .nil =>λi _ _ _ _ _ _ _ _ hd=>by cases i<;>simp[Sts.drop]at hd
 | .cons k0 k1 k2 k3 k4 k5 k6 kr=>λi _ _ _ _ _ _ _ _ hd=>by
  cases i with
  |zero=>
   simp only[Sts.drop]at hd;injection hd with e0 e1 e2 e3 e4 e5 e6 e7;subst e0 e1 e2 e3 e4 e5 e6 e7;exact⟨zhV k4 (zdW k4),zhV k5 (zdW k5)⟩
  |succ i=>
   simp only[Sts.drop]at hd;exact zdW kr i _ _ _ _ _ _ _ _ hd
theorem zmh (xs:Sts):SzS xs:=zhV xs (zdW xs)
def szVF:List Va->Int->Int->Int
 | [],n,_=>n
 |x::r,n,most=>if n<=most then szVF r (wrap64 (wrap64 (n+1)+(x.nm.size:Int))) most else n
theorem zmi {xs:List Va}{n most:Int}(h:¬n<=most):szVF xs n most=n:=by
 cases xs with
 |nil=>rfl
 |cons x r=>show(if n<=most then _ else n)=n;rw[if_neg h]
theorem zmj {xs:List Va}{i:Nat}{n most:Int}{a0 a1 ar}(hd:xs.drop i=(⟨a0,a1⟩:Va)::ar/\xs.drop (i+1)=ar)(h:n<=most):
  szVF (xs.drop i) n most=szVF (xs.drop (i+1)) (wrap64 (wrap64 (n+1)+(a0.size:Int))) most:=by
 rw[hd.1,hd.2];show(if n<=most then _ else n)=_
 rw[if_pos h]
theorem zmk (xs:List Va)(most:Int)(w:World)(S:Nat->Prop)(Z:Prop)(A:Option Addr)(c:Nat)(hS:∀x,S x->x < w.heap.size)(hx:SlR (λb o=>VaR w S Z xs b o) xs.length 24 A c):
  Calls Tryz.prog 21 #[.slice A xs.length c,.int .i64 most] w (IntD (szVF xs 0 most) w):=by
 have hl:xs.length<=9223372036854775807:=aK hx.1 hx.2.1.1;have HX:=aA hx;have HS:=aA hS;obtain⟨m,hm⟩:=aF xs.length;rw[<-hm]at hl ⊢;have HM:=aA hm;obtain⟨F,hF⟩:=aF (szVF xs 0 most);rw[<-hF];have HF:=aA hF;clear hx hS hm hF;go_enter Tryz.func21,Tryz.ntmps21;go_wp2_with fail;go_loop [5,6] (λn i=>∃(k:Nat)(v:Int),k<=m/\i= .int .i64 k/\n= .int .i64 v/\Hid (F=szVF (xs.drop k) v most)) (λ_ i=>m - (intOf i).toNat);case atStart=>exact⟨0,0,Nat.zero_le _,rfl,rfl,HF.out⟩
 case round=>
  obtain⟨k,v,hk,rfl,rfl,Hb⟩:=hrel;by_cases Hk:k < m
  ·by_cases hv:v<=most
   ·have F5:decide (v<=most)=true:=by simpa using hv
    obtain⟨⟨a0,a1⟩,ar,hd⟩:=zao (show k < xs.length from by rw[<-HM.out];exact Hk);obtain⟨B,o,rfl,Hg⟩:=HX.2.2 (by rw[<-HM.out];omega);have Hq:=Hg.drop k;rw[hd.1]at Hq;obtain⟨⟨Gn,_,r1,c0,c1⟩,_⟩:=Hq;have JC:B < w.heap.size:=HS _ Gn;have Gj:(k:Int) < (m:Int):=by omega
    have G9:(0:Int)<=(k:Int):=by omega
    simp only at c0 c1;have Gb:=aA (Hb.trans (zmj hd hv));clear hd Hg Hb Gn r1 hv;go_wp2_with fail;go_round;case rel=>exact⟨k+1,_,by omega,by go_num,rfl,Gb.out⟩
    case measure=>simp[intOf];omega
   ·have F5:decide (v<=most)=false:=by simpa using hv
    have HE:=aA (show F=v from by rw[Hb.out,zmi hv]);have Gj:(k:Int) < (m:Int):=by omega
    clear Hb hv;go_wp2_with fail;go_ret;exact⟨by rw[HE.out];rfl,Dr.refl _⟩
  ·have HE:=aA (show F=v from by rw[Hb.out,List.drop_eq_nil_of_le (by rw[<-HM.out];omega)];rfl);have Gj:¬(k:Int) < (m:Int):=by omega
   clear Hb;go_wp2_with fail;go_ret;exact⟨by rw[HE.out];rfl,Dr.refl _⟩
def AnyB (W:World)(e:Ending)(w':World):Prop:=∃b:Bool,e= .returned (.bool b)/\Fr NoT W w'
theorem zjO (t:Tre)(w:World)(S:Nat->Prop)(Z:Prop)(Av Aa Ap Am:Option Addr)(cv ca cp cm:Nat)(hS:∀b,S b->b < w.heap.size)(hx:TrR w S Z t Av Aa Ap Am cv ca cp cm):
  Calls Tryz.prog 8 #[trV t Av Aa Ap Am cv ca cp cm] w (AnyB w):=by
 have l1:t.vars.length<=9223372036854775807:=aK hx.vars.1 hx.vars.2.1.1;have l2:t.arrays.length<=9223372036854775807:=aK hx.arrays.1 hx.arrays.2.1.1;have l3:t.procs.length<=9223372036854775807:=aK hx.procs.1 hx.procs.2.1.1;obtain⟨n1,FW⟩:=aF t.vars.length;obtain⟨n2,JT⟩:=aF t.arrays.length;obtain⟨n3,Nn⟩:=aF t.procs.length;obtain⟨n4,PZ⟩:=aF t.main.len;obtain⟨w1,Hc⟩:=aF (w.alloc (.cells #[.slice Av n1 cv,.slice Aa n2 ca,.slice Ap n3 cp,.slice Am n4 cm] 27));have Hd:Fr NoT w w1:=by rw[Hc];exact aH.alloc _
 have Fo:Bk w1 w.heap.size 27 #[.slice Av n1 cv,.slice Aa n2 ca,.slice Ap n3 cp,.slice Am n4 cm]:=by rw[Hc];exact Bk.new _ _ _
 have Ky:∀x,S x->x < w1.heap.size:=λx hx=>aM (hS x hx) Hd.size;have Ff:TrR w1 S Z t Av Aa Ap Am cv ca cp cm:=hx.keep (Hd.same λb hb=>⟨hS b hb,id⟩);have L0:=aA (λ(mo:Int)(n:Nat)=>zmh t.main mo (w1.drewN n) S Z Am cm (λx hx=>Ky x hx) (Ff.main.imp λ_ _ hx=>StR.keep (Dr.same ⟨n,rfl⟩) hx));have GF:=aA (λ(mo:Int)(n:Nat)=>zmk t.vars mo (w1.drewN n) S Z Av cv (λx hx=>Ky x hx) (Ff.vars.imp λ_ _ hx=>VaR.keep (Dr.same ⟨n,rfl⟩) hx));rw[<-FW]at GF;rw[<-PZ]at L0;obtain⟨x0,x1,x2,x3,Fw⟩:=bk4 Fo;unfold trV;rw[<-FW,<-JT,<-Nn,<-PZ];rw[<-FW]at l1;rw[<-JT]at l2;rw[<-Nn]at l3;have R9:=aA Ff;have Ny:=aA Ky;have Hl:=aA Hd;have K0:=aA Fo;have Ge:=aA Hc;have Sh:=aA JT;have ME:=aA Nn;clear Hd Fo Ky Ff hx hS Hc FW JT Nn PZ;go_enter Tryz.func8,Tryz.ntmps8;go_wp2_with fail;rw[<-Ge.out]
 go_quiet ((first|(go_at_call 20;exact zeO (L0 _ _))|(go_at_call 21;exact zeO (GF _ _))))
 obtain⟨w2,Gc⟩:=aF (w1.drewN nq);rw[<-Gc];have LE:Dr w1 w2:=⟨nq,Gc⟩;have Td:=aA LE.fr;clear LE Gc x0 x1 x2 x3 L0 GF;go_wp2_with fail;go_loopw [3,4] (λn i wr=>∃(k:Nat)(v:Int),k<=n2/\i= .int .i64 k/\n= .int .i64 v/\Hid (Fr NoT w1 wr)) (λ_ i _=>n2 - (intOf i).toNat);case atStart=>exact⟨0,_,Nat.zero_le _,rfl,rfl,Td.out⟩
 case round=>
  obtain⟨k,v,hk,rfl,rfl,hb⟩:=hrel;obtain⟨x0,x1,x2,x3,Fw⟩:=bk4 (K0.fr0 hb.out);by_cases PN:k < n2/\v<=5000
  ·obtain⟨Hk,hv⟩:=PN;have F5:decide (v<=5000)=true:=by simpa using hv
   obtain⟨⟨a0,a1,a2⟩,ar,hd⟩:=zao (show k < t.arrays.length from by rw[<-Sh.out];exact Hk);obtain⟨B,o,rfl,Hg⟩:=R9.arrays.2.2 (by rw[<-Sh.out];omega);have Hq:=(ArR.keep (hb.same λx hx=>⟨Ny x hx,id⟩) Hg).drop k;rw[hd.1]at Hq;obtain⟨⟨Gn,_,r1,r2,c0,c1,c2⟩,_⟩:=Hq;have JC:B < wr.heap.size:=aM (Ny _ Gn) hb.size;have Gj:(k:Int) < (n2:Int):=by omega
   have G9:(0:Int)<=(k:Int):=by omega
   simp only at c0 c1 c2;have HB:=aA hb.out;clear hd Hg hb Gn r1 r2 hv;go_wp2_with fail;go_roundw;case rel=>exact⟨k+1,_,by omega,by go_num,rfl,HB.out⟩
   case measure=>simp[intOf];omega
  ·have LA:(¬(k:Int) < (n2:Int))\/((k:Int) < (n2:Int)/\decide (v<=5000)=false):=by
    simp only[decide_eq_false_iff_not];omega
   have HB:=aA hb.out;clear hb PN;rcases LA with Gj|⟨Gj,F5⟩;all_goals
    go_wp2_with fail;clear x0 x1 x2 x3 Fw Gj;obtain⟨wo,rfl⟩:∃wo:World,wo=wr:=⟨_,rfl⟩;go_loopw [3,5] (λn i wr=>∃(k:Nat)(v:Int),k<=n3/\i= .int .i64 k/\n= .int .i64 v/\Hid (Fr NoT w1 wr)) (λ_ i _=>n3 - (intOf i).toNat);case atStart=>exact⟨0,_,Nat.zero_le _,rfl,rfl,HB.out⟩
    case round=>
     clear HB;obtain⟨j,u,hj,rfl,rfl,hb⟩:=hrel;obtain⟨x0,x1,x2,x3,Fw⟩:=bk4 (K0.fr0 hb.out);by_cases PN:j < n3/\u<=5000
     ·obtain⟨Hk,hv⟩:=PN;have Kv:decide (u<=5000)=true:=by simpa using hv
      obtain⟨⟨a0,a1,a2,a3⟩,ar,hd⟩:=zao (show j < t.procs.length from by rw[<-ME.out];exact Hk);obtain⟨B,o,rfl,Hg⟩:=R9.procs.2.2 (by rw[<-ME.out];omega);have Hq:=(PrR.keep (hb.same λx hx=>⟨Ny x hx,id⟩) Hg).drop j;rw[hd.1]at Hq;obtain⟨⟨Gn,_,r1,c0,c3⟩,⟨A1,q1,c1,s1⟩,⟨A2,q2,c2,s2⟩,_⟩:=Hq;have JC:B < wr.heap.size:=aM (Ny _ Gn) hb.size;have Sj:(j:Int) < (n3:Int):=by omega
      have Z3:(0:Int)<=(j:Int):=by omega
      simp only at c0 c1 c2 c3 s1 s2;obtain⟨wa,Kx⟩:=aF (wr.alloc (.cells #[.string a0,.slice A1 a1.length q1,.slice A2 a2.len q2,.int .i64 a3] 63));have FU:Fr NoT wr wa:=by rw[Kx];exact aH.alloc _
      have Ui:Bk wa wr.heap.size 63 #[.string a0,.slice A1 a1.length q1,.slice A2 a2.len q2,.int .i64 a3]:=by rw[Kx];exact Bk.new _ _ _
      have ML:∀W,Fr NoT wr W->∀x,S x->x < W.heap.size:=λW h x hx=>aM (Ny x hx) (hb.trans h).size;have Fx:∀W,Fr NoT wr W->SameS S wr W:=λW h=>h.same λx hx=>⟨aM (Ny x hx) hb.size,id⟩;have L0:=aA (λ(mo:Int)(n:Nat)=>zmk a1 mo (wa.drewN n) S Z A1 q1 (ML _ (FU.drewN n)) (s1.imp λ_ _ hx=>VaR.keep (Fx _ (FU.drewN n)) hx));have GF:=aA (λ(mo:Int)(W:World)(h:Fr NoT wr W)=>zmh a2 mo W S Z A2 q2 (ML _ h) (s2.imp λ_ _ hx=>StR.keep (Fx _ h) hx));obtain⟨z0,z1,z2,z3,zl⟩:=bk4 Ui;have HB:=aA hb.out;have G0:=aA FU;have zm:=aA Ui;have Z0:=aA Kx;clear hd Hg hb Gn r1 hv s1 s2 ML Fx FU Ui Kx;go_wp2_with fail;rw[<-Z0.out];clear c0 c1 c2 c3 JC x0 x1 x2 x3 Fw
      go_quiet ((go_at_call 21;exact zeO (L0 _ _)))
      obtain⟨wb,jf⟩:=aF (wa.drewN nq);rw[<-jf];have VA:Dr wa wb:=⟨nq,jf⟩;have KD:=zm.fr0 VA.fr;clear z0 z1 z2 z3 zl;obtain⟨z0,z1,z2,z3,zl⟩:=bk4 KD;have qi:=aA (G0.trans VA.fr);clear VA jf KD;go_wp2_with fail;refine(GF _ _ qi.out).mono ?_;rintro _ wc ⟨rfl,Vx⟩;have zn:=aA (HB.trans (qi.trans Vx.fr));clear Vx z0 z1 z2 z3;go_wp2_with fail;go_roundw;case rel=>exact⟨j+1,_,by omega,by go_num,rfl,zn.out⟩
      case measure=>simp[intOf];omega
     ·have LA:(¬(j:Int) < (n3:Int))\/((j:Int) < (n3:Int)/\decide (u<=5000)=false):=by
       simp only[decide_eq_false_iff_not];omega
      have HB:=aA hb.out;clear hb PN;rcases LA with Sj|⟨Sj,Kv⟩;all_goals
       go_wp2_with fail;go_ret;exact⟨_,rfl,Hl.trans HB.out⟩
