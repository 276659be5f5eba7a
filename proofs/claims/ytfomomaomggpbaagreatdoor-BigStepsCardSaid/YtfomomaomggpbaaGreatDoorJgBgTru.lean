/- big: truths: the closures of conditions. -/
import Derived.Test.YtfomomaomggpbaaGreatDoorJgBgLd
set_option linter.all false
set_option maxHeartbeats 6400000
set_option maxRecDepth 100000
namespace Go.Proofs.YtfomomaomggpbaaGreatDoor
open Go.RowKit Go.Shelf
def CtS (C:BgC)(p q i:Nat)(at_:Int)(W:World):Prop:=W.cell? ⟨p,0,none⟩=some (.pointer (some ⟨C.P,0,none⟩))/\W.cell? ⟨C.P,0,none⟩=some (.pointer (some ⟨C.R,0,none⟩))/\W.cell? ⟨q,i,none⟩=some (.int .i64 at_)
def AoS (q x1:Nat)(k:Int)(v1:Value)(W:World):Prop:=W.cell? ⟨q,0,none⟩=some (.int .u8 k)/\W.cell? ⟨x1,0,none⟩=some v1
def CpS (q x2:Nat)(k:Int)(v2:Value)(W:World):Prop:=W.cell? ⟨q,0,none⟩=some (.int .u8 k)/\W.cell? ⟨x2,0,none⟩=some v2
section
variable {C:BgC} {ps:List (List UInt8)} {w:World} {lo hi q:Nat} {k:Int} {at_:Int} {A A2:Option Addr} {l c l2 c2:Nat}
theorem Fr.toO {oc:List Nat}{W W':World}(h:Fr (λb=>b=C.R) W W'):Fr (C.MutO oc) W W':=h.mono λi _ e=> .inl (.inl e)
theorem PgAt.run {W:World}{oc:List Nat}{nb:Nat}{s:Bs}(Gy:PgAt C w)(ho:C.Ok)(h:RunAt C lo hi w W ps oc nb s):PgAt C W:=Gy.later ho h.lat
theorem tru_1 (ho:C.Ok)(hT:C.T<=lo)(hq:Bx lo hi w q 179 #[.int .u8 k,.slice A l c,.slice A2 l2 c2,.int .i64 at_]):TruP C ps (.func (.func 179) #[] #[.pointer (some ⟨q,0,none⟩)]) (λ_ l=>(.inr (k==1),l)) lo hi w:=by
 refine⟨_,_,rfl,enters_of Tryz.func179 (by kernel_rfl) rfl,λW oc nb s h=>?_⟩;have c0:=(h.bx ho hT hq).cell 0;simp only[getsL]at c0;obtain⟨b,hb⟩:=nmq ((k==1));show Calls Tryz.prog 179 #[.map (some nb),.pointer (some ⟨q,0,none⟩)] W (TruQ C oc s (.inr (k==1),s.left) W)
 rw[<-hb];have HQ:=hdq (show TruQ C oc s (.inr b,s.left) W (.returned (.bool b)) W from⟨rfl,h.st,Fr.refl _ _⟩);have e1:=hb.symm;clear h hq hT ho hb;go_enter Tryz.func179,Tryz.ntmps179;go_wp2_with fail;go_ret;exact HQ.out
def ntV (X0:Bs->Tru):Bs->Tru:=λs l=>match X0 s l with
 |(.inr b,l)=>(.inr (!b),l)
 |(.inl h,l)=>(.inl h,l)
theorem tru_2 {x1:Nat}{v1:Value}{X0:Bs->Tru}(ho:C.Ok)(hT:C.T<=lo)(h1:Bx lo hi w x1 223 #[v1])(FN:TruP C ps v1 X0 lo hi w):TruP C ps (.func (.func 180) #[] #[.pointer (some ⟨x1,0,none⟩)]) (ntV X0) lo hi w:=by
 obtain⟨g1,ye,rfl,F8,Hk⟩:=FN;refine⟨_,_,rfl,enters_of Tryz.func180 (by kernel_rfl) rfl,λW oc nb s h=>?_⟩;have c0:=(h.bx ho hT h1).cell 0;simp only[getsL]at c0;have FW:=hdq (Hk W oc nb s h);unfold Enters at F8;clear Hk h h1 ho hT;show Calls Tryz.prog 180 #[.map (some nb),.pointer (some ⟨x1,0,none⟩)] W (TruQ C oc s (ntV X0 s s.left) W)
 unfold ntV;rcases hx:X0 s s.left with⟨r|r,l⟩;all_goals
  rw[hx]at FW;go_enter Tryz.func180,Tryz.ntmps180;go_wp2_with fail;refine FW.mono ?_;rintro e w1 ⟨rfl,Fc,Hg⟩
 ·exact⟨rfl,rfl,Fc,Hg⟩
 ·have HS:=hdq Fc;have HF:=hdq Hg;clear Fc Hg c0 FW hx F8;unfold zb8;go_wp2_with fail;go_ret;exact⟨rfl,HS.out,HF.out⟩
def aoV (k:Int)(X0 X1:Bs->Tru):Bs->Tru:=λs l=>match X0 s l with
 |(.inr b,l)=>if b=(k==10)then X1 s l else(.inr b,l)
 |(.inl h,l)=>(.inl h,l)
theorem tru_3 {x1 x2:Nat}{v1 v2:Value}{X0 X1:Bs->Tru}(ho:C.Ok)(hT:C.T<=lo)(hk:k=10\/k=11)(hq:Bx lo hi w q 179 #[.int .u8 k,.slice A l c,.slice A2 l2 c2,.int .i64 at_])(h1:Bx lo hi w x1 223 #[v1])(h2:Bx lo hi w x2 223 #[v2])(FN:TruP C ps v1 X0 lo hi w)(Ka:TruP C ps v2 X1 lo hi w)
  (hX:∀s l,(X0 s l).2 <=l) (QB:∀s a l,X1 {s with left:=a} l=X1 s l):TruP C ps (.func (.func 181) #[] #[.pointer (some ⟨x1,0,none⟩),.pointer (some ⟨q,0,none⟩),.pointer (some ⟨x2,0,none⟩)]) (aoV k X0 X1) lo hi w:=by
 obtain⟨g1,ye,rfl,F8,Hk⟩:=FN;obtain⟨g2,yg,rfl,KZ,Hq⟩:=Ka;refine⟨_,_,rfl,enters_of Tryz.func181 (by kernel_rfl) rfl,λW oc nb s h=>?_⟩;have hW:=h.fr0 ho (Fr.refl NoT W).drew;have hs:∀W' t,RunAt C lo hi w W' ps oc nb t->AoS q x1 k (.func (.func g1) #[] ye) W':=λW' t h'=>⟨(h'.bx ho hT hq).cell 0,(h'.bx ho hT h1).cell 0⟩;have GR:∀W' t,RunAt C lo hi w W' ps oc nb t->W'.cell? ⟨x2,0,none⟩=some (.func (.func g2) #[] yg):=λW' t h'=>(h'.bx ho hT h2).cell 0;have HS:=hdq hs;have JV:=hdq GR;have HW:=hdq hW;have FW:=hdq (Hk _ oc nb s hW);have Lk:=hdq (λW' t (h':RunAt C lo hi w W' ps oc nb t)=>Hq W' oc nb t h');have TN:=hX s s.left;have V5:=QB s;unfold Enters at F8 KZ;obtain⟨r,hr⟩:=nmq (aoV k X0 X1 s s.left);show Calls Tryz.prog 181 #[.map (some nb),.pointer (some ⟨x1,0,none⟩),.pointer (some ⟨q,0,none⟩),.pointer (some ⟨x2,0,none⟩)] W (TruQ C oc s (aoV k X0 X1 s s.left) W)
 rw[<-hr];unfold aoV at hr;have yT:∃b,(k==10)=b/\(k==11)= !b:=⟨k==10,rfl,by rcases hk with rfl|rfl<;>rfl⟩;obtain⟨ib,yT,zJ⟩:=yT;rw[yT]at hr;clear Hk Hq hs GR hq h1 h2 hT hk hX QB h hW;rcases hx:X0 s s.left with⟨h0|b,l⟩;all_goals
  rw[hx]at hr FW TN;have UN:=hdq (show l<=s.left from TN);have RB:=hdq V5;have HR:=hdq hr;clear hr TN V5 hx;go_enter Tryz.func181,Tryz.ntmps181;go_wp2_with fail;refine zad (AoS q x1 k (.func (.func g1) #[] ye)) (λ_=>true) (by kernel_rfl) (HS _ _ HW.out) (λhHeld=>?_);refine zaa 1 ?_;simp only[putsL];refine zaa 3 ?_;simp only[putsL];refine zac 0 (v:=?_) rfl (by kernel_rfl) (λ_ _ _ h=>h) hHeld (by rfl) ?_ ?_;rotate_left
  ·intro wz Hn;(try dsimp only[AoS,CpS,CtS]at Hn);go_simp;try with_reducible rfl
  try simp only[putsL]
  refine zac 4 (v:=?_) rfl (by kernel_rfl) (λ_ _ _ h=>h) hHeld (by rfl) ?_ ?_;rotate_left
  ·intro wz Hn;(try dsimp only[AoS,CpS,CtS]at Hn);go_simp;try with_reducible rfl
  try simp only[putsL]
  refine zaa 5 ?_;simp only[putsL];refine zab 2 rfl (by kernel_rfl) (λKK hK=>?_);go_simp;refine FW.mono ?_;rintro e w1 ⟨rfl,Fc,Hg⟩
 ·rw[HR.out];exact⟨rfl,rfl,Fc,(Fr.refl _ _).drew.trans Hg⟩
 ·have F5:=HW.next Hg.toO Fc UN.out;have Nn:=hdq Fc;have Hs:=hdq (show Fr (λb=>b=C.R) W w1 from(Fr.refl _ _).drew.trans Hg);have H1:=hdq F5;clear Fc Hg F5 FW hHeld;unfold zb8;try dsimp only
  refine hK _ _ (λ_ _=>HS _ _ H1.out) ?_;clear hK KK;try simp only[putsL]
  refine zaa 6 ?_;simp only[putsL];refine zaf (by kernel_rfl) ?_;by_cases hb:b=ib
  ·have Fj:r=X1 s l:=by rw[HR.out];simp only[if_pos hb]
   have HC:=hdq (Lk _ _ H1.out);have c2:=JV _ _ H1.out;have MZ:X1 {s with left:=l} l=X1 s l:=RB l l;clear HR;subst hb;rcases G2:X1 s l with⟨h1|b1,l1⟩<;>cases b;all_goals
    have hq:∀w2,BgSt C oc {s with left:=l1} w2->Fr (λb=>b=C.R) w1 w2->TruQ C oc s r W (zb8 (X1 s l).1) w2:=λw2 hs hf=>by rw[Fj,G2];exact⟨rfl,hs,Hs.trans hf⟩
    rw[G2]at hq;have HQ:=hdq hq;have Zc:=hdq MZ;have qp:=hdq G2;clear hq Fj MZ G2;go_wp2_with fail;refine HC.mono ?_;rw[show X1 {s with left:=l} ({s with left:=l}:Bs).left =X1 s l from Zc.out,qp.out];rintro e w2 ⟨rfl,GR,He⟩
    first
     |exact⟨rfl,HQ _ GR He⟩
     |(have HE:=hdq (HQ _ GR He)
       clear GR He;unfold zb8;go_wp2_with fail;go_ret;exact HE.out)
  ·have Fj:r=(.inr b,l):=by rw[HR.out];simp only[if_neg hb]
   have c0:=(HS _ _ H1.out).1;have HQ:=hdq (show TruQ C oc s r W (.returned (.bool b)) w1 by rw[Fj];exact⟨rfl,Nn.out,Hs.out⟩);clear HR Fj;cases b<;>cases ib<;>first|exact absurd rfl hb|skip
   all_goals
    clear hb;go_wp2_with fail;go_ret;exact HQ.out
def cpV (k at_:Int)(X0 X1:Bs->Ho ⊕ Int):Bs->Tru:=λs l=>match l with
 |0=>(.inl ⟨2,0,at_⟩,0)
 |l+1=>match X0 s with
  | .inl h=>(.inl h,l)
  | .inr a=>match X1 s with
   | .inl h=>(.inl h,l)
   | .inr b=>(.inr (cmpB k a b),l)
theorem RunAt.cts {W:World}{oc:List Nat}{nb:Nat}{s:Bs}{p i:Nat}{ty:TypeId}{cs:Array Value}(h:RunAt C lo hi w W ps oc nb s)(ho:C.Ok)(hT:C.T<=lo)(Gy:PgAt C w)(hp:Bx lo hi w p 69 #[.pointer (some ⟨C.P,0,none⟩)])(hq:Bx lo hi w q ty cs)(hi:cs[i]?=some (.int .i64 at_)):CtS C p q i at_ W:=
 ⟨(h.bx ho hT hp).cell 0,(Gy.run ho h).p.cell 0,((h.bx ho hT hq).cell i).trans hi⟩
theorem tru_4 {p x1 x2:Nat}{v1 v2:Value}{X0 X1:Bs->Ho ⊕ Int}(ho:C.Ok)(hT:C.T<=lo)(Gy:PgAt C w)(hp:Bx lo hi w p 69 #[.pointer (some ⟨C.P,0,none⟩)])(hq:Bx lo hi w q 179 #[.int .u8 k,.slice A l c,.slice A2 l2 c2,.int .i64 at_])(h1:Bx lo hi w x1 278 #[v1])(h2:Bx lo hi w x2 278 #[v2])
  (FN:ValP C ps v1 X0 lo hi w) (Ka:ValP C ps v2 X1 lo hi w) (MS:∀s a,X0 {s with left:=a}=X0 s) (QB:∀s a,X1 {s with left:=a}=X1 s):
  TruP C ps (.func (.func 182) #[] #[.pointer (some ⟨p,0,none⟩),.pointer (some ⟨q,0,none⟩),.pointer (some ⟨x1,0,none⟩),.pointer (some ⟨x2,0,none⟩)]) (cpV k at_ X0 X1) lo hi w:=by
 obtain⟨g1,ye,rfl,F8,Hk⟩:=FN;obtain⟨g2,yg,rfl,KZ,Hq⟩:=Ka;refine⟨_,_,rfl,enters_of Tryz.func182 (by kernel_rfl) rfl,λW oc nb s h=>?_⟩;have hW:=h.fr0 ho (Fr.refl NoT W).drew;have HS:=hdq (λW' t (h':RunAt C lo hi w W' ps oc nb t)=>h'.cts ho hT Gy hp hq (i:=3) rfl);have HC:=hdq (λW' t (h':RunAt C lo hi w W' ps oc nb t)=>zbO h'.st ho at_);have FW:=hdq (λW' t (h':RunAt C lo hi w W' ps oc nb t)=>Hk W' oc nb t h');have Lk:=hdq (λW' t (h':RunAt C lo hi w W' ps oc nb t)=>Hq W' oc nb t h');have Gs:=hdq (λW' t (h':RunAt C lo hi w W' ps oc nb t)=>(h'.bx ho hT h1).cell 0);have HP:=hdq (λW' t (h':RunAt C lo hi w W' ps oc nb t)=>(show CpS q x2 k (.func (.func g2) #[] yg) W' from⟨(h'.bx ho hT hq).cell 0,(h'.bx ho hT h2).cell 0⟩));have KN:=hdq (λW' W2 t (h':RunAt C lo hi w W' ps oc nb t) (hf:Fr NoT W' W2)=>h'.fr0 ho hf);have V6:=hdq (MS s);have RB:=hdq (QB s);have HW:=hdq hW;unfold Enters at F8 KZ;obtain⟨r,hr⟩:=nmq (cpV k at_ X0 X1 s s.left);show Calls Tryz.prog 182 #[.map (some nb),.pointer (some ⟨p,0,none⟩),.pointer (some ⟨q,0,none⟩),.pointer (some ⟨x1,0,none⟩),.pointer (some ⟨x2,0,none⟩)] W (TruQ C oc s (cpV k at_ X0 X1 s s.left) W)
 rw[<-hr];have HR:=hdq hr;obtain⟨P,hP⟩:=nmq C.P;obtain⟨R,hR⟩:=nmq C.R;rw[<-hR]at HC;clear Hk Hq hq hp h1 h2 hT MS QB h hW Gy hr ho hP;go_enter Tryz.func182,Tryz.ntmps182;go_wp2_with fail;refine zad (CtS C p q 3 at_) (λ_=>true) (by kernel_rfl) (HS _ _ HW.out) (λhHeld=>?_);refine zaa 4 ?_;simp only[putsL];refine zac 0 (v:=?_) rfl (by kernel_rfl) (λ_ _ _ h=>h) hHeld (by rfl) ?_ ?_;rotate_left
 ·intro wz Hn;(try dsimp only[AoS,CpS,CtS]at Hn);go_simp;try with_reducible rfl
 try simp only[putsL]
 refine zac 5 (v:=?_) rfl (by kernel_rfl) (λ_ _ _ h=>h) hHeld (by rfl) ?_ ?_;rotate_left
 ·intro wz Hn;(try dsimp only[AoS,CpS,CtS]at Hn);go_simp;try with_reducible rfl
 try simp only[putsL]
 refine zaa 1 ?_;simp only[putsL];refine zaa 2 ?_;simp only[putsL];refine zac 3 (v:=?_) rfl (by kernel_rfl) (λ_ _ _ h=>h) hHeld (by rfl) ?_ ?_;rotate_left
 ·intro wz Hn;(try dsimp only[AoS,CpS,CtS]at Hn);go_simp;try with_reducible rfl
 try simp only[putsL]
 refine zab 6 rfl (by kernel_rfl) (λKK hK=>?_);go_simp;go_at_call 110;rw[<-hR];refine(HC _ _ HW.out).mono ?_;rintro e w1 (⟨h0,rfl,rfl⟩|⟨m,hm,rfl,Fc,Hg⟩)
 ·have Fj:r=(.inl ⟨2,0,at_⟩,0):=by rw[HR.out,h0];rfl
  rw[Fj];exact⟨rfl,rfl,by have:=HW.st;show BgSt C oc {s with left:=0} _;rw[<-h0];exact this,(Fr.refl _ _).drew⟩
 have F5:RunAt C lo hi w w1 ps oc nb {s with left:=m}:=HW.next Hg.toO Fc (by show m<=s.left;omega);have H1:=hdq F5;have Hs:=hdq (show Fr (λb=>b=C.R) W w1 from(Fr.refl _ _).drew.trans Hg);have GB:=hdq (show r=cpV k at_ X0 X1 s (m+1) by rw[HR.out,hm]);have c3:=Gs _ _ F5;clear Fc Hg F5 hm HR HC hR hHeld;try dsimp only
 refine hK _ _ (λ_ _=>HS _ _ H1.out) ?_;clear hK KK;try simp only[putsL]
 refine zaf (by kernel_rfl) ?_;go_wp2_with fail;refine(FW _ _ H1.out).mono ?_;rintro e w2 ⟨he,He⟩;rw[V6.out]at he;rcases JD:X0 s with V1|a
 ·rw[JD]at he;obtain rfl:=he;have JY:r=(.inl V1,m):=by rw[GB.out];simp only[cpV,JD]
  rw[JY];exact⟨rfl,rfl,(KN _ _ _ H1.out He).st,Hs.trans He.any⟩
 rw[JD]at he;obtain⟨rfl,ha⟩:=he;have H2:=hdq (KN _ _ _ H1.out He.drew);have Hv:=hdq (show Fr (λb=>b=C.R) W w2.drew from Hs.trans He.drew.any);have HX:=hdq JD;clear He ha JD FW c3;go_wp2_with fail;refine zad (CpS q x2 k (.func (.func g2) #[] yg)) (λ_=>true) (by kernel_rfl) (HP _ _ H2.out) (λhHeld=>?_);refine zaa 0 ?_;simp only[putsL];refine zaa 2 ?_;simp only[putsL];refine zaa 4 ?_;simp only[putsL];refine zac 1 (v:=?_) rfl (by kernel_rfl) (λ_ _ _ h=>h) hHeld (by rfl) ?_ ?_;rotate_left
 ·intro wz Hn;(try dsimp only[AoS,CpS,CtS]at Hn);go_simp;try with_reducible rfl
 try simp only[putsL]
 refine zac 3 (v:=?_) rfl (by kernel_rfl) (λ_ _ _ h=>h) hHeld (by rfl) ?_ ?_;rotate_left
 ·intro wz Hn;(try dsimp only[AoS,CpS,CtS]at Hn);go_simp;try with_reducible rfl
 try simp only[putsL]
 refine zab 5 rfl (by kernel_rfl) (λKK hK=>?_);go_simp;refine(Lk _ _ H2.out).mono ?_;rintro e w3 ⟨he,Ga⟩;rw[RB.out]at he;rcases G2:X1 s with Y7|b
 ·rw[G2]at he;obtain rfl:=he;have JY:r=(.inl Y7,m):=by rw[GB.out];simp only[cpV,HX.out,G2]
  rw[JY];exact⟨rfl,rfl,(KN _ _ _ H2.out Ga).st,Hv.trans Ga.any⟩
 rw[G2]at he;obtain⟨rfl,hb⟩:=he;have H3:=hdq (KN _ _ _ H2.out Ga);have JY:r=(.inr (cmpB k a b),m):=by rw[GB.out];simp only[cpV,HX.out,G2]
 have HQ:=hdq (show TruQ C oc s r W (.returned (.bool (cmpB k a b))) w3 by rw[JY];exact⟨rfl,H3.st,Hv.trans Ga.any⟩);have qq:=hdq (zgN k a b w3);clear Ga hb G2 JY GB;try dsimp only
 refine hK _ _ (λ_ _=>HP _ _ H3.out) ?_;clear hK KK;try simp only[putsL]
 refine zab 6 rfl (by kernel_rfl) (λKK hK=>?_);go_simp;go_at_call 89;refine qq.mono ?_;rintro _ w4 ⟨rfl,rfl⟩;try dsimp only
 refine hK _ _ (λ_ h=>h) ?_;clear hK KK;try simp only[putsL]
 refine zaa 7 ?_;simp only[putsL];refine zaa 8 ?_;simp only[putsL];refine zaa 10 ?_;simp only[putsL];refine zaa 9 ?_;simp only[putsL];refine zaa 11 ?_;simp only[putsL];refine zaf (by kernel_rfl) ?_;go_wp2_with fail;go_ret;exact HQ.out
end
def hdC (k:Int)(args:Exs)(of_:Cds):Prop:=(1<=k/\k<=11)/\(k=9->of_.len=1)/\(k=10\/k=11->of_.len=2)/\(3<=k->k<=8->args.len=2)
def wfCb (n:Bn)(ps:List (List UInt8)):Cds->Prop
 | .nil =>True
 | .cons k args of_ _ r=>hdC k args of_/\wfX n ps args/\wfCb n ps of_/\wfCb n ps r
def MkT (C:BgC)(ps:List (List UInt8))(X:Bs->Tru)(W:World)(e:Ending)(w':World):Prop:=∃val,e= .returned val/\Fr NoT W w'/\TruP C ps val X W.heap.size w'.heap.size w'
def truS (n:Bn)(ps:List (List UInt8))(k:Int)(args:Exs)(of_:Cds)(at_:Int):Bs->Tru:=λs=>truF n ps s k args (truC n ps s of_) at_
def CndC (C:BgC)(ps:List (List UInt8))(k:Int)(args:Exs)(of_:Cds)(at_:Int):Prop:=
 ∀(W:World)(S:Nat->Prop)(Z:Prop)(A A2:Option Addr)(c c2:Nat),C.T<=W.heap.size->PgAt C W->(∀x,S x->x < C.B)->SlR (λb o=>ExR W S Z args b o) args.len 64 A c->SlR (λb o=>CdR W S Z of_ b o) of_.len 64 A2 c2->
  Calls Tryz.prog 107 #[.pointer (some ⟨C.P,0,none⟩),.agg #[.int .u8 k,.slice A args.len c,.slice A2 of_.len c2,.int .i64 at_]] W (MkT C ps (truS C.n ps k args of_ at_) W)
def zdr (C:BgC)(W:World)(k:Int)(A A2:Option Addr)(l c l2 c2:Nat)(at_:Int):World:=(W.alloc (.cells #[.pointer (some ⟨C.P,0,none⟩)] 69)).alloc (.cells #[.int .u8 k,.slice A l c,.slice A2 l2 c2,.int .i64 at_] 179)
structure bgBxC (C:BgC)(W w:World)(k:Int)(A A2:Option Addr)(l c l2 c2:Nat)(at_:Int):Prop where
 fr:Fr NoT W w
 p:Bk w W.heap.size 69 #[.pointer (some ⟨C.P,0,none⟩)]
 q:Bk w (W.heap.size+1) 179 #[.int .u8 k,.slice A l c,.slice A2 l2 c2,.int .i64 at_]
section
variable {C:BgC} {ps:List (List UInt8)} {W w w':World} {k:Int} {A A2:Option Addr} {l c l2 c2:Nat} {at_:Int}
theorem zfD:bgBxC C W (zdr C W k A A2 l c l2 c2 at_) k A A2 l c l2 c2 at_:=⟨((Fr.refl _ _).alloc _).alloc _,(Bk.new _ _ _).alloc _,Bk.new_at _ _ _ (by simp)⟩
theorem bgBxC.next (h:bgBxC C W w k A A2 l c l2 c2 at_)(hf:Fr NoT w w'):bgBxC C W w' k A A2 l c l2 c2 at_:=⟨h.fr.trans hf,h.p.fr0 hf,h.q.fr0 hf⟩
theorem bgBxC.bp (h:bgBxC C W w k A A2 l c l2 c2 at_):Bx W.heap.size w.heap.size w W.heap.size 69 #[.pointer (some ⟨C.P,0,none⟩)]:=⟨h.p,lrq _,h.p.lt⟩
theorem bgBxC.bq (h:bgBxC C W w k A A2 l c l2 c2 at_):Bx W.heap.size w.heap.size w (W.heap.size+1) 179 #[.int .u8 k,.slice A l c,.slice A2 l2 c2,.int .i64 at_]:=⟨h.q,Nat.le_succ _,h.q.lt⟩
theorem TruP.eq {X Y:Bs->Tru}{val:Value}{lo hi:Nat}(h:TruP C ps val X lo hi w)(e:X=Y):TruP C ps val Y lo hi w:=e▸h
theorem zep (n:Bn)(ps:List (List UInt8))(k args of_ at_)(s:Bs)(l:Nat):(truS n ps k args of_ at_ s l).2 <=l:=zga (zcN n ps s of_) l
theorem znS (n:Bn)(ps:List (List UInt8))(k args of_ at_)(s:Bs)(a l:Nat):truS n ps k args of_ at_ {s with left:=a} l=truS n ps k args of_ at_ s l:=by
 unfold truS;rw[zfr,zjX]
theorem zkD (n:Bn)(ps:List (List UInt8))(k nm m at_ args)(s:Bs)(a:Nat):valH n ps k nm m at_ args {s with left:=a}=valH n ps k nm m at_ args s:=by
 unfold valH;rw[zbB];rfl
theorem zoN (n:Bn)(ps:List (List UInt8))(k:Int)(hk:k=1\/k=2)(args of_ at_):(λ_ l=>(.inr (k==1),l))=truS n ps k args of_ at_:=by
 funext s l
 rcases hk with rfl|rfl<;>rfl
theorem zoO (n:Bn)(ps:List (List UInt8))(args at_ k0 a0 o0 t0):ntV (truS n ps k0 a0 o0 t0)=truS n ps 9 args (.cons k0 a0 o0 t0 .nil) at_:=rfl
theorem znT (n:Bn)(ps:List (List UInt8))(k:Int)(hk:k=10\/k=11)(args at_ k0 a0 o0 t0 k1 a1 o1 t1):aoV k (truS n ps k0 a0 o0 t0) (truS n ps k1 a1 o1 t1)=truS n ps k args (.cons k0 a0 o0 t0 (.cons k1 a1 o1 t1 .nil)) at_:=by
 funext s l
 rcases hk with rfl|rfl
 ·show aoV 10 (truS n ps k0 a0 o0 t0) (truS n ps k1 a1 o1 t1) s l=(match truS n ps k0 a0 o0 t0 s l with|(.inr true,l)=>truS n ps k1 a1 o1 t1 s l|r=>r)
  unfold aoV;rcases truS n ps k0 a0 o0 t0 s l with⟨h|(_|_),q⟩<;>rfl
 ·show aoV 11 (truS n ps k0 a0 o0 t0) (truS n ps k1 a1 o1 t1) s l=(match truS n ps k0 a0 o0 t0 s l with|(.inr false,l)=>truS n ps k1 a1 o1 t1 s l|r=>r)
  unfold aoV;rcases truS n ps k0 a0 o0 t0 s l with⟨h|(_|_),q⟩<;>rfl
theorem zmo (n:Bn)(ps:List (List UInt8))(k:Int)(h3:3<=k)(h8:k<=8)(of_ at_ k0 n0 m0 a0 t0 k1 n1 m1 a1 t1):cpV k at_ (valH n ps k0 n0 m0 t0 a0) (valH n ps k1 n1 m1 t1 a1)=truS n ps k (.cons k0 n0 m0 a0 t0 (.cons k1 n1 m1 a1 t1 .nil)) of_ at_:=by
 funext s l
 have e:truS n ps k (.cons k0 n0 m0 a0 t0 (.cons k1 n1 m1 a1 t1 .nil)) of_ at_ s l=(match l with
  |0=>(.inl ⟨2,0,at_⟩,0)
  |left+1=>match valL n ps s (.cons k0 n0 m0 a0 t0 (.cons k1 n1 m1 a1 t1 .nil))with
   | .inl h=>(.inl h,left)
   | .inr l=>(.inr (cmpB k (l.getD 0 0) (l.getD 1 0)),left)):=by
  unfold truS truF;rw[if_neg (by omega),if_neg (by omega),if_neg (by omega),if_neg (by omega),if_neg (by omega)];cases l<;>rfl
 rw[e];cases l with
 |zero=>rfl
 |succ q=>
  simp only[cpV];rw[zfC,zbP];rcases valH n ps k0 n0 m0 t0 a0 s with h|x
  ·rfl
  ·rcases valH n ps k1 n1 m1 t1 a1 s with h|y<;>rfl
theorem zmp (ho:C.Ok)(args:Exs)(of_:Cds)(hk:k=1\/k=2):CndC C ps k args of_ at_:=by
 intro W S Z A A2 c c2 hT Gy hS hx GC;have hB:=zfD (C:=C) (W:=W) (k:=k) (A:=A) (A2:=A2) (l:=args.len) (c:=c) (l2:=of_.len) (c2:=c2) (at_:=at_);obtain⟨l,hl⟩:=nmq args.len;obtain⟨l2,Fp⟩:=nmq of_.len;rw[<-hl,<-Fp]at hB ⊢;have HV:=hdq ((tru_1 (ps:=ps) ho hT hB.bq).eq (zoN C.n ps k hk args of_ at_));have HF:=hdq hB.fr;unfold zdr at HV HF;clear hT Gy hS hx GC hB hl Fp;rcases hk with rfl|rfl;all_goals
  go_enter Tryz.func107,Tryz.ntmps107;go_wp2_with fail;go_ret;exact⟨_,rfl,HF.out,HV.out⟩
end
def CxS (p q b o:Nat)(P A2:Option Addr)(l2 c2:Nat)(v0 v1 v2 v3:Value)(W:World):Prop:=W.cell? ⟨p,0,none⟩=some (.pointer P)/\W.cell? ⟨q,2,none⟩=some (.slice A2 l2 c2)/\W.cell? ⟨b,o,none⟩=some v0/\W.cell? ⟨b,o+1,none⟩=some v1/\W.cell? ⟨b,o+2,none⟩=some v2/\W.cell? ⟨b,o+3,none⟩=some v3
def C11 (p q b o:Nat)(P A2:Option Addr)(l2 c2:Nat)(v0 v1 v2 v3 u0 u1 u2 u3:Value)(W:World):Prop:=CxS p q b o P A2 l2 c2 v0 v1 v2 v3 W/\W.cell? ⟨b,o+4,none⟩=some u0/\W.cell? ⟨b,o+4+1,none⟩=some u1/\W.cell? ⟨b,o+4+2,none⟩=some u2/\W.cell? ⟨b,o+4+3,none⟩=some u3
def CyS (p q b o:Nat)(P A:Option Addr)(l c:Nat)(v0 v1 v2 v3 v4 u0 u1 u2 u3 u4:Value)(W:World):Prop:=(W.cell? ⟨p,0,none⟩=some (.pointer P)/\W.cell? ⟨q,1,none⟩=some (.slice A l c)/\W.cell? ⟨b,o,none⟩=some v0/\W.cell? ⟨b,o+1,none⟩=some v1/\W.cell? ⟨b,o+2,none⟩=some v2/\W.cell? ⟨b,o+3,none⟩=some v3/\W.cell? ⟨b,o+4,none⟩=some v4)/\
 W.cell? ⟨b,o+5,none⟩=some u0/\W.cell? ⟨b,o+5+1,none⟩=some u1/\W.cell? ⟨b,o+5+2,none⟩=some u2/\W.cell? ⟨b,o+5+3,none⟩=some u3/\W.cell? ⟨b,o+5+4,none⟩=some u4
abbrev SlT:=Value->Nat->Nat->World->Prop
def Stb (C:BgC)(g:SlT):Prop:=∀v lo hi w w',Later C lo hi w w'->g v lo hi w->g v lo hi w'
def slo1 (g0:SlT):Nat->Option SlT
 |0=>some g0
 |_=>none
def slo2 (g0 g1:SlT):Nat->Option SlT
 |0=>some g0
 |1=>some g1
 |_=>none
theorem znU {C:BgC}{g0:SlT}(h0:Stb C g0):∀p g,slo1 g0 p=some g->Stb C g
 |0,g,e=>by cases e;exact h0
 |p+1,g,e=>by cases e
theorem zg8 {C:BgC}{g0 g1:SlT}(h0:Stb C g0)(h1:Stb C g1):∀p g,slo2 g0 g1 p=some g->Stb C g
 |0,g,e=>by cases e;exact h0
 |1,g,e=>by cases e;exact h1
 |p+2,g,e=>by cases e
def slT (C:BgC)(ps:List (List UInt8))(X:Bs->Tru):SlT:=λv lo hi w=>TruP C ps v X lo hi w
def zkE (C:BgC)(ps:List (List UInt8))(X:Bs->Ho ⊕ Int):SlT:=λv lo hi w=>ValP C ps v X lo hi w
theorem zgy {C:BgC}{ps:List (List UInt8)}{X:Bs->Tru}:Stb C (slT C ps X):=λ_ _ _ _ _ hl h=>TruP.later h hl
theorem zm2 {C:BgC}{ps:List (List UInt8)}{X:Bs->Ho ⊕ Int}:Stb C (zkE C ps X):=λ_ _ _ _ _ hl h=>ValP.later h hl
def tyK (t:TypeId):Nat->TypeId:=λ_=>t
theorem TruP.func {C:BgC}{ps:List (List UInt8)}{v:Value}{X:Bs->Tru}{lo hi:Nat}{w:World}(h:TruP C ps v X lo hi w):∃g caps,v= .func (.func g) #[] caps:=by
 obtain⟨g,caps,e,_⟩:=h;exact⟨g,caps,e⟩
theorem ValP.func {C:BgC}{ps:List (List UInt8)}{v:Value}{X:Bs->Ho ⊕ Int}{lo hi:Nat}{w:World}(h:ValP C ps v X lo hi w):∃g caps,v= .func (.func g) #[] caps:=by
 obtain⟨g,caps,e,_⟩:=h;exact⟨g,caps,e⟩
def vaAll:List Bool->Bool:=λ_=>true
def znV:List Bool->Bool:=λbs=> !bs.getD 1 false || bs.getD 0 false
theorem znW (C:BgC)(ps:List (List UInt8))(ho:C.Ok)(args:Exs)(of_:Cds)(at_:Int)(k0 a0 o0 t0)(e:of_= .cons k0 a0 o0 t0 .nil)(h0:CndC C ps k0 a0 o0 t0):CndC C ps 9 args of_ at_:=by
 intro W S Z A A2 c c2 hT Gy hS hx GC;obtain⟨bb,oo,rfl,Hh⟩:=GC.2.2 (by rw[e];simp[Cds.len]);rw[e]at Hh;obtain⟨⟨Gh,_,_,_,e0,e3⟩,⟨A3,c3,e1,s1⟩,⟨A4,c4,e2,s2⟩,_⟩:=Hh;obtain⟨l,hl⟩:=nmq args.len;obtain⟨l2,Fp⟩:=nmq of_.len;have V7:0 < l2:=by rw[Fp,e];simp[Cds.len]
 have V8:l2<=9223372036854775807:=by rw[Fp];exact leq9 GC.1 GC.2.1.1
 obtain⟨l3,Jx⟩:=nmq a0.len;obtain⟨l4,Ku⟩:=nmq o0.len;rw[<-Jx]at e1;rw[<-Ku]at e2;obtain⟨w2,HJ⟩:=nmq (zdr C W 9 A (some ⟨bb,oo,none⟩) l c l2 c2 at_);have hB:bgBxC C W w2 9 A (some ⟨bb,oo,none⟩) l c l2 c2 at_:=by rw[HJ];exact zfD
 have Fa:C.B<=W.heap.size:=by have h1:=ho.br;have h2:=ho.rT;omega
 have G7:bb < W.heap.size:=ltq (hS _ Gh) Fa;have F9:C.T<=w2.drew.heap.size:=leq9 hT hB.fr.size;have Fe:∀w',Fr NoT W w'->SameS S W w':=λw' hf=>hf.same λb hb=>⟨ltq (hS b hb) Fa,id⟩;have Gq:∀w',Fr NoT W w'->PgAt C w':=λw' hf=>Gy.later ho (Later.of0 (lo:=0) (hi:=0) hf (Nat.zero_le _) hT);have Hw:∀w',Fr NoT W w'->_:=λw' hf=>h0 w' S Z A3 A4 c3 c4 (leq9 hT hf.size) (Gq w' hf) hS (s1.imp λ_ _ hx=>ExR.keep (Fe w' hf) hx) (s2.imp λ_ _ hx=>CdR.keep (Fe w' hf) hx);have GR:∀w',Fr NoT w2 w'->CxS W.heap.size (W.heap.size+1) bb oo (some ⟨C.P,0,none⟩) (some ⟨bb,oo,none⟩) l2 c2 (.int .u8 k0) (.slice A3 l3 c3) (.slice A4 l4 c4) (.int .i64 t0) w':=λw' hf=>
  have He:=hB.fr.trans hf
  ⟨(hB.next hf).p.cell 0,(hB.next hf).q.cell 2,(He.cell G7 id).trans e0,(He.cell G7 id).trans e1,(He.cell G7 id).trans e2,(He.cell G7 id).trans e3⟩
 have Ha:∀w7 x1 v1 yh G0,Fr NoT W w7->Bx W.heap.size w7.heap.size w7 x1 223 #[v1]->TruP C ps v1 (truS C.n ps k0 a0 o0 t0) yh G0 w7->W.heap.size<=yh->G0<=w7.heap.size->MkT C ps (truS C.n ps 9 args of_ at_) W (.returned (.func (.func 180) #[] #[.pointer (some ⟨x1,0,none⟩)])) w7:=by
  intro w7 x1 v1 yh G0 Hp G2 FN MQ Qx;refine⟨_,rfl,Hp,(tru_2 ho hT G2 (FN.wide MQ Qx)).eq ?_⟩;rw[e];exact zoO ..
 have JV:=hdq GR;rw[<-Jx,<-Ku]at Hw;have HC:=hdq Hw;have HB:=hdq hB;have FG:=hdq Ha;unfold zdr at HJ;have HW:=hdq HJ;have GJ:=hdq F9;rw[<-hl,<-Fp];obtain⟨X0,MS⟩:=nmq (truS C.n ps k0 a0 o0 t0);rw[<-MS]at HC FG;have JE:=hdq (znU (g0:=slT C ps X0) zgy);clear GR Hw hB Ha HJ F9 hS Gh Fa hT e hl Fp Fe Gq hx GC Gy e0 e1 e2 e3 s1 s2 Jx Ku G7 h0 MS;go_enter Tryz.func107,Tryz.ntmps107;go_wp2_with fail;rw[<-HW.out];refine zad (CxS W.heap.size (W.heap.size+1) bb oo (some ⟨C.P,0,none⟩) (some ⟨bb,oo,none⟩) l2 c2 (.int .u8 k0) (.slice A3 l3 c3) (.slice A4 l4 c4) (.int .i64 t0)) (λi=>decide (i < 7)) (by kernel_rfl) (JV _ (Fr.refl _ _).drew) (λhHeld=>?_);refine zaa 1 ?_;simp only[putsL];refine zac 0 (v:=?_) rfl (by kernel_rfl) (λ_ _ _ h=>h) hHeld (by rfl) ?_ ?_;rotate_left
 ·intro wz Hn;(try dsimp only[CxS,CyS,ExS]at Hn);go_simp;try with_reducible rfl
 try simp only[putsL]
 refine zac 2 (v:=?_) rfl (by kernel_rfl) (λ_ _ _ h=>h) hHeld (by rfl) ?_ ?_;rotate_left
 ·intro wz Hn;(try dsimp only[CxS,CyS,ExS]at Hn);go_simp;try with_reducible rfl
 try simp only[putsL]
 refine zaa 3 ?_;simp only[putsL];refine zac 4 (v:=?_) rfl (by kernel_rfl) (λ_ _ _ h=>h) hHeld (by rfl) ?_ ?_;rotate_left
 ·intro wz Hn;(try dsimp only[CxS,CyS,ExS]at Hn);go_simp;try with_reducible rfl
 try simp only[putsL]
 refine zbI 2 [5,6] [23,5] vaAll (λo w=>ManyI w2.drew (PpG C (slo1 (slT C ps X0)) (tyK 223)) o w) rfl (by decide) (by kernel_rfl) rfl (λo w h=>JV _ ((Fr.refl _ _).drew.trans h.fr)) (by kernel_rfl) rfl (λo w p i hI JZ Ff Fy KM=>?_) (λo w hI JZ Ha=>?_) (ManyI.zero _ _)
 ·obtain⟨a,b,rfl⟩:=zm0 JZ;rcases p with _|_|p
  ·simp at Ff Fy;subst Ff Fy;cases b;all_goals
    simp only[putM,Act.put,List.setIfInBounds_toArray,List.set_cons_zero,List.set_cons_succ];refine wpOp_step (zak rfl) (λKK hK=>?_);go_simp;go_at_call 107;refine(HC w ((HB.fr.trans (Fr.refl NoT w2).drew).trans hI.fr)).mono ?_;rintro _ w5 ⟨v0,rfl,Hj,F4⟩;try dsimp only
    refine hK _ _ ?_;exact⟨v0,by kernel_rfl,hI.put (p:=0) GJ.out Hj (PpG.on JE.out) ⟨F4,lrq _,leq9 GJ.out (leq9 hI.fr.size Hj.size)⟩⟩
  ·simp at Ff Fy;subst Ff Fy;cases a;all_goals
    simp only[putM,Act.put,List.setIfInBounds_toArray,List.set_cons_zero,List.set_cons_succ];refine wpOp_step (zak rfl) (λKK hK=>?_);go_simp;refine hK _ _ ?_;exact⟨_,by kernel_rfl,hI.lay (p:=1) GJ.out (PpG.on JE.out) (λv lo hi w h=>h)⟩
  ·simp at Ff
 ·obtain⟨u,v,rfl⟩:=zkA JZ Ha;obtain⟨gg,cps,rfl⟩:∃gg cps,u= .func (.func gg) #[] cps:=by
   obtain⟨_,_,h9,_⟩:=hI.at_ (p:=0) rfl;exact TruP.func h9.1
  obtain⟨u,hu⟩:=nmq (Value.func (.func gg) #[] cps);rw[<-hu]at hI;obtain⟨g,rfl,hg,Lb⟩:=hI.place (p:=1) (ty:=223) (z:= .nilFunc) rfl (λ_ _ _ _ h=>h);have h7:=hI.set (p:=1) (ty:=223) (z:= .nilFunc) GJ.out (PpG.on JE.out) rfl (λ_ _ _ _ h=>h) u;obtain⟨yh,G0,GY,Qy,Qz⟩:=h7.at_ (p:=0) rfl;have GY:TruP C ps u X0 yh G0 _:=GY.1;have MQ:W.heap.size<=w2.drew.heap.size:=HB.fr.size;have Nw:Bk (w.setCell ⟨g,0,none⟩ u) g 223 #[u]:=by simpa using Lb.set_ 0 u
  have Hp:=(HB.fr.trans (Fr.refl NoT w2).drew).trans h7.fr;have HE:=hdq (FG _ g u yh G0 Hp ⟨Nw,leq9 MQ hg,Nw.lt⟩ GY (leq9 MQ Qy) Qz);have Sv:=Lb.cell 0;have NO:=Lb.frozen 0;have KL:=Lb.lt;simp only[getsL]at Sv;simp only[putM,Act.put,List.setIfInBounds_toArray,List.set_cons_zero,List.set_cons_succ];subst hu;clear hI h7 GY Qy Qz Lb Nw Hp hHeld hg MQ Ha JZ;refine zab 7 rfl (by kernel_rfl) (λKK hK=>?_);go_simp;refine hK _ _ (λh=>absurd h (by decide)) ?_;clear hK KK;try simp only[putsL]
  refine zaf (by kernel_rfl) ?_;go_wp2_with fail;go_ret;exact HE.out
theorem znX (C:BgC)(ps:List (List UInt8))(ho:C.Ok)(k:Int)(hk:k=10\/k=11)(args:Exs)(of_:Cds)(at_:Int)(k0 a0 o0 t0 k1 a1 o1 t1)(e:of_= .cons k0 a0 o0 t0 (.cons k1 a1 o1 t1 .nil))(h0:CndC C ps k0 a0 o0 t0)(h1:CndC C ps k1 a1 o1 t1):CndC C ps k args of_ at_:=by
 intro W S Z A A2 c c2 hT Gy hS hx GC;obtain⟨bb,oo,rfl,Hh⟩:=GC.2.2 (by rw[e];simp[Cds.len]);rw[e]at Hh;obtain⟨⟨Gh,_,_,_,e0,e3⟩,⟨A3,c3,e1,s1⟩,⟨A4,c4,e2,s2⟩,MR⟩:=Hh;obtain⟨⟨_,_,_,_,f0,f3⟩,⟨A5,c5,f1,s3⟩,⟨A6,c6,f2,s4⟩,_⟩:=MR;obtain⟨l,hl⟩:=nmq args.len;obtain⟨l2,Fp⟩:=nmq of_.len;have V7:1 < l2:=by rw[Fp,e];simp[Cds.len]
 have V4:0 < l2:=by omega
 have Zd:(1:Int) < (l2:Int):=by omega
 have V8:l2<=9223372036854775807:=by rw[Fp];exact leq9 GC.1 GC.2.1.1
 obtain⟨l3,Jx⟩:=nmq a0.len;obtain⟨l5,Jf⟩:=nmq a1.len;obtain⟨l4,Ku⟩:=nmq o0.len;obtain⟨l6,FU⟩:=nmq o1.len;rw[<-Jx]at e1;rw[<-Ku]at e2;rw[<-Jf]at f1;rw[<-FU]at f2;obtain⟨w2,HJ⟩:=nmq (zdr C W k A (some ⟨bb,oo,none⟩) l c l2 c2 at_);have hB:bgBxC C W w2 k A (some ⟨bb,oo,none⟩) l c l2 c2 at_:=by rw[HJ];exact zfD
 have Fa:C.B<=W.heap.size:=by have h1:=ho.br;have h2:=ho.rT;omega
 have G7:bb < W.heap.size:=ltq (hS _ Gh) Fa;have F9:C.T<=w2.drew.heap.size:=leq9 hT hB.fr.size;have Fe:∀w',Fr NoT W w'->SameS S W w':=λw' hf=>hf.same λb hb=>⟨ltq (hS b hb) Fa,id⟩;have Gq:∀w',Fr NoT W w'->PgAt C w':=λw' hf=>Gy.later ho (Later.of0 (lo:=0) (hi:=0) hf (Nat.zero_le _) hT);have GT:∀w',Fr NoT W w'->_:=λw' hf=>h0 w' S Z A3 A4 c3 c4 (leq9 hT hf.size) (Gq w' hf) hS (s1.imp λ_ _ hx=>ExR.keep (Fe w' hf) hx) (s2.imp λ_ _ hx=>CdR.keep (Fe w' hf) hx);have Hk:∀w',Fr NoT W w'->_:=λw' hf=>h1 w' S Z A5 A6 c5 c6 (leq9 hT hf.size) (Gq w' hf) hS (s3.imp λ_ _ hx=>ExR.keep (Fe w' hf) hx) (s4.imp λ_ _ hx=>CdR.keep (Fe w' hf) hx);have GR:∀w',Fr NoT w2 w'->C11 W.heap.size (W.heap.size+1) bb oo (some ⟨C.P,0,none⟩) (some ⟨bb,oo,none⟩) l2 c2 (.int .u8 k0) (.slice A3 l3 c3) (.slice A4 l4 c4) (.int .i64 t0) (.int .u8 k1) (.slice A5 l5 c5) (.slice A6 l6 c6) (.int .i64 t1) w':=λw' hf=>
  have He:=hB.fr.trans hf
  ⟨⟨(hB.next hf).p.cell 0,(hB.next hf).q.cell 2,(He.cell G7 id).trans e0,(He.cell G7 id).trans e1,(He.cell G7 id).trans e2,(He.cell G7 id).trans e3⟩,(He.cell G7 id).trans f0,(He.cell G7 id).trans f1,(He.cell G7 id).trans f2,(He.cell G7 id).trans f3⟩
 have Ha:∀w7 x1 x2 v1 v2 yh G0 yk Je,Fr NoT w2 w7->Bk w7 x1 223 #[v1]->w2.heap.size<=x1->Bk w7 x2 223 #[v2]->w2.heap.size<=x2->TruP C ps v1 (truS C.n ps k0 a0 o0 t0) yh G0 w7->w2.heap.size<=yh->G0<=w7.heap.size->TruP C ps v2 (truS C.n ps k1 a1 o1 t1) yk Je w7->w2.heap.size<=yk->Je<=w7.heap.size->
   MkT C ps (truS C.n ps k args of_ at_) W (.returned (.func (.func 181) #[] #[.pointer (some ⟨x1,0,none⟩),.pointer (some ⟨W.heap.size+1,0,none⟩),.pointer (some ⟨x2,0,none⟩)])) w7:=by
  intro w7 x1 x2 v1 v2 yh G0 yk Je Jc G2 F8 GC KZ FN Fg Jg Ka FC JH;have Hp:=hB.fr.trans Jc;have Px:=hB.next Jc;have h2:=hB.fr.size;have Fg:=leq9 h2 Fg;have FC:=leq9 h2 FC;have G2:Bx W.heap.size w7.heap.size w7 x1 223 #[v1]:=⟨G2,leq9 h2 F8,G2.lt⟩;have GC:Bx W.heap.size w7.heap.size w7 x2 223 #[v2]:=⟨GC,leq9 h2 KZ,GC.lt⟩;refine⟨_,rfl,Hp,(tru_3 ho hT hk Px.bq G2 GC (FN.wide Fg Jg) (Ka.wide FC JH) (zep _ _ _ _ _ _) (znS _ _ _ _ _ _)).eq ?_⟩;rw[e];exact znT _ _ _ hk _ _ _ _ _ _ _ _ _ _
 have JV:=hdq GR;rw[<-Jx,<-Ku]at GT;rw[<-Jf,<-FU]at Hk;have QC:=hdq GT;have FW:=hdq Hk;have HB:=hdq hB;have FG:=hdq Ha;unfold zdr at HJ;have HW:=hdq HJ;have GJ:=hdq F9;rw[<-hl,<-Fp];obtain⟨X0,MS⟩:=nmq (truS C.n ps k0 a0 o0 t0);obtain⟨X1,QB⟩:=nmq (truS C.n ps k1 a1 o1 t1);rw[<-MS]at QC FG;rw[<-QB]at FW FG;have JE:=hdq (zg8 (g0:=slT C ps X0) (g1:=slT C ps X1) zgy zgy);have q1:(k==1)=false:=by simp;omega
 have q2:(k==2)=false:=by simp;omega
 have q9:(k==9)=false:=by simp;omega
 have qs:(k==10)=true\/(k==10)=false/\(k==11)=true:=by rcases hk with rfl|rfl<;>simp
 clear GR GT Hk hB Ha HJ F9 hS Gh Fa hT e hl Fp Fe Gq hx GC Gy e0 e1 e2 e3 f0 f1 f2 f3 s1 s3 Jx Jf G7 h0 h1 MS QB s2 s4 Ku FU hk;rcases qs with yT|⟨yT,zJ⟩;all_goals
  go_enter Tryz.func107,Tryz.ntmps107;go_wp2_with fail;rw[<-HW.out];refine zad (C11 W.heap.size (W.heap.size+1) bb oo (some ⟨C.P,0,none⟩) (some ⟨bb,oo,none⟩) l2 c2 (.int .u8 k0) (.slice A3 l3 c3) (.slice A4 l4 c4) (.int .i64 t0) (.int .u8 k1) (.slice A5 l5 c5) (.slice A6 l6 c6) (.int .i64 t1)) (λi=>decide (i < 15)) (by kernel_rfl) (JV _ (Fr.refl _ _).drew) (λhHeld=>?_);refine zaa 1 ?_;simp only[putsL];refine zaa 7 ?_;simp only[putsL];refine zac 0 (v:=?_) rfl (by kernel_rfl) (λ_ _ _ h=>h) hHeld (by rfl) ?_ ?_;rotate_left
  ·intro wz Hn;(try dsimp only[C11,CxS,CyS]at Hn);go_simp;try with_reducible rfl
  try simp only[putsL]
  refine zac 2 (v:=?_) rfl (by kernel_rfl) (λ_ _ _ h=>h) hHeld (by rfl) ?_ ?_;rotate_left
  ·intro wz Hn;(try dsimp only[C11,CxS,CyS]at Hn);go_simp;try with_reducible rfl
  try simp only[putsL]
  refine zac 6 (v:=?_) rfl (by kernel_rfl) (λ_ _ _ h=>h) hHeld (by rfl) ?_ ?_;rotate_left
  ·intro wz Hn;(try dsimp only[C11,CxS,CyS]at Hn);go_simp;try with_reducible rfl
  try simp only[putsL]
  refine zac 8 (v:=?_) rfl (by kernel_rfl) (λ_ _ _ h=>h) hHeld (by rfl) ?_ ?_;rotate_left
  ·intro wz Hn;(try dsimp only[C11,CxS,CyS]at Hn);go_simp;try with_reducible rfl
  try simp only[putsL]
  refine zaa 3 ?_;simp only[putsL];refine zaa 9 ?_;simp only[putsL];refine zac 4 (v:=?_) rfl (by kernel_rfl) (λ_ _ _ h=>h) hHeld (by rfl) ?_ ?_;rotate_left
  ·intro wz Hn;(try dsimp only[C11,CxS,CyS]at Hn);go_simp;try with_reducible rfl
  try simp only[putsL]
  refine zac 10 (v:=?_) rfl (by kernel_rfl) (λ_ _ _ h=>h) hHeld (by rfl) ?_ ?_;rotate_left
  ·intro wz Hn;(try dsimp only[C11,CxS,CyS]at Hn);go_simp;try with_reducible rfl
  try simp only[putsL]
  refine zbI 4 [5,11,12,13] [33,39,6,7] znV (λo w=>ManyI w2.drew (PpG C (slo2 (slT C ps X0) (slT C ps X1)) (tyK 223)) o w) rfl (by decide) (by kernel_rfl) rfl (λo w h=>JV _ ((Fr.refl _ _).drew.trans h.fr)) (by kernel_rfl) rfl (λo w p i hI JZ Ff Fy KM=>?_) (λo w hI JZ Ha=>?_) (ManyI.zero _ _)
  ·obtain⟨a,b,c,d,rfl⟩:=zg7 JZ;rcases p with _|_|_|_|p
   ·simp at Ff Fy;subst Ff Fy;cases b<;>cases c<;>cases d<;>try exact absurd KM (by decide)
    all_goals
     simp only[putM,Act.put,List.setIfInBounds_toArray,List.set_cons_zero,List.set_cons_succ];refine wpOp_step (zak rfl) (λKK hK=>?_);go_simp;go_at_call 107;refine(QC w ((HB.fr.trans (Fr.refl NoT w2).drew).trans hI.fr)).mono ?_;rintro _ w5 ⟨v0,rfl,Hj,F4⟩;try dsimp only
     refine hK _ _ ?_;exact⟨v0,by kernel_rfl,hI.put (p:=0) GJ.out Hj (PpG.on JE.out) ⟨F4,lrq _,leq9 GJ.out (leq9 hI.fr.size Hj.size)⟩⟩
   ·simp at Ff Fy;subst Ff Fy;cases a<;>cases c<;>cases d<;>try exact absurd KM (by decide)
    all_goals
     simp only[putM,Act.put,List.setIfInBounds_toArray,List.set_cons_zero,List.set_cons_succ];refine wpOp_step (zak rfl) (λKK hK=>?_);go_simp;go_at_call 107;refine(FW w ((HB.fr.trans (Fr.refl NoT w2).drew).trans hI.fr)).mono ?_;rintro _ w5 ⟨v0,rfl,Hj,F4⟩;try dsimp only
     refine hK _ _ ?_;exact⟨v0,by kernel_rfl,hI.put (p:=1) GJ.out Hj (PpG.on JE.out) ⟨F4,lrq _,leq9 GJ.out (leq9 hI.fr.size Hj.size)⟩⟩
   ·simp at Ff Fy;subst Ff Fy;cases a<;>cases b<;>cases d<;>try exact absurd KM (by decide)
    all_goals
     simp only[putM,Act.put,List.setIfInBounds_toArray,List.set_cons_zero,List.set_cons_succ];refine wpOp_step (zak rfl) (λKK hK=>?_);go_simp;refine hK _ _ ?_;exact⟨_,by kernel_rfl,hI.lay (p:=2) GJ.out (PpG.on JE.out) (λv lo hi w h=>h)⟩
   ·simp at Ff Fy;subst Ff Fy;cases a<;>cases b<;>cases c<;>try exact absurd KM (by decide)
    all_goals
     simp only[putM,Act.put,List.setIfInBounds_toArray,List.set_cons_zero,List.set_cons_succ];refine wpOp_step (zak rfl) (λKK hK=>?_);go_simp;refine hK _ _ ?_;exact⟨_,by kernel_rfl,hI.lay (p:=3) GJ.out (PpG.on JE.out) (λv lo hi w h=>h)⟩
   ·simp at Ff
  ·obtain⟨u,v,y1,y2,rfl⟩:=zfA JZ Ha;obtain⟨gg,cps,hu⟩:∃gg cps,u= .func (.func gg) #[] cps:=by
    obtain⟨_,_,h9,_⟩:=hI.at_ (p:=0) rfl;exact TruP.func h9.1
   obtain⟨xi,zr,hv⟩:∃gg cps,v= .func (.func gg) #[] cps:=by
    obtain⟨_,_,h9,_⟩:=hI.at_ (p:=1) rfl;exact TruP.func h9.1
   obtain⟨g,rfl,hg,Lb⟩:=hI.place (p:=2) (ty:=223) (z:= .nilFunc) rfl (λ_ _ _ _ h=>h);obtain⟨g',rfl,V9,Lc⟩:=hI.place (p:=3) (ty:=223) (z:= .nilFunc) rfl (λ_ _ _ _ h=>h);have Gc:=hI.two (p:=2) (q:=3) (ty:=223) (z:= .nilFunc) (ty':=223) (z':= .nilFunc) (by decide) rfl rfl (λ_ _ _ _ h=>h) (λ_ _ _ _ h=>h);have h7:=hI.set (p:=2) (ty:=223) (z:= .nilFunc) GJ.out (PpG.on JE.out) rfl (λ_ _ _ _ h=>h) u;have h8:=h7.set (p:=3) (ty:=223) (z:= .nilFunc) GJ.out (ze7 (PpG.on JE.out) _ _ _) rfl (λ_ _ _ _ h=>h) v;obtain⟨yh,G0,Kb,Fg,Jg⟩:=h8.at_ (p:=0) rfl;obtain⟨yk,Je,JG,FC,JH⟩:=h8.at_ (p:=1) rfl;have Kb:TruP C ps u X0 yh G0 _:=Kb.1;have JG:TruP C ps v X1 yk Je _:=JG.1;have F0:Bk ((w.setCell ⟨g,0,none⟩ u).setCell ⟨g',0,none⟩ v) g 223 #[u]:=Bk.far (by simpa using Lb.set_ 0 u) Gc _;have FK:Bk ((w.setCell ⟨g,0,none⟩ u).setCell ⟨g',0,none⟩ v) g' 223 #[v]:=by simpa using (Lc.far (p:=⟨g,0,none⟩) (Ne.symm Gc) u).set_ 0 v
   have HE:=hdq (FG _ g g' u v yh G0 yk Je ((Fr.refl NoT w2).drew.trans h8.fr) F0 hg FK V9 Kb Fg Jg JG FC JH);have TO:=hdq (JV _ ((Fr.refl NoT w2).drew.trans h7.fr));have Sv:=Lb.cell 0;have NO:=Lb.frozen 0;have KL:=Lb.lt;have UO:=Lc.cell 0;have qr:=Lc.frozen 0;have XH:=Lc.lt;have Wa:=Ne.symm Gc;simp only[getsL]at Sv UO;simp only[putM,Act.put,List.setIfInBounds_toArray,List.set_cons_zero,List.set_cons_succ];subst hu hv;clear hI h7 h8 Kb JG Fg FC Jg JH Lb Lc F0 FK hHeld hg V9 Ha JZ;refine zab 14 rfl (by kernel_rfl) (λKK hK=>?_);go_simp;refine hK _ _ (λ_ _=>TO.out) ?_;clear hK KK;try simp only[putsL]
   refine zab 15 rfl (by kernel_rfl) (λKK hK=>?_);go_simp;refine hK _ _ (λh=>absurd h (by decide)) ?_;clear hK KK;try simp only[putsL]
   refine zaf (by kernel_rfl) ?_;go_wp2_with fail;go_ret;exact HE.out
theorem znY (C:BgC)(ps:List (List UInt8))(ho:C.Ok)(k:Int)(FV:3<=k)(J8:k<=8)(args:Exs)(of_:Cds)(at_:Int)(k0 n0 m0 a0 t0 k1 n1 m1 a1 t1)(e:args= .cons k0 n0 m0 a0 t0 (.cons k1 n1 m1 a1 t1 .nil))(h0:ExpC C ps k0 n0 m0 a0 t0)(h1:ExpC C ps k1 n1 m1 a1 t1):CndC C ps k args of_ at_:=by
 intro W S Z A A2 c c2 hT Gy hS hx GC;obtain⟨bb,oo,rfl,Hh⟩:=hx.2.2 (by rw[e];simp[Exs.len]);rw[e]at Hh;obtain⟨⟨Gh,_,_,GK,_,e0,e1,e2,e4⟩,⟨A3,c3,e3,s1⟩,MR⟩:=Hh;obtain⟨⟨_,_,_,Jq,_,f0,f1,f2,f4⟩,⟨A5,c5,f3,s3⟩,_⟩:=MR;obtain⟨l,hl⟩:=nmq args.len;obtain⟨l2,Fp⟩:=nmq of_.len;have V7:1 < l:=by rw[hl,e];simp[Exs.len]
 have V4:0 < l:=by omega
 have Zd:(1:Int) < (l:Int):=by omega
 have V8:l<=9223372036854775807:=by rw[hl];exact leq9 hx.1 hx.2.1.1
 obtain⟨l3,Jx⟩:=nmq a0.len;obtain⟨l5,Jf⟩:=nmq a1.len;rw[<-Jx]at e3;rw[<-Jf]at f3;obtain⟨w2,HJ⟩:=nmq (zdr C W k (some ⟨bb,oo,none⟩) A2 l c l2 c2 at_);have hB:bgBxC C W w2 k (some ⟨bb,oo,none⟩) A2 l c l2 c2 at_:=by rw[HJ];exact zfD
 have Fa:C.B<=W.heap.size:=by have h1:=ho.br;have h2:=ho.rT;omega
 have G7:bb < W.heap.size:=ltq (hS _ Gh) Fa;have F9:C.T<=w2.drew.heap.size:=leq9 hT hB.fr.size;have Fe:∀w',Fr NoT W w'->SameS S W w':=λw' hf=>hf.same λb hb=>⟨ltq (hS b hb) Fa,id⟩;have Gq:∀w',Fr NoT W w'->PgAt C w':=λw' hf=>Gy.later ho (Later.of0 (lo:=0) (hi:=0) hf (Nat.zero_le _) hT);have GT:∀w',Fr NoT W w'->_:=λw' hf=>h0 w' S Z A3 c3 (leq9 hT hf.size) (Gq w' hf) hS GK (s1.imp λ_ _ hx=>ExR.keep (Fe w' hf) hx);have Hk:∀w',Fr NoT W w'->_:=λw' hf=>h1 w' S Z A5 c5 (leq9 hT hf.size) (Gq w' hf) hS Jq (s3.imp λ_ _ hx=>ExR.keep (Fe w' hf) hx);have GR:∀w',Fr NoT w2 w'->CyS W.heap.size (W.heap.size+1) bb oo (some ⟨C.P,0,none⟩) (some ⟨bb,oo,none⟩) l c (.int .u8 k0) (.string n0) (.int .i64 m0) (.slice A3 l3 c3) (.int .i64 t0) (.int .u8 k1) (.string n1) (.int .i64 m1) (.slice A5 l5 c5) (.int .i64 t1) w':=λw' hf=>
  have He:=hB.fr.trans hf
  ⟨⟨(hB.next hf).p.cell 0,(hB.next hf).q.cell 1,(He.cell G7 id).trans e0,(He.cell G7 id).trans e1,(He.cell G7 id).trans e2,(He.cell G7 id).trans e3,(He.cell G7 id).trans e4⟩,(He.cell G7 id).trans f0,(He.cell G7 id).trans f1,(He.cell G7 id).trans f2,(He.cell G7 id).trans f3,(He.cell G7 id).trans f4⟩
 have Ha:∀w7 x1 x2 v1 v2 yh G0 yk Je,Fr NoT w2 w7->Bk w7 x1 278 #[v1]->w2.heap.size<=x1->Bk w7 x2 278 #[v2]->w2.heap.size<=x2->ValP C ps v1 (valH C.n ps k0 n0 m0 t0 a0) yh G0 w7->w2.heap.size<=yh->G0<=w7.heap.size->ValP C ps v2 (valH C.n ps k1 n1 m1 t1 a1) yk Je w7->w2.heap.size<=yk->Je<=w7.heap.size->
   MkT C ps (truS C.n ps k args of_ at_) W (.returned (.func (.func 182) #[] #[.pointer (some ⟨W.heap.size,0,none⟩),.pointer (some ⟨W.heap.size+1,0,none⟩),.pointer (some ⟨x1,0,none⟩),.pointer (some ⟨x2,0,none⟩)])) w7:=by
  intro w7 x1 x2 v1 v2 yh G0 yk Je Jc G2 F8 GC KZ FN Fg Jg Ka FC JH;have Hp:=hB.fr.trans Jc;have Px:=hB.next Jc;have h2:=hB.fr.size;have Fg:=leq9 h2 Fg;have FC:=leq9 h2 FC;have G2:Bx W.heap.size w7.heap.size w7 x1 278 #[v1]:=⟨G2,leq9 h2 F8,G2.lt⟩;have GC:Bx W.heap.size w7.heap.size w7 x2 278 #[v2]:=⟨GC,leq9 h2 KZ,GC.lt⟩;refine⟨_,rfl,Hp,(tru_4 ho hT (Gq _ Hp) Px.bp Px.bq G2 GC (FN.wide Fg Jg) (Ka.wide FC JH) (zkD _ _ _ _ _ _ _) (zkD _ _ _ _ _ _ _)).eq ?_⟩;rw[e];exact zmo _ _ _ FV J8 _ _ _ _ _ _ _ _ _ _ _ _
 have JV:=hdq GR;rw[<-Jx]at GT;rw[<-Jf]at Hk;have QC:=hdq GT;have FW:=hdq Hk;have HB:=hdq hB;have FG:=hdq Ha;unfold zdr at HJ;have HW:=hdq HJ;have GJ:=hdq F9;rw[<-hl,<-Fp];obtain⟨X0,MS⟩:=nmq (valH C.n ps k0 n0 m0 t0 a0);obtain⟨X1,QB⟩:=nmq (valH C.n ps k1 n1 m1 t1 a1);rw[<-MS]at QC FG;rw[<-QB]at FW FG;have JE:=hdq (zg8 (g0:=zkE C ps X0) (g1:=zkE C ps X1) zm2 zm2);have q1:(k==1)=false:=by simp;omega
 have q2:(k==2)=false:=by simp;omega
 have q9:(k==9)=false:=by simp;omega
 have yT:(k==10)=false:=by simp;omega
 have zJ:(k==11)=false:=by simp;omega
 clear GR GT Hk hB Ha HJ F9 hS Gh Fa hT e hl Fp Fe Gq hx GC Gy e0 e1 e2 e3 f0 f1 f2 f3 s1 s3 Jx Jf G7 h0 h1 MS QB e4 f4 GK Jq FV J8;go_enter Tryz.func107,Tryz.ntmps107;go_wp2_with fail;rw[<-HW.out];refine zad (CyS W.heap.size (W.heap.size+1) bb oo (some ⟨C.P,0,none⟩) (some ⟨bb,oo,none⟩) l c (.int .u8 k0) (.string n0) (.int .i64 m0) (.slice A3 l3 c3) (.int .i64 t0) (.int .u8 k1) (.string n1) (.int .i64 m1) (.slice A5 l5 c5) (.int .i64 t1)) (λi=>decide (i < 15)) (by kernel_rfl) (JV _ (Fr.refl _ _).drew) (λhHeld=>?_);refine zaa 1 ?_;simp only[putsL];refine zaa 7 ?_;simp only[putsL];refine zac 0 (v:=?_) rfl (by kernel_rfl) (λ_ _ _ h=>h) hHeld (by rfl) ?_ ?_;rotate_left
 ·intro wz Hn;(try dsimp only[C11,CxS,CyS]at Hn);go_simp;try with_reducible rfl
 try simp only[putsL]
 refine zac 2 (v:=?_) rfl (by kernel_rfl) (λ_ _ _ h=>h) hHeld (by rfl) ?_ ?_;rotate_left
 ·intro wz Hn;(try dsimp only[C11,CxS,CyS]at Hn);go_simp;try with_reducible rfl
 try simp only[putsL]
 refine zac 6 (v:=?_) rfl (by kernel_rfl) (λ_ _ _ h=>h) hHeld (by rfl) ?_ ?_;rotate_left
 ·intro wz Hn;(try dsimp only[C11,CxS,CyS]at Hn);go_simp;try with_reducible rfl
 try simp only[putsL]
 refine zac 8 (v:=?_) rfl (by kernel_rfl) (λ_ _ _ h=>h) hHeld (by rfl) ?_ ?_;rotate_left
 ·intro wz Hn;(try dsimp only[C11,CxS,CyS]at Hn);go_simp;try with_reducible rfl
 try simp only[putsL]
 refine zaa 3 ?_;simp only[putsL];refine zaa 9 ?_;simp only[putsL];refine zac 4 (v:=?_) rfl (by kernel_rfl) (λ_ _ _ h=>h) hHeld (by rfl) ?_ ?_;rotate_left
 ·intro wz Hn;(try dsimp only[C11,CxS,CyS]at Hn);go_simp;try with_reducible rfl
 try simp only[putsL]
 refine zac 10 (v:=?_) rfl (by kernel_rfl) (λ_ _ _ h=>h) hHeld (by rfl) ?_ ?_;rotate_left
 ·intro wz Hn;(try dsimp only[C11,CxS,CyS]at Hn);go_simp;try with_reducible rfl
 try simp only[putsL]
 refine zbI 4 [5,11,12,13] [46,52,8,9] znV (λo w=>ManyI w2.drew (PpG C (slo2 (zkE C ps X0) (zkE C ps X1)) (tyK 278)) o w) rfl (by decide) (by kernel_rfl) rfl (λo w h=>JV _ ((Fr.refl _ _).drew.trans h.fr)) (by kernel_rfl) rfl (λo w p i hI JZ Ff Fy KM=>?_) (λo w hI JZ Ha=>?_) (ManyI.zero _ _)
 ·obtain⟨a,b,c,d,rfl⟩:=zg7 JZ;rcases p with _|_|_|_|p
  ·simp at Ff Fy;subst Ff Fy;cases b<;>cases c<;>cases d<;>try exact absurd KM (by decide)
   all_goals
    simp only[putM,Act.put,List.setIfInBounds_toArray,List.set_cons_zero,List.set_cons_succ];refine wpOp_step (zak rfl) (λKK hK=>?_);go_simp;go_at_call 175;refine(QC w ((HB.fr.trans (Fr.refl NoT w2).drew).trans hI.fr)).mono ?_;rintro _ w5 ⟨v0,rfl,Hj,F4⟩;try dsimp only
    refine hK _ _ ?_;exact⟨v0,by kernel_rfl,hI.put (p:=0) GJ.out Hj (PpG.on JE.out) ⟨F4,lrq _,leq9 GJ.out (leq9 hI.fr.size Hj.size)⟩⟩
  ·simp at Ff Fy;subst Ff Fy;cases a<;>cases c<;>cases d<;>try exact absurd KM (by decide)
   all_goals
    simp only[putM,Act.put,List.setIfInBounds_toArray,List.set_cons_zero,List.set_cons_succ];refine wpOp_step (zak rfl) (λKK hK=>?_);go_simp;go_at_call 175;refine(FW w ((HB.fr.trans (Fr.refl NoT w2).drew).trans hI.fr)).mono ?_;rintro _ w5 ⟨v0,rfl,Hj,F4⟩;try dsimp only
    refine hK _ _ ?_;exact⟨v0,by kernel_rfl,hI.put (p:=1) GJ.out Hj (PpG.on JE.out) ⟨F4,lrq _,leq9 GJ.out (leq9 hI.fr.size Hj.size)⟩⟩
  ·simp at Ff Fy;subst Ff Fy;cases a<;>cases b<;>cases d<;>try exact absurd KM (by decide)
   all_goals
    simp only[putM,Act.put,List.setIfInBounds_toArray,List.set_cons_zero,List.set_cons_succ];refine wpOp_step (zak rfl) (λKK hK=>?_);go_simp;refine hK _ _ ?_;exact⟨_,by kernel_rfl,hI.lay (p:=2) GJ.out (PpG.on JE.out) (λv lo hi w h=>h)⟩
  ·simp at Ff Fy;subst Ff Fy;cases a<;>cases b<;>cases c<;>try exact absurd KM (by decide)
   all_goals
    simp only[putM,Act.put,List.setIfInBounds_toArray,List.set_cons_zero,List.set_cons_succ];refine wpOp_step (zak rfl) (λKK hK=>?_);go_simp;refine hK _ _ ?_;exact⟨_,by kernel_rfl,hI.lay (p:=3) GJ.out (PpG.on JE.out) (λv lo hi w h=>h)⟩
  ·simp at Ff
 ·obtain⟨u,v,y1,y2,rfl⟩:=zfA JZ Ha;obtain⟨gg,cps,hu⟩:∃gg cps,u= .func (.func gg) #[] cps:=by
   obtain⟨_,_,h9,_⟩:=hI.at_ (p:=0) rfl;exact ValP.func h9.1
  obtain⟨xi,zr,hv⟩:∃gg cps,v= .func (.func gg) #[] cps:=by
   obtain⟨_,_,h9,_⟩:=hI.at_ (p:=1) rfl;exact ValP.func h9.1
  obtain⟨g,rfl,hg,Lb⟩:=hI.place (p:=2) (ty:=278) (z:= .nilFunc) rfl (λ_ _ _ _ h=>h);obtain⟨g',rfl,V9,Lc⟩:=hI.place (p:=3) (ty:=278) (z:= .nilFunc) rfl (λ_ _ _ _ h=>h);have Gc:=hI.two (p:=2) (q:=3) (ty:=278) (z:= .nilFunc) (ty':=278) (z':= .nilFunc) (by decide) rfl rfl (λ_ _ _ _ h=>h) (λ_ _ _ _ h=>h);have h7:=hI.set (p:=2) (ty:=278) (z:= .nilFunc) GJ.out (PpG.on JE.out) rfl (λ_ _ _ _ h=>h) u;have h8:=h7.set (p:=3) (ty:=278) (z:= .nilFunc) GJ.out (ze7 (PpG.on JE.out) _ _ _) rfl (λ_ _ _ _ h=>h) v;obtain⟨yh,G0,Kb,Fg,Jg⟩:=h8.at_ (p:=0) rfl;obtain⟨yk,Je,JG,FC,JH⟩:=h8.at_ (p:=1) rfl;have Kb:ValP C ps u X0 yh G0 _:=Kb.1;have JG:ValP C ps v X1 yk Je _:=JG.1;have F0:Bk ((w.setCell ⟨g,0,none⟩ u).setCell ⟨g',0,none⟩ v) g 278 #[u]:=Bk.far (by simpa using Lb.set_ 0 u) Gc _;have FK:Bk ((w.setCell ⟨g,0,none⟩ u).setCell ⟨g',0,none⟩ v) g' 278 #[v]:=by simpa using (Lc.far (p:=⟨g,0,none⟩) (Ne.symm Gc) u).set_ 0 v
  have HE:=hdq (FG _ g g' u v yh G0 yk Je ((Fr.refl NoT w2).drew.trans h8.fr) F0 hg FK V9 Kb Fg Jg JG FC JH);have TO:=hdq (JV _ ((Fr.refl NoT w2).drew.trans h7.fr));have Sv:=Lb.cell 0;have NO:=Lb.frozen 0;have KL:=Lb.lt;have UO:=Lc.cell 0;have qr:=Lc.frozen 0;have XH:=Lc.lt;have Wa:=Ne.symm Gc;simp only[getsL]at Sv UO;simp only[putM,Act.put,List.setIfInBounds_toArray,List.set_cons_zero,List.set_cons_succ];subst hu hv;clear hI h7 h8 Kb JG Fg FC Jg JH Lb Lc F0 FK hHeld hg V9 Ha JZ;refine zab 14 rfl (by kernel_rfl) (λKK hK=>?_);go_simp;refine hK _ _ (λ_ _=>TO.out) ?_;clear hK KK;try simp only[putsL]
  refine zab 15 rfl (by kernel_rfl) (λKK hK=>?_);go_simp;refine hK _ _ (λh=>absurd h (by decide)) ?_;clear hK KK;try simp only[putsL]
  refine zaf (by kernel_rfl) ?_;go_wp2_with fail;go_ret;exact HE.out
theorem znZ (C:BgC)(ps:List (List UInt8))(ho:C.Ok)(k:Int)(args:Exs)(of_:Cds)(at_:Int)(hd:hdC k args of_)(hX:∀i k0 n0 m0 a0 t0 r0,Exs.drop i args= .cons k0 n0 m0 a0 t0 r0->ExpC C ps k0 n0 m0 a0 t0)(h:∀i k0 a0 o0 t0 r0,Cds.drop i of_= .cons k0 a0 o0 t0 r0->CndC C ps k0 a0 o0 t0):CndC C ps k args of_ at_:=by
 obtain⟨⟨h1,Q5⟩,h9,Jn,h3⟩:=hd;by_cases k2:k<=2
 ·exact zmp ho args of_ (by omega)
 by_cases k8:k<=8
 ·have hl:=h3 (by omega) k8
  match args,hl with
  | .cons k0 n0 m0 a0 t0 (.cons k1 n1 m1 a1 t1 .nil),_=>exact znY C ps ho k (by omega) k8 _ of_ at_ _ _ _ _ _ _ _ _ _ _ rfl (hX 0 _ _ _ _ _ _ rfl) (hX 1 _ _ _ _ _ _ rfl)
  | .nil,h=>simp[Exs.len]at h
  | .cons _ _ _ _ _ .nil,h=>simp[Exs.len]at h
  | .cons _ _ _ _ _ (.cons _ _ _ _ _ (.cons _ _ _ _ _ _)),h=>simp[Exs.len]at h
 by_cases k9:k=9
 ·subst k9;have hl:=h9 rfl
  match of_,hl with
  | .cons k0 a0 o0 t0 .nil,_=>exact znW C ps ho args _ at_ _ _ _ _ rfl (h 0 _ _ _ _ _ rfl)
  | .nil,h=>simp[Cds.len]at h
  | .cons _ _ _ _ (.cons _ _ _ _ _),h=>simp[Cds.len]at h
 ·have hk:k=10\/k=11:=by omega
  have hl:=Jn hk
  match of_,hl with
  | .cons k0 a0 o0 t0 (.cons k1 a1 o1 t1 .nil),_=>exact znX C ps ho k hk args _ at_ _ _ _ _ _ _ _ _ rfl (h 0 _ _ _ _ _ rfl) (h 1 _ _ _ _ _ rfl)
  | .nil,h=>simp[Cds.len]at h
  | .cons _ _ _ _ .nil,h=>simp[Cds.len]at h
  | .cons _ _ _ _ (.cons _ _ _ _ (.cons _ _ _ _ _)),h=>simp[Cds.len]at h
theorem zcl (C:BgC)(ps:List (List UInt8))(ho:C.Ok):∀xs:Cds,wfCb C.n ps xs->∀i k a o t r,Cds.drop i xs= .cons k a o t r->CndC C ps k a o t
 | .nil,_,i,_,_,_,_,_,h=>by cases i<;>simp[Cds.drop]at h
 | .cons k args of_ at_ r,hw,0,k0,a0,o0,t0,r0,h=>by
  simp only[Cds.drop,Cds.cons.injEq]at h;obtain⟨rfl,rfl,rfl,rfl,_⟩:=h;exact znZ C ps ho _ _ _ _ hw.1 (zdE C ps ho _ hw.2.1) (zcl C ps ho _ hw.2.2.1)
 | .cons k args of_ at_ r,hw,i+1,k0,a0,o0,t0,r0,h=>by
  simp only[Cds.drop]at h;exact zcl C ps ho r hw.2.2.2 i _ _ _ _ _ h
