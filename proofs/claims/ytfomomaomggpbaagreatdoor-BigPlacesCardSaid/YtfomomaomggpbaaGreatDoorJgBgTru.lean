/- big. -/
import Derived.Test.YtfomomaomggpbaaGreatDoorJgBgExp
set_option linter.all false
set_option maxHeartbeats 6400000
set_option maxRecDepth 100000
namespace Go.Proofs.YtfomomaomggpbaaGreatDoor
open Go.RowKit Go.Shelf
def CtS (C:BgC)(p q i:Nat)(at_:Int)(W:World):Prop:=W.cell? ⟨p,0,none⟩=some (.pointer (some ⟨C.P,0,none⟩))/\W.cell? ⟨C.P,0,none⟩=some (.pointer (some ⟨C.R,0,none⟩))/\W.cell? ⟨q,i,none⟩=some (.int .i64 at_)
def AoS (q x1:Nat)(k:Int)(v1:Value)(W:World):Prop:=W.cell? ⟨q,0,none⟩=some (.int .u8 k)/\W.cell? ⟨x1,0,none⟩=some v1
def CpS (q x2:Nat)(k:Int)(v2:Value)(W:World):Prop:=W.cell? ⟨q,0,none⟩=some (.int .u8 k)/\W.cell? ⟨x2,0,none⟩=some v2
section
variable {C:BgC} {ps:List (List UInt8)} {w:World} {lo hi q:Nat} {k:Int} {at_:Int} {A A2:Option Addr} {l c l2 c2:Nat}
theorem Fr.toO {oc:List Nat}{W W':World}(h:Fr (λb=>b=C.R) W W'):Fr (C.MutO oc) W W':=h.mono λi _ e=> .inl (.inl e)
theorem PgAt.run {W:World}{oc:List Nat}{nb:Nat}{s:Bs}(GE:PgAt C w)(ho:C.Ok)(h:RunAt C lo hi w W ps oc nb s):PgAt C W:=GE.later ho h.lat
theorem tru_1 (ho:C.Ok)(hT:C.T<=lo)(hq:Bx lo hi w q 179 #[.int .u8 k,.slice A l c,.slice A2 l2 c2,.int .i64 at_]):TruP C ps (.func (.func 179) #[] #[.pointer (some ⟨q,0,none⟩)]) (λ_ l=>(.inr (k==1),l)) lo hi w:=by
 refine⟨_,_,rfl,enters_of Tryz.func179 (by kernel_rfl) rfl,λW oc nb s h=>?_⟩;have c0:=(h.bx ho hT hq).cell 0;simp only[aD]at c0;obtain⟨b,hb⟩:=aF ((k==1));show Calls Tryz.prog 179 #[.map (some nb),.pointer (some ⟨q,0,none⟩)] W (TruQ C oc s (.inr (k==1),s.left) W)
 rw[<-hb];have HQ:=aA (show TruQ C oc s (.inr b,s.left) W (.returned (.bool b)) W from⟨rfl,h.st,aH⟩);have e1:=hb.symm;clear h hq hT ho hb;go_enter Tryz.func179,Tryz.ntmps179;go_wp2_with fail;go_ret;exact HQ.out
def ntV (X0:Bs->Tru):Bs->Tru:=λs l=>match X0 s l with
 |(.inr b,l)=>(.inr (!b),l)
 |(.inl h,l)=>(.inl h,l)
theorem tru_2 {x1:Nat}{v1:Value}{X0:Bs->Tru}(ho:C.Ok)(hT:C.T<=lo)(h1:Bx lo hi w x1 223 #[v1])(F5:TruP C ps v1 X0 lo hi w):TruP C ps (.func (.func 180) #[] #[.pointer (some ⟨x1,0,none⟩)]) (ntV X0) lo hi w:=by
 obtain⟨g1,xi,rfl,Jk,Hn⟩:=F5;refine⟨_,_,rfl,enters_of Tryz.func180 (by kernel_rfl) rfl,λW oc nb s h=>?_⟩;have c0:=(h.bx ho hT h1).cell 0;simp only[aD]at c0;have Fz:=aA (Hn W oc nb s h);unfold Enters at Jk;clear Hn h h1 ho hT;show Calls Tryz.prog 180 #[.map (some nb),.pointer (some ⟨x1,0,none⟩)] W (TruQ C oc s (ntV X0 s s.left) W)
 unfold ntV;rcases hx:X0 s s.left with⟨r|r,l⟩;all_goals
  rw[hx]at Fz;go_enter Tryz.func180,Tryz.ntmps180;go_wp2_with fail;refine Fz.mono ?_;rintro e w1 ⟨rfl,GV,Hd⟩
 ·exact⟨rfl,rfl,GV,Hd⟩
 ·have HS:=aA GV;have HF:=aA Hd;clear GV Hd c0 Fz hx Jk;unfold zce;go_wp2_with fail;go_ret;exact⟨rfl,HS.out,HF.out⟩
def aoV (k:Int)(X0 X1:Bs->Tru):Bs->Tru:=λs l=>match X0 s l with
 |(.inr b,l)=>if b=(k==10)then X1 s l else(.inr b,l)
 |(.inl h,l)=>(.inl h,l)
theorem tru_3 {x1 x2:Nat}{v1 v2:Value}{X0 X1:Bs->Tru}(ho:C.Ok)(hT:C.T<=lo)(hk:k=10\/k=11)(hq:Bx lo hi w q 179 #[.int .u8 k,.slice A l c,.slice A2 l2 c2,.int .i64 at_])(h1:Bx lo hi w x1 223 #[v1])(h2:Bx lo hi w x2 223 #[v2])(F5:TruP C ps v1 X0 lo hi w)(Kv:TruP C ps v2 X1 lo hi w)
  (hX:∀s l,(X0 s l).2 <=l) (Q8:∀s a l,X1 {s with left:=a} l=X1 s l):TruP C ps (.func (.func 181) #[] #[.pointer (some ⟨x1,0,none⟩),.pointer (some ⟨q,0,none⟩),.pointer (some ⟨x2,0,none⟩)]) (aoV k X0 X1) lo hi w:=by
 obtain⟨g1,xi,rfl,Jk,Hn⟩:=F5;obtain⟨g2,xj,rfl,Lz,Ht⟩:=Kv;refine⟨_,_,rfl,enters_of Tryz.func181 (by kernel_rfl) rfl,λW oc nb s h=>?_⟩;have hW:=h.fr0 ho (Fr.refl NoT W).drew;have hs:∀W' t,RunAt C lo hi w W' ps oc nb t->AoS q x1 k (.func (.func g1) #[] xi) W':=λW' t h'=>⟨(h'.bx ho hT hq).cell 0,(h'.bx ho hT h1).cell 0⟩;have GH:∀W' t,RunAt C lo hi w W' ps oc nb t->W'.cell? ⟨x2,0,none⟩=some (.func (.func g2) #[] xj):=λW' t h'=>(h'.bx ho hT h2).cell 0;have HS:=aA hs;have Ki:=aA GH;have HW:=aA hW;have Fz:=aA (Hn _ oc nb s hW);have LL:=aA (λW' t (h':RunAt C lo hi w W' ps oc nb t)=>Ht W' oc nb t h');have Us:=hX s s.left;have WQ:=Q8 s;unfold Enters at Jk Lz;obtain⟨r,hr⟩:=aF (aoV k X0 X1 s s.left);show Calls Tryz.prog 181 #[.map (some nb),.pointer (some ⟨x1,0,none⟩),.pointer (some ⟨q,0,none⟩),.pointer (some ⟨x2,0,none⟩)] W (TruQ C oc s (aoV k X0 X1 s s.left) W)
 rw[<-hr];unfold aoV at hr;have xZ:∃b,(k==10)=b/\(k==11)= !b:=⟨k==10,rfl,by rcases hk with rfl|rfl<;>rfl⟩;obtain⟨ib,xZ,Dm⟩:=xZ;rw[xZ]at hr;clear Hn Ht hs GH hq h1 h2 hT hk hX Q8 h hW;rcases hx:X0 s s.left with⟨h0|b,l⟩;all_goals
  rw[hx]at hr Fz Us;have Vw:=aA (show l<=s.left from Us);have R9:=aA WQ;have HR:=aA hr;clear hr Us WQ hx;go_enter Tryz.func181,Tryz.ntmps181;go_wp2_with fail;refine zad (AoS q x1 k (.func (.func g1) #[] xi)) (λ_=>true) (by kernel_rfl) (HS _ _ HW.out) (λaC=>?_);refine zaa 1 ?_;simp only[aB];refine zaa 3 ?_;simp only[aB];refine zac 0 aC ?_;simp only[aB];refine zac 4 aC ?_;simp only[aB];refine zaa 5 ?_;simp only[aB];refine zab 2 rfl (by kernel_rfl) (λKK hK=>?_);go_simp;refine Fz.mono ?_;rintro e w1 ⟨rfl,GV,Hd⟩
 ·rw[HR.out];exact⟨rfl,rfl,GV,aH.drew.trans Hd⟩
 ·have Jg:=HW.next Hd.toO GV Vw.out;have Ny:=aA GV;have Hl:=aA (show Fr (λb=>b=C.R) W w1 from aH.drew.trans Hd);have H1:=aA Jg;clear GV Hd Jg Fz aC;unfold zce;try dsimp only
  refine hK _ _ (λ_ _=>HS _ _ H1.out) ?_;clear hK KK;try simp only[aB]
  refine zaa 6 ?_;simp only[aB];refine zae (by kernel_rfl) ?_;by_cases hb:b=ib
  ·have GT:r=X1 s l:=by rw[HR.out];simp only[if_pos hb]
   have HC:=aA (LL _ _ H1.out);have c2:=Ki _ _ H1.out;have Nh:X1 {s with left:=l} l=X1 s l:=R9 l l;clear HR;subst hb;rcases Ff:X1 s l with⟨h1|b1,l1⟩<;>cases b;all_goals
    have hq:∀w2,BgSt C oc {s with left:=l1} w2->Fr (λb=>b=C.R) w1 w2->TruQ C oc s r W (zce (X1 s l).1) w2:=λw2 hs hf=>by rw[GT,Ff];exact⟨rfl,hs,Hl.trans hf⟩
    rw[Ff]at hq;have HQ:=aA hq;have gc:=aA Nh;have yd:=aA Ff;clear hq GT Nh Ff;go_wp2_with fail;refine HC.mono ?_;rw[show X1 {s with left:=l} ({s with left:=l}:Bs).left =X1 s l from gc.out,yd.out];rintro e w2 ⟨rfl,GH,He⟩
    first
     |exact⟨rfl,HQ _ GH He⟩
     |(have HE:=aA (HQ _ GH He)
       clear GH He;unfold zce;go_wp2_with fail;go_ret;exact HE.out)
  ·have GT:r=(.inr b,l):=by rw[HR.out];simp only[if_neg hb]
   have c0:=(HS _ _ H1.out).1;have HQ:=aA (show TruQ C oc s r W (.returned (.bool b)) w1 by rw[GT];exact⟨rfl,Ny.out,Hl.out⟩);clear HR GT;cases b<;>cases ib<;>first|exact absurd rfl hb|skip
   all_goals
    clear hb;go_wp2_with fail;go_ret;exact HQ.out
def cpV (k at_:Int)(X0 X1:Bs->Ho ⊕ Int):Bs->Tru:=λs l=>match l with
 |0=>(.inl ⟨2,0,at_⟩,0)
 |l+1=>match X0 s with
  | .inl h=>(.inl h,l)
  | .inr a=>match X1 s with
   | .inl h=>(.inl h,l)
   | .inr b=>(.inr (cmpB k a b),l)
theorem RunAt.cts {W:World}{oc:List Nat}{nb:Nat}{s:Bs}{p i:Nat}{ty:TypeId}{cs:Array Value}(h:RunAt C lo hi w W ps oc nb s)(ho:C.Ok)(hT:C.T<=lo)(GE:PgAt C w)(hp:Bx lo hi w p 69 #[.pointer (some ⟨C.P,0,none⟩)])(hq:Bx lo hi w q ty cs)(hi:cs[i]?=some (.int .i64 at_)):CtS C p q i at_ W:=
 ⟨(h.bx ho hT hp).cell 0,(GE.run ho h).p.cell 0,((h.bx ho hT hq).cell i).trans hi⟩
theorem tru_4 {p x1 x2:Nat}{v1 v2:Value}{X0 X1:Bs->Ho ⊕ Int}(ho:C.Ok)(hT:C.T<=lo)(GE:PgAt C w)(hp:Bx lo hi w p 69 #[.pointer (some ⟨C.P,0,none⟩)])(hq:Bx lo hi w q 179 #[.int .u8 k,.slice A l c,.slice A2 l2 c2,.int .i64 at_])(h1:Bx lo hi w x1 278 #[v1])(h2:Bx lo hi w x2 278 #[v2])
  (F5:ValP C ps v1 X0 lo hi w) (Kv:ValP C ps v2 X1 lo hi w) (M6:∀s a,X0 {s with left:=a}=X0 s) (Q8:∀s a,X1 {s with left:=a}=X1 s):
  TruP C ps (.func (.func 182) #[] #[.pointer (some ⟨p,0,none⟩),.pointer (some ⟨q,0,none⟩),.pointer (some ⟨x1,0,none⟩),.pointer (some ⟨x2,0,none⟩)]) (cpV k at_ X0 X1) lo hi w:=by
 obtain⟨g1,xi,rfl,Jk,Hn⟩:=F5;obtain⟨g2,xj,rfl,Lz,Ht⟩:=Kv;refine⟨_,_,rfl,enters_of Tryz.func182 (by kernel_rfl) rfl,λW oc nb s h=>?_⟩;have hW:=h.fr0 ho (Fr.refl NoT W).drew;have HS:=aA (λW' t (h':RunAt C lo hi w W' ps oc nb t)=>h'.cts ho hT GE hp hq (i:=3) rfl);have HC:=aA (λW' t (h':RunAt C lo hi w W' ps oc nb t)=>zbU h'.st ho at_);have Fz:=aA (λW' t (h':RunAt C lo hi w W' ps oc nb t)=>Hn W' oc nb t h');have LL:=aA (λW' t (h':RunAt C lo hi w W' ps oc nb t)=>Ht W' oc nb t h');have Gw:=aA (λW' t (h':RunAt C lo hi w W' ps oc nb t)=>(h'.bx ho hT h1).cell 0);have HP:=aA (λW' t (h':RunAt C lo hi w W' ps oc nb t)=>(show CpS q x2 k (.func (.func g2) #[] xj) W' from⟨(h'.bx ho hT hq).cell 0,(h'.bx ho hT h2).cell 0⟩));have La:=aA (λW' W2 t (h':RunAt C lo hi w W' ps oc nb t) (hf:Fr NoT W' W2)=>h'.fr0 ho hf);have WR:=aA (M6 s);have R9:=aA (Q8 s);have HW:=aA hW;unfold Enters at Jk Lz;obtain⟨r,hr⟩:=aF (cpV k at_ X0 X1 s s.left);show Calls Tryz.prog 182 #[.map (some nb),.pointer (some ⟨p,0,none⟩),.pointer (some ⟨q,0,none⟩),.pointer (some ⟨x1,0,none⟩),.pointer (some ⟨x2,0,none⟩)] W (TruQ C oc s (cpV k at_ X0 X1 s s.left) W)
 rw[<-hr];have HR:=aA hr;obtain⟨P,hP⟩:=aF C.P;obtain⟨R,hR⟩:=aF C.R;rw[<-hR]at HC;clear Hn Ht hq hp h1 h2 hT M6 Q8 h hW GE hr ho hP;go_enter Tryz.func182,Tryz.ntmps182;go_wp2_with fail;refine zad (CtS C p q 3 at_) (λ_=>true) (by kernel_rfl) (HS _ _ HW.out) (λaC=>?_);refine zaa 4 ?_;simp only[aB];refine zac 0 aC ?_;simp only[aB];refine zac 5 aC ?_;simp only[aB];refine zaa 1 ?_;simp only[aB];refine zaa 2 ?_;simp only[aB];refine zac 3 aC ?_;simp only[aB];refine zab 6 rfl (by kernel_rfl) (λKK hK=>?_);go_simp;go_at_call 110;rw[<-hR];refine(HC _ _ HW.out).mono ?_;rintro e w1 (⟨h0,rfl,rfl⟩|⟨m,hm,rfl,GV,Hd⟩)
 ·have GT:r=(.inl ⟨2,0,at_⟩,0):=by rw[HR.out,h0];rfl
  rw[GT];exact⟨rfl,rfl,by have:=HW.st;show BgSt C oc {s with left:=0} _;rw[<-h0];exact this,aH.drew⟩
 have Jg:RunAt C lo hi w w1 ps oc nb {s with left:=m}:=HW.next Hd.toO GV (by show m<=s.left;omega);have H1:=aA Jg;have Hl:=aA (show Fr (λb=>b=C.R) W w1 from aH.drew.trans Hd);have GF:=aA (show r=cpV k at_ X0 X1 s (m+1) by rw[HR.out,hm]);have c3:=Gw _ _ Jg;clear GV Hd Jg hm HR HC hR aC;try dsimp only
 refine hK _ _ (λ_ _=>HS _ _ H1.out) ?_;clear hK KK;try simp only[aB]
 refine zae (by kernel_rfl) ?_;go_wp2_with fail;refine(Fz _ _ H1.out).mono ?_;rintro e w2 ⟨he,He⟩;rw[WR.out]at he;rcases JW:X0 s with WM|a
 ·rw[JW]at he;obtain rfl:=he;have JA:r=(.inl WM,m):=by rw[GF.out];simp only[cpV,JW]
  rw[JA];exact⟨rfl,rfl,(La _ _ _ H1.out He).st,Hl.trans He.any⟩
 rw[JW]at he;obtain⟨rfl,ha⟩:=he;have H2:=aA (La _ _ _ H1.out He.drew);have Hu:=aA (show Fr (λb=>b=C.R) W w2.drew from Hl.trans He.drew.any);have HX:=aA JW;clear He ha JW Fz c3;go_wp2_with fail;refine zad (CpS q x2 k (.func (.func g2) #[] xj)) (λ_=>true) (by kernel_rfl) (HP _ _ H2.out) (λaC=>?_);refine zaa 0 ?_;simp only[aB];refine zaa 2 ?_;simp only[aB];refine zaa 4 ?_;simp only[aB];refine zac 1 aC ?_;simp only[aB];refine zac 3 aC ?_;simp only[aB];refine zab 5 rfl (by kernel_rfl) (λKK hK=>?_);go_simp;refine(LL _ _ H2.out).mono ?_;rintro e w3 ⟨he,Gg⟩;rw[R9.out]at he;rcases Ff:X1 s with hH|b
 ·rw[Ff]at he;obtain rfl:=he;have JA:r=(.inl hH,m):=by rw[GF.out];simp only[cpV,HX.out,Ff]
  rw[JA];exact⟨rfl,rfl,(La _ _ _ H2.out Gg).st,Hu.trans Gg.any⟩
 rw[Ff]at he;obtain⟨rfl,hb⟩:=he;have H3:=aA (La _ _ _ H2.out Gg);have JA:r=(.inr (cmpB k a b),m):=by rw[GF.out];simp only[cpV,HX.out,Ff]
 have HQ:=aA (show TruQ C oc s r W (.returned (.bool (cmpB k a b))) w3 by rw[JA];exact⟨rfl,H3.st,Hu.trans Gg.any⟩);have ye:=aA (zhw k a b w3);clear Gg hb Ff JA GF;try dsimp only
 refine hK _ _ (λ_ _=>HP _ _ H3.out) ?_;clear hK KK;try simp only[aB]
 refine zab 6 rfl (by kernel_rfl) (λKK hK=>?_);go_simp;go_at_call 89;refine ye.mono ?_;rintro _ w4 ⟨rfl,rfl⟩;try dsimp only
 refine hK _ _ (λ_ h=>h) ?_;clear hK KK;try simp only[aB]
 refine zaa 7 ?_;simp only[aB];refine zaa 8 ?_;simp only[aB];refine zaa 10 ?_;simp only[aB];refine zaa 9 ?_;simp only[aB];refine zaa 11 ?_;simp only[aB];refine zae (by kernel_rfl) ?_;go_wp2_with fail;go_ret;exact HQ.out
end
def hdC (k:Int)(args:Exs)(of_:Cds):Prop:=(1<=k/\k<=11)/\(k=9->of_.len=1)/\(k=10\/k=11->of_.len=2)/\(3<=k->k<=8->args.len=2)
def wfCb (n:Bn)(ps:List (List UInt8)):Cds->Prop
 | .nil =>True
 | .cons k args of_ _ r=>hdC k args of_/\wfX n ps args/\wfCb n ps of_/\wfCb n ps r
def MkT (C:BgC)(ps:List (List UInt8))(X:Bs->Tru)(W:World)(e:Ending)(w':World):Prop:=∃val,e= .returned val/\Fr NoT W w'/\TruP C ps val X W.heap.size w'.heap.size w'
def truS (n:Bn)(ps:List (List UInt8))(k:Int)(args:Exs)(of_:Cds)(at_:Int):Bs->Tru:=λs=>truF n ps s k args (truC n ps s of_) at_
def CndC (C:BgC)(ps:List (List UInt8))(k:Int)(args:Exs)(of_:Cds)(at_:Int):Prop:=
 ∀(W:World)(S:Nat->Prop)(Z:Prop)(A A2:Option Addr)(c c2:Nat),C.T<=W.heap.size->PgAt C W->(∀x,S x->x < C.B)->SlR (λb o=>ExR W S Z args b o) args.len 64 A c->SlR (λb o=>CdR W S Z of_ b o) of_.len 64 A2 c2->
  Calls Tryz.prog 107 #[.pointer (some ⟨C.P,0,none⟩),.agg #[.int .u8 k,.slice A args.len c,.slice A2 of_.len c2,.int .i64 at_]] W (MkT C ps (truS C.n ps k args of_ at_) W)
def zdH (C:BgC)(W:World)(k:Int)(A A2:Option Addr)(l c l2 c2:Nat)(at_:Int):World:=(W.alloc (.cells #[.pointer (some ⟨C.P,0,none⟩)] 69)).alloc (.cells #[.int .u8 k,.slice A l c,.slice A2 l2 c2,.int .i64 at_] 179)
structure bgBxC (C:BgC)(W w:World)(k:Int)(A A2:Option Addr)(l c l2 c2:Nat)(at_:Int):Prop where
 fr:Fr NoT W w
 p:Bk w W.heap.size 69 #[.pointer (some ⟨C.P,0,none⟩)]
 q:Bk w (W.heap.size+1) 179 #[.int .u8 k,.slice A l c,.slice A2 l2 c2,.int .i64 at_]
section
variable {C:BgC} {ps:List (List UInt8)} {W w w':World} {k:Int} {A A2:Option Addr} {l c l2 c2:Nat} {at_:Int}
theorem zf8:bgBxC C W (zdH C W k A A2 l c l2 c2 at_) k A A2 l c l2 c2 at_:=⟨(aH.alloc _).alloc _,(Bk.new _ _ _).alloc _,Bk.new_at _ _ _ (by simp)⟩
theorem bgBxC.next (h:bgBxC C W w k A A2 l c l2 c2 at_)(hf:Fr NoT w w'):bgBxC C W w' k A A2 l c l2 c2 at_:=⟨h.fr.trans hf,h.p.fr0 hf,h.q.fr0 hf⟩
theorem bgBxC.bp (h:bgBxC C W w k A A2 l c l2 c2 at_):Bx W.heap.size w.heap.size w W.heap.size 69 #[.pointer (some ⟨C.P,0,none⟩)]:=⟨h.p,aL _,h.p.lt⟩
theorem bgBxC.bq (h:bgBxC C W w k A A2 l c l2 c2 at_):Bx W.heap.size w.heap.size w (W.heap.size+1) 179 #[.int .u8 k,.slice A l c,.slice A2 l2 c2,.int .i64 at_]:=⟨h.q,Nat.le_succ _,h.q.lt⟩
theorem TruP.eq {X Y:Bs->Tru}{val:Value}{lo hi:Nat}(h:TruP C ps val X lo hi w)(e:X=Y):TruP C ps val Y lo hi w:=e▸h
theorem zeL (n:Bn)(ps:List (List UInt8))(k args of_ at_)(s:Bs)(l:Nat):(truS n ps k args of_ at_ s l).2 <=l:=zgU (zcX n ps s of_) l
theorem zph (n:Bn)(ps:List (List UInt8))(k args of_ at_)(s:Bs)(a l:Nat):truS n ps k args of_ at_ {s with left:=a} l=truS n ps k args of_ at_ s l:=by
 unfold truS;rw[zhz,zlc]
theorem zlH (n:Bn)(ps:List (List UInt8))(k nm m at_ args)(s:Bs)(a:Nat):valH n ps k nm m at_ args {s with left:=a}=valH n ps k nm m at_ args s:=by
 unfold valH;rw[zcY];rfl
theorem zqe (n:Bn)(ps:List (List UInt8))(k:Int)(hk:k=1\/k=2)(args of_ at_):(λ_ l=>(.inr (k==1),l))=truS n ps k args of_ at_:=by
 funext s l
 rcases hk with rfl|rfl<;>rfl
theorem zqf (n:Bn)(ps:List (List UInt8))(args at_ k0 a0 o0 t0):ntV (truS n ps k0 a0 o0 t0)=truS n ps 9 args (.cons k0 a0 o0 t0 .nil) at_:=rfl
theorem zpi (n:Bn)(ps:List (List UInt8))(k:Int)(hk:k=10\/k=11)(args at_ k0 a0 o0 t0 k1 a1 o1 t1):aoV k (truS n ps k0 a0 o0 t0) (truS n ps k1 a1 o1 t1)=truS n ps k args (.cons k0 a0 o0 t0 (.cons k1 a1 o1 t1 .nil)) at_:=by
 funext s l
 rcases hk with rfl|rfl
 ·show aoV 10 (truS n ps k0 a0 o0 t0) (truS n ps k1 a1 o1 t1) s l=(match truS n ps k0 a0 o0 t0 s l with|(.inr true,l)=>truS n ps k1 a1 o1 t1 s l|r=>r)
  unfold aoV;rcases truS n ps k0 a0 o0 t0 s l with⟨h|(_|_),q⟩<;>rfl
 ·show aoV 11 (truS n ps k0 a0 o0 t0) (truS n ps k1 a1 o1 t1) s l=(match truS n ps k0 a0 o0 t0 s l with|(.inr false,l)=>truS n ps k1 a1 o1 t1 s l|r=>r)
  unfold aoV;rcases truS n ps k0 a0 o0 t0 s l with⟨h|(_|_),q⟩<;>rfl
theorem znu (n:Bn)(ps:List (List UInt8))(k:Int)(h3:3<=k)(h8:k<=8)(of_ at_ k0 n0 m0 a0 t0 k1 n1 m1 a1 t1):cpV k at_ (valH n ps k0 n0 m0 t0 a0) (valH n ps k1 n1 m1 t1 a1)=truS n ps k (.cons k0 n0 m0 a0 t0 (.cons k1 n1 m1 a1 t1 .nil)) of_ at_:=by
 funext s l
 have e:truS n ps k (.cons k0 n0 m0 a0 t0 (.cons k1 n1 m1 a1 t1 .nil)) of_ at_ s l=(match l with
  |0=>(.inl ⟨2,0,at_⟩,0)
  |left+1=>match valL n ps s (.cons k0 n0 m0 a0 t0 (.cons k1 n1 m1 a1 t1 .nil))with
   | .inl h=>(.inl h,left)
   | .inr l=>(.inr (cmpB k (l.getD 0 0) (l.getD 1 0)),left)):=by
  unfold truS truF;rw[if_neg (by omega),if_neg (by omega),if_neg (by omega),if_neg (by omega),if_neg (by omega)];cases l<;>rfl
 rw[e];cases l with
 |zero=>rfl
 |succ q=>
  simp only[cpV];rw[zf7,zbV];rcases valH n ps k0 n0 m0 t0 a0 s with h|x
  ·rfl
  ·rcases valH n ps k1 n1 m1 t1 a1 s with h|y<;>rfl
theorem znv (ho:C.Ok)(args:Exs)(of_:Cds)(hk:k=1\/k=2):CndC C ps k args of_ at_:=by
 intro W S Z A A2 c c2 hT GE hS hx GK;have hB:=zf8 (C:=C) (W:=W) (k:=k) (A:=A) (A2:=A2) (l:=args.len) (c:=c) (l2:=of_.len) (c2:=c2) (at_:=at_);obtain⟨l,hl⟩:=aF args.len;obtain⟨l2,FM⟩:=aF of_.len;rw[<-hl,<-FM]at hB ⊢;have HV:=aA ((tru_1 (ps:=ps) ho hT hB.bq).eq (zqe C.n ps k hk args of_ at_));have HF:=aA hB.fr;unfold zdH at HV HF;clear hT GE hS hx GK hB hl FM;rcases hk with rfl|rfl;all_goals
  go_enter Tryz.func107,Tryz.ntmps107;go_wp2_with fail;go_ret;exact⟨_,rfl,HF.out,HV.out⟩
end
def CxS (p q b o:Nat)(P A2:Option Addr)(l2 c2:Nat)(v0 v1 v2 v3:Value)(W:World):Prop:=W.cell? ⟨p,0,none⟩=some (.pointer P)/\W.cell? ⟨q,2,none⟩=some (.slice A2 l2 c2)/\W.cell? ⟨b,o,none⟩=some v0/\W.cell? ⟨b,o+1,none⟩=some v1/\W.cell? ⟨b,o+2,none⟩=some v2/\W.cell? ⟨b,o+3,none⟩=some v3
def C11 (p q b o:Nat)(P A2:Option Addr)(l2 c2:Nat)(v0 v1 v2 v3 u0 u1 u2 u3:Value)(W:World):Prop:=CxS p q b o P A2 l2 c2 v0 v1 v2 v3 W/\W.cell? ⟨b,o+4,none⟩=some u0/\W.cell? ⟨b,o+4+1,none⟩=some u1/\W.cell? ⟨b,o+4+2,none⟩=some u2/\W.cell? ⟨b,o+4+3,none⟩=some u3
def CyS (p q b o:Nat)(P A:Option Addr)(l c:Nat)(v0 v1 v2 v3 v4 u0 u1 u2 u3 u4:Value)(W:World):Prop:=(W.cell? ⟨p,0,none⟩=some (.pointer P)/\W.cell? ⟨q,1,none⟩=some (.slice A l c)/\W.cell? ⟨b,o,none⟩=some v0/\W.cell? ⟨b,o+1,none⟩=some v1/\W.cell? ⟨b,o+2,none⟩=some v2/\W.cell? ⟨b,o+3,none⟩=some v3/\W.cell? ⟨b,o+4,none⟩=some v4)/\
 W.cell? ⟨b,o+5,none⟩=some u0/\W.cell? ⟨b,o+5+1,none⟩=some u1/\W.cell? ⟨b,o+5+2,none⟩=some u2/\W.cell? ⟨b,o+5+3,none⟩=some u3/\W.cell? ⟨b,o+5+4,none⟩=some u4
abbrev SlT:=Value->Nat->Nat->World->Prop
def Stb (C:BgC)(g:SlT):Prop:=∀v lo hi w w',Later C lo hi w w'->g v lo hi w->g v lo hi w'
def slo1 (g0:SlT):Nat->Option SlT
 |0=>some g0
 |_=>none
def slo2 (g0 g1:SlT):Nat->Option SlT
 |0=>some g0
 |1=>some g1
 |_=>none
theorem zpj {C:BgC}{g0:SlT}(h0:Stb C g0):∀p g,slo1 g0 p=some g->Stb C g
 |0,g,e=>by cases e;exact h0
 |p+1,g,e=>by cases e
theorem zhM {C:BgC}{g0 g1:SlT}(h0:Stb C g0)(h1:Stb C g1):∀p g,slo2 g0 g1 p=some g->Stb C g
 |0,g,e=>by cases e;exact h0
 |1,g,e=>by cases e;exact h1
 |p+2,g,e=>by cases e
def slT (C:BgC)(ps:List (List UInt8))(X:Bs->Tru):SlT:=λv lo hi w=>TruP C ps v X lo hi w
def zlI (C:BgC)(ps:List (List UInt8))(X:Bs->Ho ⊕ Int):SlT:=λv lo hi w=>ValP C ps v X lo hi w
theorem zg6 {C:BgC}{ps:List (List UInt8)}{X:Bs->Tru}:Stb C (slT C ps X):=λ_ _ _ _ _ hl h=>TruP.later h hl
theorem zoi {C:BgC}{ps:List (List UInt8)}{X:Bs->Ho ⊕ Int}:Stb C (zlI C ps X):=λ_ _ _ _ _ hl h=>ValP.later h hl
def tyK (t:TypeId):Nat->TypeId:=λ_=>t
theorem TruP.func {C:BgC}{ps:List (List UInt8)}{v:Value}{X:Bs->Tru}{lo hi:Nat}{w:World}(h:TruP C ps v X lo hi w):∃g caps,v= .func (.func g) #[] caps:=by
 obtain⟨g,caps,e,_⟩:=h;exact⟨g,caps,e⟩
theorem ValP.func {C:BgC}{ps:List (List UInt8)}{v:Value}{X:Bs->Ho ⊕ Int}{lo hi:Nat}{w:World}(h:ValP C ps v X lo hi w):∃g caps,v= .func (.func g) #[] caps:=by
 obtain⟨g,caps,e,_⟩:=h;exact⟨g,caps,e⟩
def vaAll:List Bool->Bool:=λ_=>true
def zpk:List Bool->Bool:=λbs=> !bs.getD 1 false || bs.getD 0 false
theorem zpl (C:BgC)(ps:List (List UInt8))(ho:C.Ok)(args:Exs)(of_:Cds)(at_:Int)(k0 a0 o0 t0)(e:of_= .cons k0 a0 o0 t0 .nil)(h0:CndC C ps k0 a0 o0 t0):CndC C ps 9 args of_ at_:=by
 intro W S Z A A2 c c2 hT GE hS hx GK;obtain⟨bb,oo,rfl,Hg⟩:=GK.2.2 (by rw[e];simp[Cds.len]);rw[e]at Hg;obtain⟨⟨Gn,_,_,_,e0,e3⟩,⟨A3,c3,e1,s1⟩,⟨A4,c4,e2,s2⟩,_⟩:=Hg;obtain⟨l,hl⟩:=aF args.len;obtain⟨l2,FM⟩:=aF of_.len;have WS:0 < l2:=by rw[FM,e];simp[Cds.len]
 have WU:l2<=9223372036854775807:=by rw[FM];exact aK GK.1 GK.2.1.1
 obtain⟨l3,JP⟩:=aF a0.len;obtain⟨l4,KP⟩:=aF o0.len;rw[<-JP]at e1;rw[<-KP]at e2;obtain⟨w2,Gc⟩:=aF (zdH C W 9 A (some ⟨bb,oo,none⟩) l c l2 c2 at_);have hB:bgBxC C W w2 9 A (some ⟨bb,oo,none⟩) l c l2 c2 at_:=by rw[Gc];exact zf8
 have Fu:C.B<=W.heap.size:=by have h1:=ho.br;have h2:=ho.rT;omega
 have Fm:bb < W.heap.size:=aM (hS _ Gn) Fu;have Jl:C.T<=w2.drew.heap.size:=aK hT hB.fr.size;have Fx:∀w',Fr NoT W w'->SameS S W w':=λw' hf=>hf.same λb hb=>⟨aM (hS b hb) Fu,id⟩;have Gt:∀w',Fr NoT W w'->PgAt C w':=λw' hf=>GE.later ho (Later.of0 (lo:=0) (hi:=0) hf (Nat.zero_le _) hT);have H9:∀w',Fr NoT W w'->_:=λw' hf=>h0 w' S Z A3 A4 c3 c4 (aK hT hf.size) (Gt w' hf) hS (s1.imp λ_ _ hx=>ExR.keep (Fx w' hf) hx) (s2.imp λ_ _ hx=>CdR.keep (Fx w' hf) hx);have GH:∀w',Fr NoT w2 w'->CxS W.heap.size (W.heap.size+1) bb oo (some ⟨C.P,0,none⟩) (some ⟨bb,oo,none⟩) l2 c2 (.int .u8 k0) (.slice A3 l3 c3) (.slice A4 l4 c4) (.int .i64 t0) w':=λw' hf=>
  have He:=hB.fr.trans hf
  ⟨(hB.next hf).p.cell 0,(hB.next hf).q.cell 2,(He.cell Fm id).trans e0,(He.cell Fm id).trans e1,(He.cell Fm id).trans e2,(He.cell Fm id).trans e3⟩
 have Hb:∀w7 x1 v1 xn Fd,Fr NoT W w7->Bx W.heap.size w7.heap.size w7 x1 223 #[v1]->TruP C ps v1 (truS C.n ps k0 a0 o0 t0) xn Fd w7->W.heap.size<=xn->Fd<=w7.heap.size->MkT C ps (truS C.n ps 9 args of_ at_) W (.returned (.func (.func 180) #[] #[.pointer (some ⟨x1,0,none⟩)])) w7:=by
  intro w7 x1 v1 xn Fd Hs Ff F5 M4 Q4;refine⟨_,rfl,Hs,(tru_2 ho hT Ff (F5.wide M4 Q4)).eq ?_⟩;rw[e];exact zqf ..
 have Ki:=aA GH;rw[<-JP,<-KP]at H9;have HC:=aA H9;have HB:=aA hB;have FY:=aA Hb;unfold zdH at Gc;have HW:=aA Gc;have GU:=aA Jl;rw[<-hl,<-FM];obtain⟨X0,M6⟩:=aF (truS C.n ps k0 a0 o0 t0);rw[<-M6]at HC FY;have JX:=aA (zpj (g0:=slT C ps X0) zg6);clear GH H9 hB Hb Gc Jl hS Gn Fu hT e hl FM Fx Gt hx GK GE e0 e1 e2 e3 s1 s2 JP KP Fm h0 M6;go_enter Tryz.func107,Tryz.ntmps107;go_wp2_with fail;rw[<-HW.out];refine zad (CxS W.heap.size (W.heap.size+1) bb oo (some ⟨C.P,0,none⟩) (some ⟨bb,oo,none⟩) l2 c2 (.int .u8 k0) (.slice A3 l3 c3) (.slice A4 l4 c4) (.int .i64 t0)) (λi=>decide (i < 7)) (by kernel_rfl) (Ki _ aH.drew) (λaC=>?_);refine zaa 1 ?_;simp only[aB];refine zac 0 aC ?_;simp only[aB];refine zac 2 aC ?_;simp only[aB];refine zaa 3 ?_;simp only[aB];refine zac 4 aC ?_;simp only[aB];refine zbP 2 [5,6] [23,5] vaAll (λo w=>ManyI w2.drew (PpG C (slo1 (slT C ps X0)) (tyK 223)) o w) rfl (by decide) (by kernel_rfl) rfl (λo w h=>Ki _ (aH.drew.trans h.fr)) (by kernel_rfl) rfl (λo w p i hI Kj FA FQ K9=>?_) (λo w hI Kj Hb=>?_) (ManyI.zero _ _)
 ·obtain⟨a,b,rfl⟩:=zog Kj;rcases p with _|_|p
  ·simp at FA FQ;subst FA FQ;cases b;all_goals
    simp only[aE,Act.put,List.setIfInBounds_toArray,List.set_cons_zero,List.set_cons_succ];refine wpOp_step (zak rfl) (λKK hK=>?_);go_simp;go_at_call 107;refine(HC w ((HB.fr.trans (Fr.refl NoT w2).drew).trans hI.fr)).mono ?_;rintro _ w5 ⟨v0,rfl,Hm,Jf⟩;try dsimp only
    refine hK _ _ ?_;exact⟨v0,by kernel_rfl,hI.put (p:=0) GU.out Hm (PpG.on JX.out) ⟨Jf,aL _,aK GU.out (aK hI.fr.size Hm.size)⟩⟩
  ·simp at FA FQ;subst FA FQ;cases a;all_goals
    simp only[aE,Act.put,List.setIfInBounds_toArray,List.set_cons_zero,List.set_cons_succ];refine wpOp_step (zak rfl) (λKK hK=>?_);go_simp;refine hK _ _ ?_;exact⟨_,by kernel_rfl,hI.lay (p:=1) GU.out (PpG.on JX.out) (λv lo hi w h=>h)⟩
  ·simp at FA
 ·obtain⟨u,v,rfl⟩:=zlF Kj Hb;obtain⟨gg,cps,rfl⟩:∃gg cps,u= .func (.func gg) #[] cps:=by
   obtain⟨_,_,h9,_⟩:=hI.at_ (p:=0) rfl;exact TruP.func h9.1
  obtain⟨u,hu⟩:=aF (Value.func (.func gg) #[] cps);rw[<-hu]at hI;obtain⟨g,rfl,hg,LB⟩:=hI.place (p:=1) (ty:=223) (z:= .nilFunc) rfl (λ_ _ _ _ h=>h);have h7:=hI.set (p:=1) (ty:=223) (z:= .nilFunc) GU.out (PpG.on JX.out) rfl (λ_ _ _ _ h=>h) u;obtain⟨xn,Fd,Fb,Q5,Q6⟩:=h7.at_ (p:=0) rfl;have Fb:TruP C ps u X0 xn Fd _:=Fb.1;have M4:W.heap.size<=w2.drew.heap.size:=HB.fr.size;have NR:Bk (w.setCell ⟨g,0,none⟩ u) g 223 #[u]:=by simpa using LB.set_ 0 u
  have Hs:=(HB.fr.trans (Fr.refl NoT w2).drew).trans h7.fr;have HE:=aA (FY _ g u xn Fd Hs ⟨NR,aK M4 hg,NR.lt⟩ Fb (aK M4 Q5) Q6);have Tb:=LB.cell 0;have N6:=LB.frozen 0;have GY:=LB.lt;simp only[aD]at Tb;simp only[aE,Act.put,List.setIfInBounds_toArray,List.set_cons_zero,List.set_cons_succ];subst hu;clear hI h7 Fb Q5 Q6 LB NR Hs aC hg M4 Hb Kj;refine zab 7 rfl (by kernel_rfl) (λKK hK=>?_);go_simp;refine hK _ _ (λh=>absurd h (by decide)) ?_;clear hK KK;try simp only[aB]
  refine zae (by kernel_rfl) ?_;go_wp2_with fail;go_ret;exact HE.out
theorem zpm (C:BgC)(ps:List (List UInt8))(ho:C.Ok)(k:Int)(hk:k=10\/k=11)(args:Exs)(of_:Cds)(at_:Int)(k0 a0 o0 t0 k1 a1 o1 t1)(e:of_= .cons k0 a0 o0 t0 (.cons k1 a1 o1 t1 .nil))(h0:CndC C ps k0 a0 o0 t0)(h1:CndC C ps k1 a1 o1 t1):CndC C ps k args of_ at_:=by
 intro W S Z A A2 c c2 hT GE hS hx GK;obtain⟨bb,oo,rfl,Hg⟩:=GK.2.2 (by rw[e];simp[Cds.len]);rw[e]at Hg;obtain⟨⟨Gn,_,_,_,e0,e3⟩,⟨A3,c3,e1,s1⟩,⟨A4,c4,e2,s2⟩,M5⟩:=Hg;obtain⟨⟨_,_,_,_,f0,f3⟩,⟨A5,c5,f1,s3⟩,⟨A6,c6,f2,s4⟩,_⟩:=M5;obtain⟨l,hl⟩:=aF args.len;obtain⟨l2,FM⟩:=aF of_.len;have WS:1 < l2:=by rw[FM,e];simp[Cds.len]
 have WP:0 < l2:=by omega
 have gd:(1:Int) < (l2:Int):=by omega
 have WU:l2<=9223372036854775807:=by rw[FM];exact aK GK.1 GK.2.1.1
 obtain⟨l3,JP⟩:=aF a0.len;obtain⟨l5,Jr⟩:=aF a1.len;obtain⟨l4,KP⟩:=aF o0.len;obtain⟨l6,Jb⟩:=aF o1.len;rw[<-JP]at e1;rw[<-KP]at e2;rw[<-Jr]at f1;rw[<-Jb]at f2;obtain⟨w2,Gc⟩:=aF (zdH C W k A (some ⟨bb,oo,none⟩) l c l2 c2 at_);have hB:bgBxC C W w2 k A (some ⟨bb,oo,none⟩) l c l2 c2 at_:=by rw[Gc];exact zf8
 have Fu:C.B<=W.heap.size:=by have h1:=ho.br;have h2:=ho.rT;omega
 have Fm:bb < W.heap.size:=aM (hS _ Gn) Fu;have Jl:C.T<=w2.drew.heap.size:=aK hT hB.fr.size;have Fx:∀w',Fr NoT W w'->SameS S W w':=λw' hf=>hf.same λb hb=>⟨aM (hS b hb) Fu,id⟩;have Gt:∀w',Fr NoT W w'->PgAt C w':=λw' hf=>GE.later ho (Later.of0 (lo:=0) (hi:=0) hf (Nat.zero_le _) hT);have G8:∀w',Fr NoT W w'->_:=λw' hf=>h0 w' S Z A3 A4 c3 c4 (aK hT hf.size) (Gt w' hf) hS (s1.imp λ_ _ hx=>ExR.keep (Fx w' hf) hx) (s2.imp λ_ _ hx=>CdR.keep (Fx w' hf) hx);have Hn:∀w',Fr NoT W w'->_:=λw' hf=>h1 w' S Z A5 A6 c5 c6 (aK hT hf.size) (Gt w' hf) hS (s3.imp λ_ _ hx=>ExR.keep (Fx w' hf) hx) (s4.imp λ_ _ hx=>CdR.keep (Fx w' hf) hx);have GH:∀w',Fr NoT w2 w'->C11 W.heap.size (W.heap.size+1) bb oo (some ⟨C.P,0,none⟩) (some ⟨bb,oo,none⟩) l2 c2 (.int .u8 k0) (.slice A3 l3 c3) (.slice A4 l4 c4) (.int .i64 t0) (.int .u8 k1) (.slice A5 l5 c5) (.slice A6 l6 c6) (.int .i64 t1) w':=λw' hf=>
  have He:=hB.fr.trans hf
  ⟨⟨(hB.next hf).p.cell 0,(hB.next hf).q.cell 2,(He.cell Fm id).trans e0,(He.cell Fm id).trans e1,(He.cell Fm id).trans e2,(He.cell Fm id).trans e3⟩,(He.cell Fm id).trans f0,(He.cell Fm id).trans f1,(He.cell Fm id).trans f2,(He.cell Fm id).trans f3⟩
 have Hb:∀w7 x1 x2 v1 v2 xn Fd xq Jq,Fr NoT w2 w7->Bk w7 x1 223 #[v1]->w2.heap.size<=x1->Bk w7 x2 223 #[v2]->w2.heap.size<=x2->TruP C ps v1 (truS C.n ps k0 a0 o0 t0) xn Fd w7->w2.heap.size<=xn->Fd<=w7.heap.size->TruP C ps v2 (truS C.n ps k1 a1 o1 t1) xq Jq w7->w2.heap.size<=xq->Jq<=w7.heap.size->
   MkT C ps (truS C.n ps k args of_ at_) W (.returned (.func (.func 181) #[] #[.pointer (some ⟨x1,0,none⟩),.pointer (some ⟨W.heap.size+1,0,none⟩),.pointer (some ⟨x2,0,none⟩)])) w7:=by
  intro w7 x1 x2 v1 v2 xn Fd xq Jq Jo Ff Jk GK Lz F5 FB Js Kv FS J1;have Hs:=hB.fr.trans Jo;have P2:=hB.next Jo;have h2:=hB.fr.size;have FB:=aK h2 FB;have FS:=aK h2 FS;have Ff:Bx W.heap.size w7.heap.size w7 x1 223 #[v1]:=⟨Ff,aK h2 Jk,Ff.lt⟩;have GK:Bx W.heap.size w7.heap.size w7 x2 223 #[v2]:=⟨GK,aK h2 Lz,GK.lt⟩;refine⟨_,rfl,Hs,(tru_3 ho hT hk P2.bq Ff GK (F5.wide FB Js) (Kv.wide FS J1) (zeL _ _ _ _ _ _) (zph _ _ _ _ _ _)).eq ?_⟩;rw[e];exact zpi _ _ _ hk _ _ _ _ _ _ _ _ _ _
 have Ki:=aA GH;rw[<-JP,<-KP]at G8;rw[<-Jr,<-Jb]at Hn;have Q9:=aA G8;have Fz:=aA Hn;have HB:=aA hB;have FY:=aA Hb;unfold zdH at Gc;have HW:=aA Gc;have GU:=aA Jl;rw[<-hl,<-FM];obtain⟨X0,M6⟩:=aF (truS C.n ps k0 a0 o0 t0);obtain⟨X1,Q8⟩:=aF (truS C.n ps k1 a1 o1 t1);rw[<-M6]at Q9 FY;rw[<-Q8]at Fz FY;have JX:=aA (zhM (g0:=slT C ps X0) (g1:=slT C ps X1) zg6 zg6);have q1:(k==1)=false:=by simp;omega
 have q2:(k==2)=false:=by simp;omega
 have q9:(k==9)=false:=by simp;omega
 have qs:(k==10)=true\/(k==10)=false/\(k==11)=true:=by rcases hk with rfl|rfl<;>simp
 clear GH G8 Hn hB Hb Gc Jl hS Gn Fu hT e hl FM Fx Gt hx GK GE e0 e1 e2 e3 f0 f1 f2 f3 s1 s3 JP Jr Fm h0 h1 M6 Q8 s2 s4 KP Jb hk;rcases qs with xZ|⟨xZ,Dm⟩;all_goals
  go_enter Tryz.func107,Tryz.ntmps107;go_wp2_with fail;rw[<-HW.out];refine zad (C11 W.heap.size (W.heap.size+1) bb oo (some ⟨C.P,0,none⟩) (some ⟨bb,oo,none⟩) l2 c2 (.int .u8 k0) (.slice A3 l3 c3) (.slice A4 l4 c4) (.int .i64 t0) (.int .u8 k1) (.slice A5 l5 c5) (.slice A6 l6 c6) (.int .i64 t1)) (λi=>decide (i < 15)) (by kernel_rfl) (Ki _ aH.drew) (λaC=>?_);refine zaa 1 ?_;simp only[aB];refine zaa 7 ?_;simp only[aB];refine zaM 0 (v:=?_) rfl (by kernel_rfl) (λ_ _ _ h=>h) aC (by rfl) ?_ ?_;rotate_left
  ·intro wz Ft;(try dsimp only[C11,CxS,CyS]at Ft);go_simp;try with_reducible rfl
  try simp only[aB]
  refine zaM 2 (v:=?_) rfl (by kernel_rfl) (λ_ _ _ h=>h) aC (by rfl) ?_ ?_;rotate_left
  ·intro wz Ft;(try dsimp only[C11,CxS,CyS]at Ft);go_simp;try with_reducible rfl
  try simp only[aB]
  refine zaM 6 (v:=?_) rfl (by kernel_rfl) (λ_ _ _ h=>h) aC (by rfl) ?_ ?_;rotate_left
  ·intro wz Ft;(try dsimp only[C11,CxS,CyS]at Ft);go_simp;try with_reducible rfl
  try simp only[aB]
  refine zaM 8 (v:=?_) rfl (by kernel_rfl) (λ_ _ _ h=>h) aC (by rfl) ?_ ?_;rotate_left
  ·intro wz Ft;(try dsimp only[C11,CxS,CyS]at Ft);go_simp;try with_reducible rfl
  try simp only[aB]
  refine zaa 3 ?_;simp only[aB];refine zaa 9 ?_;simp only[aB];refine zaM 4 (v:=?_) rfl (by kernel_rfl) (λ_ _ _ h=>h) aC (by rfl) ?_ ?_;rotate_left
  ·intro wz Ft;(try dsimp only[C11,CxS,CyS]at Ft);go_simp;try with_reducible rfl
  try simp only[aB]
  refine zaM 10 (v:=?_) rfl (by kernel_rfl) (λ_ _ _ h=>h) aC (by rfl) ?_ ?_;rotate_left
  ·intro wz Ft;(try dsimp only[C11,CxS,CyS]at Ft);go_simp;try with_reducible rfl
  try simp only[aB]
  refine zbP 4 [5,11,12,13] [33,39,6,7] zpk (λo w=>ManyI w2.drew (PpG C (slo2 (slT C ps X0) (slT C ps X1)) (tyK 223)) o w) rfl (by decide) (by kernel_rfl) rfl (λo w h=>Ki _ (aH.drew.trans h.fr)) (by kernel_rfl) rfl (λo w p i hI Kj FA FQ K9=>?_) (λo w hI Kj Hb=>?_) (ManyI.zero _ _)
  ·obtain⟨a,b,c,d,rfl⟩:=zhL Kj;rcases p with _|_|_|_|p
   ·simp at FA FQ;subst FA FQ;cases b<;>cases c<;>cases d<;>try exact absurd K9 (by decide)
    all_goals
     simp only[aE,Act.put,List.setIfInBounds_toArray,List.set_cons_zero,List.set_cons_succ];refine wpOp_step (zak rfl) (λKK hK=>?_);go_simp;go_at_call 107;refine(Q9 w ((HB.fr.trans (Fr.refl NoT w2).drew).trans hI.fr)).mono ?_;rintro _ w5 ⟨v0,rfl,Hm,Jf⟩;try dsimp only
     refine hK _ _ ?_;exact⟨v0,by kernel_rfl,hI.put (p:=0) GU.out Hm (PpG.on JX.out) ⟨Jf,aL _,aK GU.out (aK hI.fr.size Hm.size)⟩⟩
   ·simp at FA FQ;subst FA FQ;cases a<;>cases c<;>cases d<;>try exact absurd K9 (by decide)
    all_goals
     simp only[aE,Act.put,List.setIfInBounds_toArray,List.set_cons_zero,List.set_cons_succ];refine wpOp_step (zak rfl) (λKK hK=>?_);go_simp;go_at_call 107;refine(Fz w ((HB.fr.trans (Fr.refl NoT w2).drew).trans hI.fr)).mono ?_;rintro _ w5 ⟨v0,rfl,Hm,Jf⟩;try dsimp only
     refine hK _ _ ?_;exact⟨v0,by kernel_rfl,hI.put (p:=1) GU.out Hm (PpG.on JX.out) ⟨Jf,aL _,aK GU.out (aK hI.fr.size Hm.size)⟩⟩
   ·simp at FA FQ;subst FA FQ;cases a<;>cases b<;>cases d<;>try exact absurd K9 (by decide)
    all_goals
     simp only[aE,Act.put,List.setIfInBounds_toArray,List.set_cons_zero,List.set_cons_succ];refine wpOp_step (zak rfl) (λKK hK=>?_);go_simp;refine hK _ _ ?_;exact⟨_,by kernel_rfl,hI.lay (p:=2) GU.out (PpG.on JX.out) (λv lo hi w h=>h)⟩
   ·simp at FA FQ;subst FA FQ;cases a<;>cases b<;>cases c<;>try exact absurd K9 (by decide)
    all_goals
     simp only[aE,Act.put,List.setIfInBounds_toArray,List.set_cons_zero,List.set_cons_succ];refine wpOp_step (zak rfl) (λKK hK=>?_);go_simp;refine hK _ _ ?_;exact⟨_,by kernel_rfl,hI.lay (p:=3) GU.out (PpG.on JX.out) (λv lo hi w h=>h)⟩
   ·simp at FA
  ·obtain⟨u,v,y1,y2,rfl⟩:=zf6 Kj Hb;obtain⟨gg,cps,hu⟩:∃gg cps,u= .func (.func gg) #[] cps:=by
    obtain⟨_,_,h9,_⟩:=hI.at_ (p:=0) rfl;exact TruP.func h9.1
   obtain⟨DR,uN,hv⟩:∃gg cps,v= .func (.func gg) #[] cps:=by
    obtain⟨_,_,h9,_⟩:=hI.at_ (p:=1) rfl;exact TruP.func h9.1
   obtain⟨g,rfl,hg,LB⟩:=hI.place (p:=2) (ty:=223) (z:= .nilFunc) rfl (λ_ _ _ _ h=>h);obtain⟨g',rfl,WV,LC⟩:=hI.place (p:=3) (ty:=223) (z:= .nilFunc) rfl (λ_ _ _ _ h=>h);have Gh:=hI.two (p:=2) (q:=3) (ty:=223) (z:= .nilFunc) (ty':=223) (z':= .nilFunc) (by decide) rfl rfl (λ_ _ _ _ h=>h) (λ_ _ _ _ h=>h);have h7:=hI.set (p:=2) (ty:=223) (z:= .nilFunc) GU.out (PpG.on JX.out) rfl (λ_ _ _ _ h=>h) u;have h8:=h7.set (p:=3) (ty:=223) (z:= .nilFunc) GU.out (zfz (PpG.on JX.out) _ _ _) rfl (λ_ _ _ _ h=>h) v;obtain⟨xn,Fd,Ks,FB,Js⟩:=h8.at_ (p:=0) rfl;obtain⟨xq,Jq,J0,FS,J1⟩:=h8.at_ (p:=1) rfl;have Ks:TruP C ps u X0 xn Fd _:=Ks.1;have J0:TruP C ps v X1 xq Jq _:=J0.1;have Fo:Bk ((w.setCell ⟨g,0,none⟩ u).setCell ⟨g',0,none⟩ v) g 223 #[u]:=Bk.far (by simpa using LB.set_ 0 u) Gh _;have GS:Bk ((w.setCell ⟨g,0,none⟩ u).setCell ⟨g',0,none⟩ v) g' 223 #[v]:=by simpa using (LC.far (p:=⟨g,0,none⟩) (Ne.symm Gh) u).set_ 0 v
   have HE:=aA (FY _ g g' u v xn Fd xq Jq ((Fr.refl NoT w2).drew.trans h8.fr) Fo hg GS WV Ks FB Js J0 FS J1);have Ut:=aA (Ki _ ((Fr.refl NoT w2).drew.trans h7.fr));have Tb:=LB.cell 0;have N6:=LB.frozen 0;have GY:=LB.lt;have Vx:=LC.cell 0;have yf:=LC.frozen 0;have YM:=LC.lt;have WW:=Ne.symm Gh;simp only[aD]at Tb Vx;simp only[aE,Act.put,List.setIfInBounds_toArray,List.set_cons_zero,List.set_cons_succ];subst hu hv;clear hI h7 h8 Ks J0 FB FS Js J1 LB LC Fo GS aC hg WV Hb Kj;refine zab 14 rfl (by kernel_rfl) (λKK hK=>?_);go_simp;refine hK _ _ (λ_ _=>Ut.out) ?_;clear hK KK;try simp only[aB]
   refine zab 15 rfl (by kernel_rfl) (λKK hK=>?_);go_simp;refine hK _ _ (λh=>absurd h (by decide)) ?_;clear hK KK;try simp only[aB]
   refine zae (by kernel_rfl) ?_;go_wp2_with fail;go_ret;exact HE.out
theorem zpn (C:BgC)(ps:List (List UInt8))(ho:C.Ok)(k:Int)(Jc:3<=k)(Kt:k<=8)(args:Exs)(of_:Cds)(at_:Int)(k0 n0 m0 a0 t0 k1 n1 m1 a1 t1)(e:args= .cons k0 n0 m0 a0 t0 (.cons k1 n1 m1 a1 t1 .nil))(h0:ExpC C ps k0 n0 m0 a0 t0)(h1:ExpC C ps k1 n1 m1 a1 t1):CndC C ps k args of_ at_:=by
 intro W S Z A A2 c c2 hT GE hS hx GK;obtain⟨bb,oo,rfl,Hg⟩:=hx.2.2 (by rw[e];simp[Exs.len]);rw[e]at Hg;obtain⟨⟨Gn,_,_,GW,_,e0,e1,e2,e4⟩,⟨A3,c3,e3,s1⟩,M5⟩:=Hg;obtain⟨⟨_,_,_,Jn,_,f0,f1,f2,f4⟩,⟨A5,c5,f3,s3⟩,_⟩:=M5;obtain⟨l,hl⟩:=aF args.len;obtain⟨l2,FM⟩:=aF of_.len;have WS:1 < l:=by rw[hl,e];simp[Exs.len]
 have WP:0 < l:=by omega
 have gd:(1:Int) < (l:Int):=by omega
 have WU:l<=9223372036854775807:=by rw[hl];exact aK hx.1 hx.2.1.1
 obtain⟨l3,JP⟩:=aF a0.len;obtain⟨l5,Jr⟩:=aF a1.len;rw[<-JP]at e3;rw[<-Jr]at f3;obtain⟨w2,Gc⟩:=aF (zdH C W k (some ⟨bb,oo,none⟩) A2 l c l2 c2 at_);have hB:bgBxC C W w2 k (some ⟨bb,oo,none⟩) A2 l c l2 c2 at_:=by rw[Gc];exact zf8
 have Fu:C.B<=W.heap.size:=by have h1:=ho.br;have h2:=ho.rT;omega
 have Fm:bb < W.heap.size:=aM (hS _ Gn) Fu;have Jl:C.T<=w2.drew.heap.size:=aK hT hB.fr.size;have Fx:∀w',Fr NoT W w'->SameS S W w':=λw' hf=>hf.same λb hb=>⟨aM (hS b hb) Fu,id⟩;have Gt:∀w',Fr NoT W w'->PgAt C w':=λw' hf=>GE.later ho (Later.of0 (lo:=0) (hi:=0) hf (Nat.zero_le _) hT);have G8:∀w',Fr NoT W w'->_:=λw' hf=>h0 w' S Z A3 c3 (aK hT hf.size) (Gt w' hf) hS GW (s1.imp λ_ _ hx=>ExR.keep (Fx w' hf) hx);have Hn:∀w',Fr NoT W w'->_:=λw' hf=>h1 w' S Z A5 c5 (aK hT hf.size) (Gt w' hf) hS Jn (s3.imp λ_ _ hx=>ExR.keep (Fx w' hf) hx);have GH:∀w',Fr NoT w2 w'->CyS W.heap.size (W.heap.size+1) bb oo (some ⟨C.P,0,none⟩) (some ⟨bb,oo,none⟩) l c (.int .u8 k0) (.string n0) (.int .i64 m0) (.slice A3 l3 c3) (.int .i64 t0) (.int .u8 k1) (.string n1) (.int .i64 m1) (.slice A5 l5 c5) (.int .i64 t1) w':=λw' hf=>
  have He:=hB.fr.trans hf
  ⟨⟨(hB.next hf).p.cell 0,(hB.next hf).q.cell 1,(He.cell Fm id).trans e0,(He.cell Fm id).trans e1,(He.cell Fm id).trans e2,(He.cell Fm id).trans e3,(He.cell Fm id).trans e4⟩,(He.cell Fm id).trans f0,(He.cell Fm id).trans f1,(He.cell Fm id).trans f2,(He.cell Fm id).trans f3,(He.cell Fm id).trans f4⟩
 have Hb:∀w7 x1 x2 v1 v2 xn Fd xq Jq,Fr NoT w2 w7->Bk w7 x1 278 #[v1]->w2.heap.size<=x1->Bk w7 x2 278 #[v2]->w2.heap.size<=x2->ValP C ps v1 (valH C.n ps k0 n0 m0 t0 a0) xn Fd w7->w2.heap.size<=xn->Fd<=w7.heap.size->ValP C ps v2 (valH C.n ps k1 n1 m1 t1 a1) xq Jq w7->w2.heap.size<=xq->Jq<=w7.heap.size->
   MkT C ps (truS C.n ps k args of_ at_) W (.returned (.func (.func 182) #[] #[.pointer (some ⟨W.heap.size,0,none⟩),.pointer (some ⟨W.heap.size+1,0,none⟩),.pointer (some ⟨x1,0,none⟩),.pointer (some ⟨x2,0,none⟩)])) w7:=by
  intro w7 x1 x2 v1 v2 xn Fd xq Jq Jo Ff Jk GK Lz F5 FB Js Kv FS J1;have Hs:=hB.fr.trans Jo;have P2:=hB.next Jo;have h2:=hB.fr.size;have FB:=aK h2 FB;have FS:=aK h2 FS;have Ff:Bx W.heap.size w7.heap.size w7 x1 278 #[v1]:=⟨Ff,aK h2 Jk,Ff.lt⟩;have GK:Bx W.heap.size w7.heap.size w7 x2 278 #[v2]:=⟨GK,aK h2 Lz,GK.lt⟩;refine⟨_,rfl,Hs,(tru_4 ho hT (Gt _ Hs) P2.bp P2.bq Ff GK (F5.wide FB Js) (Kv.wide FS J1) (zlH _ _ _ _ _ _ _) (zlH _ _ _ _ _ _ _)).eq ?_⟩;rw[e];exact znu _ _ _ Jc Kt _ _ _ _ _ _ _ _ _ _ _ _
 have Ki:=aA GH;rw[<-JP]at G8;rw[<-Jr]at Hn;have Q9:=aA G8;have Fz:=aA Hn;have HB:=aA hB;have FY:=aA Hb;unfold zdH at Gc;have HW:=aA Gc;have GU:=aA Jl;rw[<-hl,<-FM];obtain⟨X0,M6⟩:=aF (valH C.n ps k0 n0 m0 t0 a0);obtain⟨X1,Q8⟩:=aF (valH C.n ps k1 n1 m1 t1 a1);rw[<-M6]at Q9 FY;rw[<-Q8]at Fz FY;have JX:=aA (zhM (g0:=zlI C ps X0) (g1:=zlI C ps X1) zoi zoi);have q1:(k==1)=false:=by simp;omega
 have q2:(k==2)=false:=by simp;omega
 have q9:(k==9)=false:=by simp;omega
 have xZ:(k==10)=false:=by simp;omega
 have Dm:(k==11)=false:=by simp;omega
 clear GH G8 Hn hB Hb Gc Jl hS Gn Fu hT e hl FM Fx Gt hx GK GE e0 e1 e2 e3 f0 f1 f2 f3 s1 s3 JP Jr Fm h0 h1 M6 Q8 e4 f4 GW Jn Jc Kt;go_enter Tryz.func107,Tryz.ntmps107;go_wp2_with fail;rw[<-HW.out];refine zad (CyS W.heap.size (W.heap.size+1) bb oo (some ⟨C.P,0,none⟩) (some ⟨bb,oo,none⟩) l c (.int .u8 k0) (.string n0) (.int .i64 m0) (.slice A3 l3 c3) (.int .i64 t0) (.int .u8 k1) (.string n1) (.int .i64 m1) (.slice A5 l5 c5) (.int .i64 t1)) (λi=>decide (i < 15)) (by kernel_rfl) (Ki _ aH.drew) (λaC=>?_);refine zaa 1 ?_;simp only[aB];refine zaa 7 ?_;simp only[aB];refine zaM 0 (v:=?_) rfl (by kernel_rfl) (λ_ _ _ h=>h) aC (by rfl) ?_ ?_;rotate_left
 ·intro wz Ft;(try dsimp only[C11,CxS,CyS]at Ft);go_simp;try with_reducible rfl
 try simp only[aB]
 refine zaM 2 (v:=?_) rfl (by kernel_rfl) (λ_ _ _ h=>h) aC (by rfl) ?_ ?_;rotate_left
 ·intro wz Ft;(try dsimp only[C11,CxS,CyS]at Ft);go_simp;try with_reducible rfl
 try simp only[aB]
 refine zaM 6 (v:=?_) rfl (by kernel_rfl) (λ_ _ _ h=>h) aC (by rfl) ?_ ?_;rotate_left
 ·intro wz Ft;(try dsimp only[C11,CxS,CyS]at Ft);go_simp;try with_reducible rfl
 try simp only[aB]
 refine zaM 8 (v:=?_) rfl (by kernel_rfl) (λ_ _ _ h=>h) aC (by rfl) ?_ ?_;rotate_left
 ·intro wz Ft;(try dsimp only[C11,CxS,CyS]at Ft);go_simp;try with_reducible rfl
 try simp only[aB]
 refine zaa 3 ?_;simp only[aB];refine zaa 9 ?_;simp only[aB];refine zaM 4 (v:=?_) rfl (by kernel_rfl) (λ_ _ _ h=>h) aC (by rfl) ?_ ?_;rotate_left
 ·intro wz Ft;(try dsimp only[C11,CxS,CyS]at Ft);go_simp;try with_reducible rfl
 try simp only[aB]
 refine zaM 10 (v:=?_) rfl (by kernel_rfl) (λ_ _ _ h=>h) aC (by rfl) ?_ ?_;rotate_left
 ·intro wz Ft;(try dsimp only[C11,CxS,CyS]at Ft);go_simp;try with_reducible rfl
 try simp only[aB]
 refine zbP 4 [5,11,12,13] [46,52,8,9] zpk (λo w=>ManyI w2.drew (PpG C (slo2 (zlI C ps X0) (zlI C ps X1)) (tyK 278)) o w) rfl (by decide) (by kernel_rfl) rfl (λo w h=>Ki _ (aH.drew.trans h.fr)) (by kernel_rfl) rfl (λo w p i hI Kj FA FQ K9=>?_) (λo w hI Kj Hb=>?_) (ManyI.zero _ _)
 ·obtain⟨a,b,c,d,rfl⟩:=zhL Kj;rcases p with _|_|_|_|p
  ·simp at FA FQ;subst FA FQ;cases b<;>cases c<;>cases d<;>try exact absurd K9 (by decide)
   all_goals
    simp only[aE,Act.put,List.setIfInBounds_toArray,List.set_cons_zero,List.set_cons_succ];refine wpOp_step (zak rfl) (λKK hK=>?_);go_simp;go_at_call 175;refine(Q9 w ((HB.fr.trans (Fr.refl NoT w2).drew).trans hI.fr)).mono ?_;rintro _ w5 ⟨v0,rfl,Hm,Jf⟩;try dsimp only
    refine hK _ _ ?_;exact⟨v0,by kernel_rfl,hI.put (p:=0) GU.out Hm (PpG.on JX.out) ⟨Jf,aL _,aK GU.out (aK hI.fr.size Hm.size)⟩⟩
  ·simp at FA FQ;subst FA FQ;cases a<;>cases c<;>cases d<;>try exact absurd K9 (by decide)
   all_goals
    simp only[aE,Act.put,List.setIfInBounds_toArray,List.set_cons_zero,List.set_cons_succ];refine wpOp_step (zak rfl) (λKK hK=>?_);go_simp;go_at_call 175;refine(Fz w ((HB.fr.trans (Fr.refl NoT w2).drew).trans hI.fr)).mono ?_;rintro _ w5 ⟨v0,rfl,Hm,Jf⟩;try dsimp only
    refine hK _ _ ?_;exact⟨v0,by kernel_rfl,hI.put (p:=1) GU.out Hm (PpG.on JX.out) ⟨Jf,aL _,aK GU.out (aK hI.fr.size Hm.size)⟩⟩
  ·simp at FA FQ;subst FA FQ;cases a<;>cases b<;>cases d<;>try exact absurd K9 (by decide)
   all_goals
    simp only[aE,Act.put,List.setIfInBounds_toArray,List.set_cons_zero,List.set_cons_succ];refine wpOp_step (zak rfl) (λKK hK=>?_);go_simp;refine hK _ _ ?_;exact⟨_,by kernel_rfl,hI.lay (p:=2) GU.out (PpG.on JX.out) (λv lo hi w h=>h)⟩
  ·simp at FA FQ;subst FA FQ;cases a<;>cases b<;>cases c<;>try exact absurd K9 (by decide)
   all_goals
    simp only[aE,Act.put,List.setIfInBounds_toArray,List.set_cons_zero,List.set_cons_succ];refine wpOp_step (zak rfl) (λKK hK=>?_);go_simp;refine hK _ _ ?_;exact⟨_,by kernel_rfl,hI.lay (p:=3) GU.out (PpG.on JX.out) (λv lo hi w h=>h)⟩
  ·simp at FA
 ·obtain⟨u,v,y1,y2,rfl⟩:=zf6 Kj Hb;obtain⟨gg,cps,hu⟩:∃gg cps,u= .func (.func gg) #[] cps:=by
   obtain⟨_,_,h9,_⟩:=hI.at_ (p:=0) rfl;exact ValP.func h9.1
  obtain⟨DR,uN,hv⟩:∃gg cps,v= .func (.func gg) #[] cps:=by
   obtain⟨_,_,h9,_⟩:=hI.at_ (p:=1) rfl;exact ValP.func h9.1
  obtain⟨g,rfl,hg,LB⟩:=hI.place (p:=2) (ty:=278) (z:= .nilFunc) rfl (λ_ _ _ _ h=>h);obtain⟨g',rfl,WV,LC⟩:=hI.place (p:=3) (ty:=278) (z:= .nilFunc) rfl (λ_ _ _ _ h=>h);have Gh:=hI.two (p:=2) (q:=3) (ty:=278) (z:= .nilFunc) (ty':=278) (z':= .nilFunc) (by decide) rfl rfl (λ_ _ _ _ h=>h) (λ_ _ _ _ h=>h);have h7:=hI.set (p:=2) (ty:=278) (z:= .nilFunc) GU.out (PpG.on JX.out) rfl (λ_ _ _ _ h=>h) u;have h8:=h7.set (p:=3) (ty:=278) (z:= .nilFunc) GU.out (zfz (PpG.on JX.out) _ _ _) rfl (λ_ _ _ _ h=>h) v;obtain⟨xn,Fd,Ks,FB,Js⟩:=h8.at_ (p:=0) rfl;obtain⟨xq,Jq,J0,FS,J1⟩:=h8.at_ (p:=1) rfl;have Ks:ValP C ps u X0 xn Fd _:=Ks.1;have J0:ValP C ps v X1 xq Jq _:=J0.1;have Fo:Bk ((w.setCell ⟨g,0,none⟩ u).setCell ⟨g',0,none⟩ v) g 278 #[u]:=Bk.far (by simpa using LB.set_ 0 u) Gh _;have GS:Bk ((w.setCell ⟨g,0,none⟩ u).setCell ⟨g',0,none⟩ v) g' 278 #[v]:=by simpa using (LC.far (p:=⟨g,0,none⟩) (Ne.symm Gh) u).set_ 0 v
  have HE:=aA (FY _ g g' u v xn Fd xq Jq ((Fr.refl NoT w2).drew.trans h8.fr) Fo hg GS WV Ks FB Js J0 FS J1);have Ut:=aA (Ki _ ((Fr.refl NoT w2).drew.trans h7.fr));have Tb:=LB.cell 0;have N6:=LB.frozen 0;have GY:=LB.lt;have Vx:=LC.cell 0;have yf:=LC.frozen 0;have YM:=LC.lt;have WW:=Ne.symm Gh;simp only[aD]at Tb Vx;simp only[aE,Act.put,List.setIfInBounds_toArray,List.set_cons_zero,List.set_cons_succ];subst hu hv;clear hI h7 h8 Ks J0 FB FS Js J1 LB LC Fo GS aC hg WV Hb Kj;refine zab 14 rfl (by kernel_rfl) (λKK hK=>?_);go_simp;refine hK _ _ (λ_ _=>Ut.out) ?_;clear hK KK;try simp only[aB]
  refine zab 15 rfl (by kernel_rfl) (λKK hK=>?_);go_simp;refine hK _ _ (λh=>absurd h (by decide)) ?_;clear hK KK;try simp only[aB]
  refine zae (by kernel_rfl) ?_;go_wp2_with fail;go_ret;exact HE.out
theorem zpo (C:BgC)(ps:List (List UInt8))(ho:C.Ok)(k:Int)(args:Exs)(of_:Cds)(at_:Int)(hd:hdC k args of_)(hX:∀i k0 n0 m0 a0 t0 r0,Exs.drop i args= .cons k0 n0 m0 a0 t0 r0->ExpC C ps k0 n0 m0 a0 t0)(h:∀i k0 a0 o0 t0 r0,Cds.drop i of_= .cons k0 a0 o0 t0 r0->CndC C ps k0 a0 o0 t0):CndC C ps k args of_ at_:=by
 obtain⟨⟨h1,Pu⟩,h9,Jj,h3⟩:=hd;by_cases k2:k<=2
 ·exact znv ho args of_ (by omega)
 by_cases k8:k<=8
 ·have hl:=h3 (by omega) k8
  match args,hl with
  | .cons k0 n0 m0 a0 t0 (.cons k1 n1 m1 a1 t1 .nil),_=>exact zpn C ps ho k (by omega) k8 _ of_ at_ _ _ _ _ _ _ _ _ _ _ rfl (hX 0 _ _ _ _ _ _ rfl) (hX 1 _ _ _ _ _ _ rfl)
  | .nil,h=>simp[Exs.len]at h
  | .cons _ _ _ _ _ .nil,h=>simp[Exs.len]at h
  | .cons _ _ _ _ _ (.cons _ _ _ _ _ (.cons _ _ _ _ _ _)),h=>simp[Exs.len]at h
 by_cases k9:k=9
 ·subst k9;have hl:=h9 rfl
  match of_,hl with
  | .cons k0 a0 o0 t0 .nil,_=>exact zpl C ps ho args _ at_ _ _ _ _ rfl (h 0 _ _ _ _ _ rfl)
  | .nil,h=>simp[Cds.len]at h
  | .cons _ _ _ _ (.cons _ _ _ _ _),h=>simp[Cds.len]at h
 ·have hk:k=10\/k=11:=by omega
  have hl:=Jj hk
  match of_,hl with
  | .cons k0 a0 o0 t0 (.cons k1 a1 o1 t1 .nil),_=>exact zpm C ps ho k hk args _ at_ _ _ _ _ _ _ _ _ rfl (h 0 _ _ _ _ _ rfl) (h 1 _ _ _ _ _ rfl)
  | .nil,h=>simp[Cds.len]at h
  | .cons _ _ _ _ .nil,h=>simp[Cds.len]at h
  | .cons _ _ _ _ (.cons _ _ _ _ (.cons _ _ _ _ _)),h=>simp[Cds.len]at h
theorem zcr (C:BgC)(ps:List (List UInt8))(ho:C.Ok):∀xs:Cds,wfCb C.n ps xs->∀i k a o t r,Cds.drop i xs= .cons k a o t r->CndC C ps k a o t
 | .nil,_,i,_,_,_,_,_,h=>by cases i<;>simp[Cds.drop]at h
 | .cons k args of_ at_ r,hw,0,k0,a0,o0,t0,r0,h=>by
  simp only[Cds.drop,Cds.cons.injEq]at h;obtain⟨rfl,rfl,rfl,rfl,_⟩:=h;exact zpo C ps ho _ _ _ _ hw.1 (zdU C ps ho _ hw.2.1) (zcr C ps ho _ hw.2.2.1)
 | .cons k args of_ at_ r,hw,i+1,k0,a0,o0,t0,r0,h=>by
  simp only[Cds.drop]at h;exact zcr C ps ho r hw.2.2.2 i _ _ _ _ _ h
def askO (X:Bs->Tru)(e:Ho)(s:Bs):Option Ho×Bs:=
 match X s s.left with
 |(.inl h,l)=>(some h,{s with left:=l})
 |(.inr true,l)=>(none,{s with left:=l})
 |(.inr false,l)=>(some e,{s with left:=l})
def ifD (X:Bs->Tru)(D1 D2:Bs->Option Ho->Bs->Prop)(s:Bs)(h:Option Ho)(t:Bs):Prop:=
 match X s s.left with
 |(.inl h',l)=>h=some h'/\t={s with left:=l}
 |(.inr true,l)=>D1 {s with left:=l} h t
 |(.inr false,l)=>D2 {s with left:=l} h t
def zjG (at_:Int)(s:Bs):Option Ho×Bs:=
 match s.left with
 |0=>(some ⟨2,0,at_⟩,s)
 |m+1=>(none,{s with left:=m})
inductive LpR (X:Bs->Tru) (D:Bs->Option Ho->Bs->Prop) (at_:Int):Bs->Option Ho->Bs->Prop
 |ask {s h l}:X s s.left=(.inl h,l)->LpR X D at_ s (some h) {s with left:=l}
 |done {s l}:X s s.left=(.inr false,l)->LpR X D at_ s none {s with left:=l}
 |leave {s l h t}:X s s.left=(.inr true,l)->D {s with left:=l} (some h) t->LpR X D at_ s (some h) t
 |out {s l t}:X s s.left=(.inr true,l)->D {s with left:=l} none t->t.left=0->LpR X D at_ s (some ⟨2,0,at_⟩) t
 |again {s l t m h u}:X s s.left=(.inr true,l)->D {s with left:=l} none t->t.left=m+1->LpR X D at_ {t with left:=m} h u->LpR X D at_ s h u
def lpD (X:Bs->Tru)(D:Bs->Option Ho->Bs->Prop)(at_:Int)(s:Bs)(h:Option Ho)(t:Bs):Prop:=(s.left=0/\h=some ⟨2,0,at_⟩/\t=s)\/∃m,s.left=m+1/\LpR X D at_ {s with left:=m} h t
section
variable {C:BgC} {ps:List (List UInt8)} {w:World} {lo hi q:Nat} {k:Int} {nm:ByteArray} {at_:Int}
theorem ask_1 {x1 y:Nat}{v1:Value}{X:Bs->Tru}{e:Ho}(ho:C.Ok)(hT:C.T<=lo)(h1:Bx lo hi w x1 223 #[v1])(h2:Bx lo hi w y 85 #[.int .u8 e.kind,.int .u8 e.wrong,.int .i64 e.at_])(F5:TruP C ps v1 X lo hi w):
  DoP C ps (.func (.func 178) #[] #[.pointer (some ⟨x1,0,none⟩),.pointer (some ⟨y,0,none⟩)]) (λs h t=>(h,t)=askO X e s) lo hi w:=by
 obtain⟨g1,xi,rfl,Jk,Hn⟩:=F5;refine⟨_,_,rfl,enters_of Tryz.func178 (by kernel_rfl) rfl,λW oc nb s h t hW hD=>?_⟩;have c1:=(hW.bx ho hT h1).cell 0;simp only[aD]at c1;have hy:=hW.bx ho hT h2;obtain⟨ek,ew,ea⟩:=e;simp only at hy;have HY:=aA (λw1 (hf:Fr (λb=>b=C.R) W w1)=>hy.fr hf (λe=>zg4 ho (aK hT h2.2.1) (.inl e)));have Fz:=aA (Hn W oc nb s hW);unfold Enters at Jk;show Calls Tryz.prog 178 #[.map (some nb),.pointer (some ⟨x1,0,none⟩),.pointer (some ⟨y,0,none⟩)] W (DoQ C oc h t W)
 clear Hn h1 h2 hT ho hW hy;unfold askO at hD;rcases hx:X s s.left with⟨h0|(_|_),l⟩;all_goals
  rw[hx]at hD Fz;obtain⟨rfl,rfl⟩:=Prod.mk.inj hD;clear hD hx;go_enter Tryz.func178,Tryz.ntmps178;go_wp2_with fail;refine Fz.mono ?_;rintro e w1 ⟨rfl,GV,Hd⟩
 ·exact⟨rfl,rfl,GV,Hd.toO⟩
 ·have hy:=HY _ Hd;have y0:=hy.cell 0;have y1:=hy.cell 1;have y2:=hy.cell 2;simp only[aD]at y0 y1 y2;have HQ:=aA (show DoQ C oc (some ⟨ek,ew,ea⟩) {s with left:=l} W (endE ⟨ek,ew,ea⟩) w1 from⟨rfl,GV,Hd.toO⟩);clear GV Hd hy Fz HY c1;unfold zce;go_wp2_with fail;exact⟨rfl,HQ.out⟩
 ·have HQ:=aA (show DoQ C oc none {s with left:=l} W (.returned (.tuple #[])) w1 from⟨rfl,GV,Hd.toO⟩);clear GV Hd Fz HY c1;unfold zce;go_wp2_with fail;go_end0;exact HQ.out
theorem one_1 {x1 x2 x3:Nat}{v1 v2 v3:Value}{X:Bs->Tru}{D1 D2:Bs->Option Ho->Bs->Prop}(ho:C.Ok)(hT:C.T<=lo)(h1:Bx lo hi w x1 223 #[v1])(h2:Bx lo hi w x2 80 #[v2])(h3:Bx lo hi w x3 80 #[v3])
  (F5:TruP C ps v1 X lo hi w) (Kv:DoP C ps v2 D1 lo hi w) (KL:DoP C ps v3 D2 lo hi w) (hX:∀s l,(X s l).2 <=l):
  DoP C ps (.func (.func 108) #[] #[.pointer (some ⟨x1,0,none⟩),.pointer (some ⟨x2,0,none⟩),.pointer (some ⟨x3,0,none⟩)]) (ifD X D1 D2) lo hi w:=by
 obtain⟨g1,xi,rfl,Jk,Hn⟩:=F5;obtain⟨g2,xj,rfl,Lz,Ht⟩:=Kv;obtain⟨g3,ue,rfl,Tc,Ra⟩:=KL;refine⟨_,_,rfl,enters_of Tryz.func108 (by kernel_rfl) rfl,λW oc nb s h t hW hD=>?_⟩;have c1:=(hW.bx ho hT h1).cell 0;simp only[aD]at c1;have LR:=aA (λW' t (h':RunAt C lo hi w W' ps oc nb t)=>(show W'.cell? ⟨x2,0,none⟩=some (.func (.func g2) #[] xj)from(h'.bx ho hT h2).cell 0));have QB:=aA (λW' t (h':RunAt C lo hi w W' ps oc nb t)=>(show W'.cell? ⟨x3,0,none⟩=some (.func (.func g3) #[] ue)from(h'.bx ho hT h3).cell 0));have Fz:=aA (Hn W oc nb s hW);have LL:=aA (λW' s h t (h':RunAt C lo hi w W' ps oc nb s) hd=>Ht W' oc nb s h t h' hd);have Ym:=aA (λW' s h t (h':RunAt C lo hi w W' ps oc nb s) hd=>Ra W' oc nb s h t h' hd);have HW:=aA hW;have Us:=hX s s.left;unfold Enters at Jk Lz Tc;show Calls Tryz.prog 108 #[.map (some nb),.pointer (some ⟨x1,0,none⟩),.pointer (some ⟨x2,0,none⟩),.pointer (some ⟨x3,0,none⟩)] W (DoQ C oc h t W)
 clear Hn Ht Ra h1 h2 h3 hT ho hW hX;unfold ifD at hD;rcases hx:X s s.left with⟨h0|(_|_),l⟩;all_goals
  rw[hx]at hD Fz Us;have Vw:=aA (show l<=s.left from Us);clear hx Us;have HD:=aA hD;clear hD;go_enter Tryz.func108,Tryz.ntmps108;go_wp2_with fail;refine Fz.mono ?_;rintro e w1 ⟨rfl,GV,Hd⟩
 ·obtain⟨rfl,rfl⟩:=HD.out;exact⟨rfl,rfl,GV,Hd.toO⟩
 ·have Jg:=HW.next Hd.toO GV Vw.out;have c3:=QB _ _ Jg;have HC:=aA (Ym _ _ _ _ Jg HD.out);have HF:=aA (show Fr (C.MutO oc) W w1 from Hd.toO);clear GV Hd Jg Fz c1 HD;unfold zce;go_wp2_with fail;refine HC.mono ?_;rintro e w2 ⟨rfl,GH,He⟩;have HQ:=aA (show DoQ C oc h t W (zeI h) w2 from⟨rfl,GH,HF.trans He⟩);clear GH He;cases h with
  |some h=>exact⟨rfl,HQ.out⟩
  |none=>
   unfold zeI;go_wp2_with fail;go_end0;exact HQ.out
 ·have Jg:=HW.next Hd.toO GV Vw.out;have c3:=LR _ _ Jg;have HC:=aA (LL _ _ _ _ Jg HD.out);have HF:=aA (show Fr (C.MutO oc) W w1 from Hd.toO);clear GV Hd Jg Fz c1 HD;unfold zce;go_wp2_with fail;refine HC.mono ?_;rintro e w2 ⟨rfl,GH,He⟩;have HQ:=aA (show DoQ C oc h t W (zeI h) w2 from⟨rfl,GH,HF.trans He⟩);clear GH He;cases h with
  |some h=>exact⟨rfl,HQ.out⟩
  |none=>
   unfold zeI;go_wp2_with fail;go_end0;exact HQ.out
theorem one_3 {p:Nat}{ty:TypeId}{cs:Array Value}(ho:C.Ok)(hT:C.T<=lo)(GE:PgAt C w)(hp:Bx lo hi w p 69 #[.pointer (some ⟨C.P,0,none⟩)])(hq:Bx lo hi w q ty cs)(h6:cs[6]?=some (.int .i64 at_)):
  DoP C ps (.func (.func 112) #[] #[.pointer (some ⟨p,0,none⟩),.pointer (some ⟨q,0,none⟩)]) (λs h t=>(h,t)=zjG at_ s) lo hi w:=by
 refine⟨_,_,rfl,enters_of Tryz.func112 (by kernel_rfl) rfl,λW oc nb s h t M7 hD=>?_⟩;have hW:=M7.fr0 ho (Fr.refl NoT W).drew;have HS:=aA (λW' t (h':RunAt C lo hi w W' ps oc nb t)=>h'.cts ho hT GE hp hq (i:=6) h6);have HC:=aA (zbU hW.st ho at_);have HW:=aA hW;show Calls Tryz.prog 112 #[.map (some nb),.pointer (some ⟨p,0,none⟩),.pointer (some ⟨q,0,none⟩)] W (DoQ C oc h t W)
 have HD:=aA hD;obtain⟨R,hR⟩:=aF C.R;rw[<-hR]at HC;clear hq hp hT hW M7 GE hD ho h6;go_enter Tryz.func112,Tryz.ntmps112;go_wp2_with fail;refine zad (CtS C p q 6 at_) (λ_=>true) (by kernel_rfl) (HS _ _ HW.out) (λaC=>?_);refine zaa 4 ?_;simp only[aB];refine zac 0 aC ?_;simp only[aB];refine zac 5 aC ?_;simp only[aB];refine zaa 1 ?_;simp only[aB];refine zaa 2 ?_;simp only[aB];refine zac 3 aC ?_;simp only[aB];refine zab 6 rfl (by kernel_rfl) (λKK hK=>?_);go_simp;go_at_call 110;rw[<-hR];refine HC.mono ?_;rintro e w1 (⟨h0,rfl,rfl⟩|⟨m,hm,rfl,GV,Hd⟩)
 ·have GT:=HD.out;unfold zjG at GT;simp only[h0]at GT;obtain⟨rfl,rfl⟩:=Prod.mk.inj GT;exact⟨rfl,rfl,HW.st,aH.drew⟩
 have Jg:RunAt C lo hi w w1 ps oc nb {s with left:=m}:=HW.next Hd.toO GV (by show m<=s.left;omega);have hd:=HD.out;unfold zjG at hd;simp only[hm]at hd;obtain⟨rfl,rfl⟩:=Prod.mk.inj hd;have HQ:=aA (show DoQ C oc none {s with left:=m} W (.returned (.tuple #[])) w1 from⟨rfl,GV,(aH.drew.trans Hd).toO⟩);have HH:=aA (HS _ _ Jg);clear GV Hd Jg hm HC aC HD hd;try dsimp only
 refine hK _ _ (λ_ _=>HH.out) ?_;clear hK KK;try simp only[aB]
 refine zae (by kernel_rfl) ?_;go_wp2_with fail;go_end0;exact HQ.out
end
