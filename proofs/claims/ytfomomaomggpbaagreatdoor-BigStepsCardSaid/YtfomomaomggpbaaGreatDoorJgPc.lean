/- parse: conditions as values; what joins two. -/
import Derived.Test.YtfomomaomggpbaaGreatDoorJgIdx
set_option linter.all false
set_option maxHeartbeats 3200000
set_option maxRecDepth 100000
namespace Go.Proofs.YtfomomaomggpbaaGreatDoor
open Go.RowKit Go.Shelf
def zc3 (kind:Int)(k at_:Int)(a b:Cn):Cn:=⟨kind,.nil,a.cons (b.cons .nil),at_⟩
def cdV (k:Int)(A:Option Addr)(l c:Nat)(B:Option Addr)(m e:Nat)(at_:Int):Value:= .agg #[.int .u8 k,.slice A l c,.slice B m e,.int .i64 at_]
def CdVS (w:World)(S:Nat->Prop)(v:Value)(x:Cn):Prop:=
 in8 x.k/\in64 x.at_/\∃A c B e,v=cdV x.k A x.args.len c B x.of_.len e x.at_/\SlR (ExR w S False x.args) x.args.len 64 A c/\SlR (CdR w S False x.of_) x.of_.len 64 B e
def CdV (w:World)(L:Nat)(v:Value)(x:Cn):Prop:=CdVS w (New L w) v x
theorem CdVS.keep {w w':World}{S S':Nat->Prop}{v:Value}{x:Cn}(h:CdVS w S v x)(hf:SameS S w w')(hs:∀b,S b->S' b):CdVS w' S' v x:=by
 obtain⟨h1,h2,A,c,B,e,he,ha,ho⟩:=h;exact⟨h1,h2,A,c,B,e,he,ha.imp λ_ _ hx=>ExR.more hs (ExR.keep hf hx),ho.imp λ_ _ hx=>CdR.more hs (CdR.keep hf hx)⟩
theorem CdVS.fr {w w':World}{S S' T:Nat->Prop}{v:Value}{x:Cn}(h:CdVS w S v x)(hf:Fr T w w')(ht:∀b,S b->b < w.heap.size/\¬T b)(hs:∀b,S b->S' b):CdVS w' S' v x:=h.keep (hf.same ht) hs
theorem CdV.fr {w w':World}{L:Nat}{T:Nat->Prop}{v:Value}{x:Cn}(h:CdV w L v x)(hf:Fr T w w')(ht:∀b,L<=b->b < w.heap.size->¬T b):CdV w' L v x:=
 CdVS.fr h hf (λb hb=>⟨hb.2,ht b hb.1 hb.2⟩) λb hb=>⟨hb.1,ltq hb.2 hf.size⟩
theorem CdV.low {w:World}{L L':Nat}{v:Value}{x:Cn}(h:CdV w L v x)(hl:L'<=L):CdV w L' v x:=
 CdVS.keep h (SameS.refl _ _) λb hb=>⟨leq9 hl hb.1,hb.2⟩
theorem CdVS.parts {w:World}{S:Nat->Prop}{v:Value}{x:Cn}(h:CdVS w S v x):∃A c B e,v=cdV x.k A x.args.len c B x.of_.len e x.at_:=by
 obtain⟨_,_,A,c,B,e,he,_⟩:=h;exact⟨A,c,B,e,he⟩
theorem znj {w:World}{S:Nat->Prop}{g:Nat}{t:TypeId}{x y:Cn}{A B A' B':Option Addr}{c e c' e':Nat}(hb:Bk w g t #[.int .u8 x.k,.slice A x.args.len c,.slice B x.of_.len e,.int .i64 x.at_,.int .u8 y.k,.slice A' y.args.len c',.slice B' y.of_.len e',.int .i64 y.at_])(hg:S g)
  (h1:in8 x.k/\in64 x.at_) (h2:in8 y.k/\in64 y.at_) (hx:SlR (ExR w S False x.args) x.args.len 64 A c) (XZ:SlR (CdR w S False x.of_) x.of_.len 64 B e) (hy:SlR (ExR w S False y.args) y.args.len 64 A' c') (j6:SlR (CdR w S False y.of_) y.of_.len 64 B' e'):CdR w S False (x.cons (y.cons .nil)) g 0:=
 ⟨⟨hg,λh=>absurd h id,h1.1,h1.2,hb.cell 0,hb.cell 3⟩,⟨A,c,hb.cell 1,hx⟩,⟨B,e,hb.cell 2,XZ⟩,
  ⟨hg,λh=>absurd h id,h2.1,h2.2,hb.cell 4,hb.cell 7⟩,⟨A',c',hb.cell 5,hy⟩,⟨B',e',hb.cell 6,j6⟩,trivial⟩
theorem zjl {w:World}{S:Nat->Prop}{g:Nat}{t:TypeId}{x:Cn}{A B:Option Addr}{c e:Nat}(hb:Bk w g t #[.int .u8 x.k,.slice A x.args.len c,.slice B x.of_.len e,.int .i64 x.at_])(hg:S g)
  (h1:in8 x.k/\in64 x.at_) (hx:SlR (ExR w S False x.args) x.args.len 64 A c) (XZ:SlR (CdR w S False x.of_) x.of_.len 64 B e):CdR w S False (x.cons .nil) g 0:=
 ⟨⟨hg,λh=>absurd h id,h1.1,h1.2,hb.cell 0,hb.cell 3⟩,⟨A,c,hb.cell 1,hx⟩,⟨B,e,hb.cell 2,XZ⟩,trivial⟩
def JoinP (k at_:Int)(xs:Array Value)(W:World)(e:Ending)(w':World):Prop:=
 ∃g,e= .returned (.agg #[.int .u8 k,.slice none 0 0,.slice (some ⟨g,0,none⟩) 2 2,.int .i64 at_])/\Bk w' g 179 xs/\W.heap.size<=g/\g < w'.heap.size/\Fr NoT W w'
theorem zhp (f:Int)(w:World):Calls Tryz.prog 311 #[.int .u8 f] w λe w'=>e= .returned (.func (.func 312) #[] #[.pointer (some ⟨w.heap.size,0,none⟩)])/\w'=w.alloc (.cells #[.int .u8 f] 5):=by
 have Jt:= @makeF Tryz.prog;go_enter Tryz.func311,Tryz.ntmps311;go_wp2;go_ret;exact⟨rfl,rfl⟩
theorem zjm (f k at_:Int)(bx:Nat)(k1 a1 k2 a2:Int)(A1 B1 A2 B2:Option Addr)(l1 l2 c1 c2 m1 m2 e1 e2:Nat)(w:World)(hbx:bx < w.heap.size)(hf:w.cell? ⟨bx,0,none⟩=some (.int .u8 f)):
  Calls Tryz.prog 312 #[.int .i64 k,.int .i64 at_,.agg #[.int .u8 k1,.slice A1 l1 c1,.slice B1 m1 e1,.int .i64 a1],.agg #[.int .u8 k2,.slice A2 l2 c2,.slice B2 m2 e2,.int .i64 a2],.pointer (some ⟨bx,0,none⟩)] w
   (JoinP f at_ #[.int .u8 k1,.slice A1 l1 c1,.slice B1 m1 e1,.int .i64 a1,.int .u8 k2,.slice A2 l2 c2,.slice B2 m2 e2,.int .i64 a2] w):=by
 have z1:bx < w.heap.size+1:=by omega
 have z2:bx < w.heap.size+1+1:=by omega
 go_enter Tryz.func312,Tryz.ntmps312;go_wp2;refine bodyPost_ret (v:= .agg #[.int .u8 f,.slice none 0 0,.slice (some ⟨w.heap.size+1+1+1,0,none⟩) 2 2,.int .i64 at_]) (by simp[results,Tryz.results312,go_sem]) rfl ?_;exact⟨_,rfl,Bk.new_at _ _ _ (by simp),by omega,by simp,((((Fr.refl _ _).alloc _).alloc _).alloc _).alloc _⟩
def CdP (C:Pcx)(d:Nat)(r:PR Cn)(W:World)(e:Ending)(w':World):Prop:=
 match r with
 | .err c a=>e=zae c a/\Fr C.T W w'
 | .ok x l=>∃v,e= .returned v/\CdV w' W.heap.size v x/\PaAt C w' l d/\Fr C.T W w'
theorem CdP.ways {C:Pcx}{d:Nat}{r:PR Cn}{W w':World}{e:Ending}(h:CdP C d r W e w'):
  (∃(x:Cn)(l:List Tk)(A:Option Addr)(c:Nat)(B:Option Addr)(q:Nat),r= .ok x l/\e= .returned (.agg #[.int .u8 x.k,.slice A x.args.len c,.slice B x.of_.len q,.int .i64 x.at_])/\CdV w' W.heap.size (cdV x.k A x.args.len c B x.of_.len q x.at_) x/\PaAt C w' l d/\Fr C.T W w')\/
   ∃c a,r= .err c a/\e= .panicked [{v:= .iface 161 (.agg #[.int .i64 c,.int .i64 a]),recovered:=false}]/\Fr C.T W w':=by
 unfold CdP at h;cases r with
 |err c a=>exact .inr ⟨c,a,rfl,h⟩
 |ok x l=>
  obtain⟨v,rfl,hv,hp,hf⟩:=h;obtain⟨A,c,B,q,rfl⟩:=CdVS.parts hv;exact .inl ⟨x,l,A,c,B,q,rfl,rfl,hv,hp,hf⟩
/-! plain conditions -/
def cmpS:List (List UInt8):= [[60], [60,61], [62], [62,61], [61,61], [33,61]]
def notS:List (List UInt8):= [[33], [91], [116,114,117,101], [102,97,108,115,101]]
def zf0 (nt:List Tk->PR Cn)(l:List Tk):PR Cn:=zaT (zaT nt (zc3 10) [[38,38]]) (zc3 11) [[124,124]] l
def cmpP (n:Nat)(l:List Tk):PR Cn:=
 (zaL n l).then λx r=>if isP cmpS r < 0 then .err 90 (hdT r).at_ else(zaL n r.tail).then λy q=> .ok ⟨3+isP cmpS r,x.cons (y.cons .nil),.nil,(hdT r).at_⟩ q
def notP:Nat->List Tk->PR Cn
 |n,l=>
  if isP notS l=0 then(match n with
   |0=> .err 91 (hdT l).at_
   |n+1=>(notP n l.tail).then λc r=> .ok ⟨9,.nil,c.cons .nil,(hdT l).at_⟩ r)
  else if isP notS l=1 then(match n with
   |0=> .err 91 (hdT l).at_
   |n+1=>(zf0 (notP n) l.tail).then λc r=>(zal [93] r).then λ_ r=> .ok c r)
  else if isP notS l=2\/isP notS l=3 then .ok ⟨1+(isP notS l - 2),.nil,.nil,(hdT l).at_⟩ l.tail
  else cmpP n l
def zdX (n:Nat)(l:List Tk):PR Cn:=zf0 (notP n) l
theorem zib {nt:List Tk->PR Cn}(h:Shr nt):Shr (zf0 nt):=zaA (zaA h)
theorem zhq (n:Nat):Shr (cmpP n):=λl y r e=>by
 obtain⟨a,q,h1,h2⟩:=PR.then_ok e;have:=zdT n _ _ _ h1;split at h2
 ·simp at h2
 ·obtain⟨b,q2,h3,h4⟩:=PR.then_ok h2;simp only[PR.ok.injEq]at h4;have h5:=zdT n _ _ _ h3;rw[List.length_tail]at h5;rw[<-h4.2];omega
theorem zcH:∀n,Shr (notP n)
 |0=>λl y r e=>by
  simp only[notP]at e;split at e
  ·simp at e
  ·split at e
   ·simp at e
   ·split at e
    ·simp only[PR.ok.injEq]at e;rw[<-e.2,List.length_tail];omega
    ·exact zhq 0 _ _ _ e
 |n+1=>λl y r e=>by
  have ih:=zcH n;simp only[notP]at e;split at e
  ·obtain⟨a,q,h1,h2⟩:=PR.then_ok e;simp only[PR.ok.injEq]at h2;have:=ih _ _ _ h1;rw[List.length_tail]at this;rw[<-h2.2];omega
  ·split at e
   ·obtain⟨a,q,h1,h2⟩:=PR.then_ok e;obtain⟨u,q2,h3,h4⟩:=PR.then_ok h2;simp only[PR.ok.injEq]at h4;have:=zib ih _ _ _ h1;rw[List.length_tail]at this;rw[<-h4.2,zbA h3,List.length_tail];omega
   ·split at e
    ·simp only[PR.ok.injEq]at e;rw[<-e.2,List.length_tail];omega
    ·exact zhq (n+1) _ _ _ e
structure ChC (C:Pcx)(w:World)(bx d:Nat)(R:PR Cn)(one:List Tk->PR Cn)(first:Int)(signs:List (List UInt8))(wr:World)(x:Cn)(A:Option Addr)(c:Nat)(B:Option Addr)(pc:Nat)(l:List Tk):Prop where
 eq:∃f,R=zaH one (zc3 first) signs f x l/\l.length<=f
 box0:Bk wr w.heap.size 179 #[.int .u8 0,.slice none 0 0,.slice none 0 0,.int .i64 0]
 box:Bk wr bx 179 #[.int .u8 x.k,.slice A x.args.len c,.slice B x.of_.len pc,.int .i64 x.at_]
 hbx:w.heap.size+1<=bx
 val:CdVS wr (NewX (w.heap.size+1) bx wr) (cdV x.k A x.args.len c B x.of_.len pc x.at_) x
 pa:PaAt C wr l d
 fr:Fr C.T w wr
theorem zlu {C:Pcx}{w wr w5 w7 w8:World}{bx d:Nat}{R:PR Cn}{one:List Tk->PR Cn}{first:Int}{signs:List (List UInt8)}{x y:Cn}{A A2 B B2:Option Addr}{c1 c2 yq zh:Nat}{r l2:List Tk}{k:Int}{g2:Nat}
  (hk:C.Ok) (hL:C.P < w.heap.size/\C.TB < w.heap.size/\C.W0.heap.size<=w.heap.size) (Gr:ChC C w bx d R one first signs wr x A c1 B yq r) (KP:bx≠C.P) (Hj:Fr C.T wr w5) (NE:CdV w7 w5.drew.heap.size (cdV y.k A2 y.args.len c2 B2 y.of_.len zh y.at_) y) (GY:PaAt C w7 l2 d) (Hp:Fr C.T w5.drew w7)
  (PE:Bk w8 g2 179 #[.int .u8 x.k,.slice A x.args.len c1,.slice B x.of_.len yq,.int .i64 x.at_,.int .u8 y.k,.slice A2 y.args.len c2,.slice B2 y.of_.len zh,.int .i64 y.at_])
  (PF:w7.heap.size<=g2/\g2 < w8.heap.size) (GF:Fr NoT w7 w8) (FM:Bk w8 bx 179 #[.int .u8 x.k,.slice A x.args.len c1,.slice B x.of_.len yq,.int .i64 x.at_])
  (Ks:∃f,R=zaH one (zc3 first) signs f (zc3 first k (hdT r).at_ x y) l2/\l2.length<=f) (Fz:0<=k) (Km:k<=5) (Jc:0<=first) (Hg:first<=20) (w9:World)
  (LK:w9=((((w8.setCell ⟨bx,0,none⟩ (.int .u8 first)).setCell ⟨bx,1,none⟩ (.slice none 0 0)).setCell ⟨bx,2,none⟩ (.slice (some ⟨g2,0,none⟩) 2 2)).setCell ⟨bx,3,none⟩ (.int .i64 ((hdT r).at_ :Int)))):
  ChC C w bx d R one first signs w9 (zc3 first k (hdT r).at_ x y) none 0 (some ⟨g2,0,none⟩) 2 l2:=by
 have Gk:Fr (λb=>b=bx) w8 w9:=by rw[LK];exact Fr.own (Fr.own (Fr.own (Fr.own (Fr.refl _ _) _ _) _ _) _ _) _ _
 have Ll:bx < wr.heap.size:=Gr.box.lt;have Uq:=Gr.fr.size;have Rc:=Hj.size;have NF:w5.heap.size<=w7.heap.size:=Hp.size;have WY:=GF.size;have Po:=Gk.size;have Gw:=Gr.hbx;have hT:∀b,C.T b->b=C.P:=λ_ h=>h;have FX:Fr (λb=>b=C.P\/b=bx) wr w9:=
  (((Hj.drew.mono λi _ h=>Or.inl (hT i h)).trans (Hp.mono λi _ h=>Or.inl (hT i h))).trans GF.any).trans (Gk.mono λi _ h=>Or.inr h)
 have Mt:Fr (λb=>b=bx) w7 w9:=GF.any.trans Gk;have Hh:in64 ((hdT r).at_ :Int):=by
  obtain⟨j,cap,e,_⟩:=Gr.pa.at_;have:=hk.pos _ (List.mem_of_getElem? (zaI e Gr.pa.ne).1);unfold in64;omega
 obtain⟨x1,x3,Ax,cx,Bx,qx,ex,Ju,Vb⟩:=Gr.val;obtain⟨y1,y3,Ay,cy,By,qy,ey,U4,j7⟩:=NE;simp only[cdV,Value.agg.injEq,Array.mk.injEq,List.cons.injEq,Value.slice.injEq,true_and,and_true]at ex ey;obtain⟨⟨rfl,rfl⟩,rfl,rfl⟩:=ex;obtain⟨⟨rfl,rfl⟩,rfl,rfl⟩:=ey;refine⟨Ks,?_,?_,Gr.hbx,?_,?_,?_⟩
 ·exact(Gr.box0.fr FX (λe=>by
   rcases e with e|e<;>omega))
 ·rw[LK];have:=(((FM.set_ 0 (.int .u8 first)).set_ 1 (.slice none 0 0)).set_ 2 (.slice (some ⟨g2,0,none⟩) 2 2)).set_ 3 (.int .i64 ((hdT r).at_ :Int));have e:Bk ((((w8.setCell ⟨bx,0,none⟩ (.int .u8 first)).setCell ⟨bx,1,none⟩ (.slice none 0 0)).setCell ⟨bx,2,none⟩ (.slice (some ⟨g2,0,none⟩) 2 2)).setCell ⟨bx,3,none⟩ (.int .i64 ((hdT r).at_ :Int))) bx 179 #[.int .u8 first,.slice none 0 0,.slice (some ⟨g2,0,none⟩) 2 2,.int .i64 ((hdT r).at_ :Int)]:=by simpa using this
  exact e
 ·have hX:∀b,NewX (w.heap.size+1) bx wr b->(b < wr.heap.size/\¬(b=C.P\/b=bx))/\NewX (w.heap.size+1) bx w9 b:=λb hb=>
   ⟨⟨hb.2.1,λe=>by
    rcases e with e|e
    ·have:=hb.1;omega
    ·exact hb.2.2 e⟩,hb.1,by have:=hb.2.1;omega,hb.2.2⟩
  have hY:∀b,New w5.drew.heap.size w7 b->(b < w7.heap.size/\¬b=bx)/\NewX (w.heap.size+1) bx w9 b:=λb hb=>by
   have h1:w5.heap.size<=b:=hb.1;have h2:b < w7.heap.size:=hb.2;exact⟨⟨h2,by omega⟩,by omega,by omega,by omega⟩
  refine⟨by show in8 first;unfold in8;omega,Hh,none,0,some ⟨g2,0,none⟩,2,rfl,⟨lrq 0,sl0,λh=>absurd h (by exact Nat.lt_irrefl 0)⟩,lrq 2,sl2,λ_=>⟨g2,0,rfl,?_⟩⟩;refine znj (PE.fr Gk (λe=>by omega)) ⟨by omega,by omega,by omega⟩ ⟨x1,x3⟩ ⟨y1,y3⟩ (Ju.imp λ_ _ h=>?_) (Vb.imp λ_ _ h=>?_) (U4.imp λ_ _ h=>?_) (j7.imp λ_ _ h=>?_)
  ·exact ExR.more (λb hb=>(hX b hb).2) (ExR.keep (FX.same λb hb=>(hX b hb).1) h)
  ·exact CdR.more (λb hb=>(hX b hb).2) (CdR.keep (FX.same λb hb=>(hX b hb).1) h)
  ·exact ExR.more (λb hb=>(hY b hb).2) (ExR.keep (Mt.same λb hb=>(hY b hb).1) h)
  ·exact CdR.more (λb hb=>(hY b hb).2) (CdR.keep (Mt.same λb hb=>(hY b hb).1) h)
 ·refine GY.fr Mt (λe=>KP e.symm) (λe=>?_) (λi hi e=>?_)
  ·omega
  ·omega
 ·rw[LK];have:=((Gr.fr.trans Hj).drew.trans Hp).trans GF.any;exact Fr.high (Fr.high (Fr.high (Fr.high this (by omega) _ _) (by omega) _ _) (by omega) _ _) (by omega) _ _
theorem zic (C:Pcx)(one:List Tk->PR Cn)(first:Int)(signs:List (List UInt8))(g:Nat)(fst cap:Array Value)(bt b c:Nat)(l:List Tk)(d:Nat)(w:World)(hk:C.Ok)(h:PaAt C w l d)(Jm:Shr one)
  (LJ:∀s∈signs,s≠ []) (Fu:signs.length<=3) (hc:∀j,j < signs.length->w.cell? ⟨b,j,none⟩=some (.string ⟨(signs.getD j []).toArray⟩)) (Ll:b < w.heap.size) (SR:b≠C.P)
  (Mu:Bk w bt 5 #[.int .u8 first]) (LZ:bt≠C.P) (Jc:0<=first) (Hg:first<=20)
  (hent:Enters Tryz.prog g) (GM:∀W,Fr C.T w W->∀l',PaAt C W l' d->Calls Tryz.prog g (fst++cap) W (CdP C d (one l') W)):
  Calls Tryz.prog 314 #[pP C,.func (.func g) fst cap,.func (.func 312) #[] #[.pointer (some ⟨bt,0,none⟩)],.slice (some ⟨b,0,none⟩) signs.length c] w (CdP C d (zaT one (zc3 first) signs l) w):=by
 obtain⟨R,hR⟩:=nmq (zaT one (zc3 first) signs l);rw[<-hR];have HR:=hdq hR;have H0:=hdq h;have HL:=hdq h.lts;have JF:=hdq GM;obtain⟨n,hn⟩:=nmq signs.length;have HC:=hdq hc;have XL:=hdq LJ;have HN:=hdq hn;rw[<-hn]at Fu ⊢;unfold Enters at hent;have h2:=h.alloc (.cells #[.int .u8 0,.slice none 0 0,.slice none 0 0,.int .i64 0] 179);have H2:=hdq h2;clear hR h GM hc LJ hn h2;cases ho:one l with
 |err e a=>
  have hq:=JF _ ((Fr.refl C.T w).alloc (.cells #[.int .u8 0,.slice none 0 0,.slice none 0 0,.int .i64 0] 179)) l H2.out;rw[ho]at hq;have PG:R= .err e a:=by rw[HR.out];unfold zaT;rw[ho];rfl
  rw[PG];unfold CdP at hq ⊢;simp only at hq ⊢;unfold zae pP at*;have HQ:=hdq hq;clear hq ho PG;go_enter Tryz.func314,Tryz.ntmps314;go_wp2_with fail;try simp only[Array.append_empty]
  refine HQ.mono ?_;rintro _ w2 ⟨rfl,hf⟩;go_wp2_with fail;exact⟨rfl,rfl,((Fr.refl _ _).alloc _).trans hf⟩
 |ok x l1=>
  have hq:=JF _ ((Fr.refl C.T w).alloc (.cells #[.int .u8 0,.slice none 0 0,.slice none 0 0,.int .i64 0] 179)) l H2.out;rw[ho]at hq;have PG:R=zaH one (zc3 first) signs l1.length x l1:=by rw[HR.out];unfold zaT;rw[ho];rfl
  have SS:=hdq PG;unfold CdP at hq;simp only at hq;unfold pP at*;have HQ:=hdq hq;clear hq ho PG;go_enter Tryz.func314,Tryz.ntmps314;go_wp2_with fail;try simp only[Array.append_empty]
  refine HQ.mono ?_;rintro _ w2 ⟨v,rfl,hv,GI,hf⟩;obtain⟨A,c1,B,yq,rfl⟩:=CdVS.parts hv;have Gr:ChC C w w2.heap.size d R one first signs (w2.alloc (.cells #[.int .u8 x.k,.slice A x.args.len c1,.slice B x.of_.len yq,.int .i64 x.at_] 179)) x A c1 B yq l1:=by
   have hs:=hf.size;rw[World.size_alloc]at hs;refine⟨⟨_,SS.out,lrq _⟩,?_,Bk.new _ _ _,hs,?_,GI.alloc _,(((Fr.refl _ _).alloc _).trans hf).alloc _⟩
   ·exact((Bk.new w _ _).fr hf (λe=>by have e:w.heap.size=C.P:=e;have:=HL.1;omega)).alloc _
   ·refine CdVS.fr (T:=NoT) hv ((Fr.refl _ _).alloc _) (λb hb=>⟨hb.2,id⟩) λb hb=>?_;have h1:=hb.1;have h2:=hb.2;rw[World.size_alloc]at h1;exact⟨h1,by rw[World.size_alloc];omega,by omega⟩
  obtain⟨bx,hbx⟩:=nmq w2.heap.size;obtain⟨w3,GL⟩:=nmq (w2.alloc (.cells #[.int .u8 x.k,.slice A x.args.len c1,.slice B x.of_.len yq,.int .i64 x.at_] 179));rw[<-hbx,<-GL]at Gr;unfold cdV;have ST:=hdq Gr;have JC:=hdq hbx;have L0:=hdq GL;have U5:∀W l',Fr C.T w W->PaAt C W l' d->Calls Tryz.prog 200 #[.pointer (some ⟨C.P,0,none⟩),.slice (some ⟨b,0,none⟩) n c] W λe w'=>e= .returned (.int .i64 (isP signs l'))/\W=w':=λW l' hF hP=>by
   have:=zhh C signs l' d b 0 c W hP (by rw[<-HN.out];omega) (λj hj=>by
    rw[Nat.zero_add];exact(hF.cell (p:=⟨b,j,none⟩) Ll SR).trans (HC j hj))
   rw[<-HN.out]at this;exact this
  have QX:=hdq U5;clear hv GI hf Gr hbx GL U5;go_wp2_with fail;rw[<-L0.out];refine(QX _ _ ST.fr ST.pa).mono ?_;rintro _ w4 ⟨rfl,rfl⟩;rw[<-JC.out];go_wp2_with fail;go_loopw [10] (λv wr=>∃(x:Cn)(A:Option Addr)(c1:Nat)(B:Option Addr)(yq:Nat)(r:List Tk),v= .int .i64 (isP signs r)/\Hid (ChC C w bx d R one first signs wr x A c1 B yq r)) (λ_ wr=>lenP C wr);case atStart=>exact⟨x,A,c1,B,yq,l1,rfl,ST⟩
  case round=>
   obtain⟨x,A,c1,B,yq,r,rfl,Gr⟩:=hrel;obtain⟨k,Gz⟩:=nmq (isP signs r);rw[<-Gz];have b1:=Gr.box.cell 0;have b2:=Gr.box.cell 1;have b3:=Gr.box.cell 2;have b4:=Gr.box.cell 3;have b0:=Gr.box0.cell 0;simp only[getsL]at b1 b2 b3 b4;have MX:=hdq Gz;clear Gz;by_cases FE:k < 0
   ·clear b0;have g0:=Gr.box0.frozen 0;have g1:=Gr.box0.frozen 1;have g2:=Gr.box0.frozen 2;have g3:=Gr.box0.frozen 3;have q0:=Gr.box0.cell 0;have q1:=Gr.box0.cell 1;have q2:=Gr.box0.cell 2;have q3:=Gr.box0.cell 3;have SU:=Gr.box0.lt;simp only[getsL]at q0 q1 q2 q3;have Gc:¬0<=k:=by omega
    have Ks:R= .ok x r:=by
     obtain⟨f,hf,_⟩:=Gr.eq;rw[hf];cases f with
     |zero=>rfl
     |succ f=>simp only[zaH];rw[if_pos (by rw[<-MX.out];exact FE)]
    have G3:=hdq Ks;clear Ks;go_wp2_with fail;refine bodyPost_ret (v:=cdV x.k A x.args.len c1 B x.of_.len yq x.at_) (by simp[results,Tryz.results314,go_sem,cdV,q0,q1,q2,q3,SU]) rfl ?_;rw[G3.out];unfold CdP;simp only;have GU:Fr (λb=>b=w.heap.size) wr ((((wr.setCell ⟨w.heap.size,0,none⟩ (.int .u8 x.k)).setCell ⟨w.heap.size,1,none⟩ (.slice A x.args.len c1)).setCell ⟨w.heap.size,2,none⟩ (.slice B x.of_.len yq)).setCell ⟨w.heap.size,3,none⟩ (.int .i64 x.at_)):=by
     exact Fr.own (Fr.own (Fr.own (Fr.own (Fr.refl _ _) _ _) _ _) _ _) _ _
    refine⟨_,rfl,CdVS.fr Gr.val GU (λb hb=>⟨hb.2.1,λe=>by have:=hb.1;omega⟩) (λb hb=>⟨by have:=hb.1;omega,by have:=hb.2.1;have:=GU.size;omega⟩),?_,?_⟩
    ·refine Gr.pa.fr GU (λe=>?_) (λe=>?_) (λi hi e=>?_)<;>have:=HL.out<;>omega
    ·exact Fr.high (Fr.high (Fr.high (Fr.high Gr.fr (lrq _) _ _) (lrq _) _ _) (lrq _) _ _) (lrq _) _ _
   ·have Fz:0<=k:=by omega
    have LY:=zcF (signs:=signs) (l:=r) (by rw[<-MX.out];exact Fz);have U6:=XL _ LY.1;have Js:=zbk C r d wr hk Gr.pa (λht=>U6 ht.1);unfold zdQ tkV pP at Js;have Mg:=hdq Js;have Km:k<=5:=by
     have:=zhj signs r;rw[<-MX.out,<-HN.out]at this;omega
    clear FE Js LY U6;go_wp2_with fail;refine Mg.mono ?_;rintro _ w5 ⟨rfl,GI,hf⟩;have KP:bx≠C.P:=by have:=Gr.hbx;have:=HL.1;omega
    have FT:=Gr.box.fr hf KP;have Rd:=hdq GI;have Gl:=hdq (Gr.fr.trans hf);have XM:=hdq hf;have y1:=FT.cell 0;have y2:=FT.cell 1;have y3:=FT.cell 2;have y4:=FT.cell 3;simp only[getsL]at y1 y2 y3 y4;have SV:=hdq FT;have GM:=λW hW=>JF W hW r.tail;clear GI hf FT b0 b1 b2 b3 b4;go_wp2_with fail;cases ho:one r.tail with
    |err e a=>
     have hq:=GM _ Gl.drew (Rd.fr (T:=NoT) (Fr.drew (Fr.refl _ _)) id id (λ_ _=>id));rw[ho]at hq;unfold CdP at hq;simp only at hq;unfold zae at hq;have Sd:=hdq hq;have Ks:R= .err e a:=by
      obtain⟨f,hf,FB⟩:=Gr.eq;have FO:0 < r.length:=List.length_pos_iff.2 Gr.pa.ne;obtain⟨f,rfl⟩:∃f',f=f'+1:=⟨f - 1,by omega⟩;rw[hf];simp only[zaH];rw[if_neg (by rw[<-MX.out];omega),ho];rfl
     have G3:=hdq Ks;clear hq Ks ho GM
     go_region_dies
     all_goals
      refine Sd.mono ?_;rintro _ w7 ⟨rfl,Hp⟩;go_wp2_with fail;exact⟨rfl,by rw[G3.out];exact⟨rfl,Gl.drew.trans Hp⟩⟩
    |ok y l2=>
     have hq:=GM _ Gl.drew (Rd.fr (T:=NoT) (Fr.drew (Fr.refl _ _)) id id (λ_ _=>id));rw[ho]at hq;unfold CdP at hq;simp only at hq;have Sd:=hdq hq;have Ks:∃f,R=zaH one (zc3 first) signs f (zc3 first k (hdT r).at_ x y) l2/\l2.length<=f:=by
      obtain⟨f,hf,FB⟩:=Gr.eq;have FO:0 < r.length:=List.length_pos_iff.2 Gr.pa.ne;obtain⟨f,rfl⟩:∃f',f=f'+1:=⟨f - 1,by omega⟩;refine⟨f,?_,?_⟩
      ·rw[hf];simp only[zaH];rw[if_neg (by rw[<-MX.out];omega),ho,<-MX.out];rfl
      ·have:=Jm _ _ _ ho;rw[List.length_tail]at this;omega
     have G3:=hdq Ks;have HS:=hdq (Jm _ _ _ ho);clear hq Ks ho GM
     go_region_with
      (first
       |(go_at_call 312
         with_reducible refine(zjm first k (hdT r).at_ bt x.k x.at_ y.k y.at_ A B A2 B2 x.args.len y.args.len c1 c2 x.of_.len y.of_.len yq zh w7 PH.out.1 PH.out.2).mono ?_
         rintro _ w8 ⟨g2,rfl,PE,PF,PI,GF⟩;have FM:=WZ.fr0 GF;have q1:=FM.cell 0;have q2:=FM.cell 1;have q3:=FM.cell 2;have q4:=FM.cell 3;have f1:=FM.frozen 0;have f2:=FM.frozen 1;have f3:=FM.frozen 2;have f4:=FM.frozen 3;simp only[getsL]at q1 q2 q3 q4;have XN:=hdq PE;have U7:=hdq (show w7.heap.size<=g2/\g2 < w8.heap.size from⟨PF,PI⟩);have QY:=hdq GF;have QZ:=hdq FM;clear PE PF PI GF FM z1 z2 z3 z4
         skip)
       |(with_reducible refine Sd.out.mono ?_
         rintro _ w7 ⟨v7,rfl,NE,PJ,Hp⟩;obtain⟨A2,c2,B2,zh,rfl⟩:=CdVS.parts NE;have Hf:=(SV.fr (Fr.drew (Fr.refl NoT _)) id).fr Hp KP;have z1:=Hf.cell 0;have z2:=Hf.cell 1;have z3:=Hf.cell 2;have z4:=Hf.cell 3;simp only[getsL]at z1 z2 z3 z4;have WZ:=hdq Hf;have M7:=hdq NE;have KQ:=hdq PJ;have GV:=hdq Hp;have M8:=((Mu.fr Gl.out LZ).fr (Fr.drew (Fr.refl NoT _)) id).fr Hp LZ;have PH:=hdq (show bt < w7.heap.size/\w7.cell? ⟨bt,0,none⟩=some (.int .u8 first)from⟨M8.lt,M8.cell 0⟩);clear Hf NE PJ Hp M8;unfold cdV))
     all_goals(go_wp2_with fail)
     all_goals
      obtain⟨w9,LK⟩:=nmq (((((w8.setCell ⟨bx,0,none⟩ (.int .u8 first)).setCell ⟨bx,1,none⟩ (.slice none 0 0)).setCell ⟨bx,2,none⟩ (.slice (some ⟨g2,0,none⟩) 2 2)).setCell ⟨bx,3,none⟩ (.int .i64 ((hdT r).at_ :Int))));have M9:=zlu hk HL.out Gr.out KP XM.out M7.out KQ.out GV.out XN.out U7.out QY.out QZ.out G3.out Fz Km Jc Hg w9 LK;rw[<-LK];have Na:=hdq M9;have XO:=hdq (show lenP C w9 < lenP C wr from by
       rw[M9.pa.lenP,Gr.pa.lenP];have h1:=HS.out;have h2:=List.length_pos_iff.2 Gr.pa.ne;rw[List.length_tail]at h1;omega)
      clear LK M9 q1 q2 q3 q4 f1 f2 f3 f4;refine(QX _ l2 Na.fr Na.pa).mono ?_;rintro _ w10 ⟨rfl,rfl⟩;go_wp2_with fail;go_roundw;case rel=>exact⟨_,_,_,_,_,l2,rfl,Na⟩
      case measure=>exact XO.out
theorem zfi {C:Pcx}{w WA w7 w9:World}{d rb:Nat}{x:Cn}{l:List Tk}{A:Option Addr}{c:Nat}{B:Option Addr}{pc:Nat}(hL:C.P < w.heap.size/\C.TB < w.heap.size/\C.W0.heap.size<=w.heap.size)(hA:Fr NoT w WA)(hr:w.heap.size<=rb)(Fj:rb < WA.heap.size)
  (hv:CdV w7 WA.heap.size (cdV x.k A x.args.len c B x.of_.len pc x.at_) x) (hp:PaAt C w7 l d) (hf:Fr C.T WA w7)
  (h9:w9=(((w7.setCell ⟨rb,0,none⟩ (.int .u8 x.k)).setCell ⟨rb,1,none⟩ (.slice A x.args.len c)).setCell ⟨rb,2,none⟩ (.slice B x.of_.len pc)).setCell ⟨rb,3,none⟩ (.int .i64 x.at_)):
  CdP C d (.ok x l) w (.returned (cdV x.k A x.args.len c B x.of_.len pc x.at_)) w9:=by
 have Gk:Fr (λb=>b=rb) w7 w9:=by rw[h9];exact Fr.own (Fr.own (Fr.own (Fr.own (Fr.refl _ _) _ _) _ _) _ _) _ _
 have h1:=hA.size;unfold CdP;refine⟨_,rfl,(CdV.fr hv Gk λb h2 h3 e=>?_).low (by omega),hp.fr Gk (λe=>?_) (λe=>?_) (λi hi e=>?_),?_⟩
 ·have e:b=rb:=e;omega
 ·have e:C.P=rb:=e;omega
 ·have e:C.TB=rb:=e;omega
 ·have e:i=rb:=e;omega
 ·rw[h9];have:=hA.any.trans hf;exact Fr.high (Fr.high (Fr.high (Fr.high this (by omega) _ _) (by omega) _ _) (by omega) _ _) (by omega) _ _
theorem zf1 (C:Pcx)(one:List Tk->PR Cn)(first:Int)(signs:List (List UInt8))(g:Nat)(fst cap:Array Value)(bt b m:Nat)(l:List Tk)(d:Nat)(w:World)(hk:C.Ok)(h:PaAt C w l d)(Jm:Shr one)
  (hm:m=signs.length) (LJ:∀s∈signs,s≠ []) (Fu:signs.length<=3) (NG:Bk w b 9 (strA signs)) (SR:b≠C.P)
  (Mu:Bk w bt 5 #[.int .u8 first]) (LZ:bt≠C.P) (Jc:0<=first) (Hg:first<=20)
  (hent:Enters Tryz.prog g) (GM:∀W,Fr C.T w W->∀l',PaAt C W l' d->Calls Tryz.prog g (fst++cap) W (CdP C d (one l') W)):
  Calls Tryz.prog 314 #[.pointer (some ⟨C.P,0,none⟩),.func (.func g) fst cap,.func (.func 312) #[] #[.pointer (some ⟨bt,0,none⟩)],.slice (some ⟨b,0,none⟩) m m] w (CdP C d (zaT one (zc3 first) signs l) w):=by
 subst hm;exact zic C one first signs g fst cap bt b _ l d w hk h Jm LJ Fu (λj hj=>by rw[NG.cell j];simp[strA,hj]) NG.lt SR Mu LZ Jc Hg hent GM
def NotC (C:Pcx)(n:Nat):Prop:=∀(l:List Tk)(d:Nat)(w:World),d+n=24->PaAt C w l d->Calls Tryz.prog 315 #[.pointer (some ⟨C.P,0,none⟩)] w (CdP C d (notP n l) w)
def andS:List (List UInt8):= [[38,38]]
def orS:List (List UInt8):= [[124,124]]
def allP (n:Nat)(l:List Tk):PR Cn:=zaT (notP n) (zc3 10) andS l
theorem zlv (n:Nat):Shr (allP n):=zaA (zcH n)
theorem znk (C:Pcx)(n:Nat)(hs:NotC C n)(l:List Tk)(d pb fb:Nat)(w:World)(Gd:d+n=24)(hk:C.Ok)(h:PaAt C w l d)(Jh:Bk w pb 162 #[.pointer (some ⟨C.P,0,none⟩)])(Gc:pb≠C.P)(Mt:Bk w fb 397 #[.func (.func 311) #[] #[]])(PK:fb≠C.P):
  Calls Tryz.prog 313 #[.pointer (some ⟨pb,0,none⟩),.pointer (some ⟨fb,0,none⟩)] w (CdP C d (allP n l) w):=by
 have Jt:= @makeF Tryz.prog;have hL:=h.lts;have Gq:=Jh.lt;have FB:=Mt.lt;have Q0:fb≠C.P:=PK;have MY:=Mt.cell 0;have KA:pb≠C.P:=Gc;have Fk:=Jh.cell 0;simp only[List.getElem?_toArray,List.getElem?_cons_zero]at Fk MY;obtain⟨w1,Hc⟩:=nmq (w.alloc (.cells #[.int .u8 0,.slice none 0 0,.slice none 0 0,.int .i64 0] 179));have Hy:w1.heap.size=w.heap.size+1:=by rw[Hc];simp
 have Hg:Fr NoT w w1:=by rw[Hc];exact(Fr.refl _ _).alloc _
 have hbx:Bk w1 w.heap.size 179 #[.int .u8 0,.slice none 0 0,.slice none 0 0,.int .i64 0]:=by rw[Hc];exact Bk.new _ _ _
 obtain⟨a1,a2,a3⟩:=ordA w1 #[.int .u8 10] (strA andS) _ rfl;obtain⟨b1,b2,b3⟩:=ordB w1 #[.int .u8 10] (strA andS) _ rfl;rw[Hy]at a1 a2 b1 b2;have key:∀(W:World)(bt b:Nat),Fr NoT w1 W->Bk W bt 5 #[.int .u8 10]->Bk W b 9 (strA andS)->w.heap.size < bt->w.heap.size < b->Calls Tryz.prog 314 #[.pointer (some ⟨C.P,0,none⟩),.func (.func 315) #[.pointer (some ⟨C.P,0,none⟩)] #[],.func (.func 312) #[] #[.pointer (some ⟨bt,0,none⟩)],.slice (some ⟨b,0,none⟩) 1 1] W (CdP C d (allP n l) W):=λW bt b hf h1 h2 h3 h4=>
  zf1 C (notP n) 10 andS 315 _ _ bt b 1 l d W hk (h.fr (Hg.trans hf) id id λ_ _=>id) (zcH n) rfl (by decide) (by decide) h2 (by omega) h1 (by omega) (by decide) (by decide) (enters_of Tryz.func315 (by kernel_rfl) rfl) λW' G6 l' Lx=>by
   simpa using hs l' d W' Gd Lx
 have fin:∀(WA w7:World)(e:Ending),Fr NoT w1 WA->CdP C d (allP n l) WA e w7->Fr NoT w WA/\Bk WA w.heap.size 179 #[.int .u8 0,.slice none 0 0,.slice none 0 0,.int .i64 0]:=λWA w7 e hf _=>⟨Hg.trans hf,hbx.fr0 hf⟩;have HA:=hdq (key _ _ _ a3 a1 a2 (by omega) (by omega));have HB:=hdq (key _ _ _ b3 b1 b2 (by omega) (by omega));have GO:=hdq (aiq (Hg.trans a3) (hbx.fr0 a3));have GW:=hdq (aiq (Hg.trans b3) (hbx.fr0 b3));rw[Hc]at HA HB GO GW;have HL:=hdq hL;have Fl:¬w.heap.size=C.P:=by omega
 have Ky:=hdq Fl;clear key fin Hc Hy Hg hbx a1 a2 a3 b1 b2 b3 hL h hk hs Jh Gc Fl Mt PK;unfold strA andS at HA HB GO GW;simp only[List.map_cons,List.map_nil]at HA HB GO GW;go_enter Tryz.func313,Tryz.ntmps313;go_wp2_with fail
 go_region_held2 (λW'=>W'.cell? ⟨pb,0,none⟩=some (.pointer (some ⟨C.P,0,none⟩))/\W'.cell? ⟨fb,0,none⟩=some (.func (.func 311) #[] #[]))
  (first
   |(refine⟨?_,?_⟩<;>with_reducible assumption)
   |(with_reducible refine⟨(Fr.cell (T:=λb=>b=w.heap.size) (w:=w7) (Fr.own (Fr.own (Fr.own (Fr.own (Fr.refl _ _) _ _) _ _) _ _) _ _) GZ.1 GZ.2).trans GY,(Fr.cell (T:=λb=>b=w.heap.size) (w:=w7) (Fr.own (Fr.own (Fr.own (Fr.own (Fr.refl _ _) _ _) _ _) _ _) _ _) KR.1 KR.2).trans Q2⟩)
   |(refine⟨(Fr.cell (T:=NoT) (w:=w) ?_ Gq id).trans Fk,(Fr.cell (T:=NoT) (w:=w) ?_ FB id).trans MY⟩<;>
     repeat(first|exact Fr.refl _ _|refine Fr.alloc ?_ _|refine Fr.drew ?_)))
  (first
   |(go_at_call 311
     refine(zhp _ _).mono ?_;rintro _ wa ⟨rfl,rfl⟩)
   |(go_at_call 314
     with_reducible refine HA.out.mono ?_
     intro e w7 hE;rcases hE.ways with⟨x,r,A,c,B,pc,hR,rfl,hv,hp,hf⟩|⟨c,a,hR,rfl,hf⟩;rotate_left
     ·exact⟨rfl,by rw[hR];exact⟨rfl,(GO.1.any).trans hf⟩⟩
     have Hf:=GO.2.fr hf Ky.out;have q0:=Hf.cell 0;have q1:=Hf.cell 1;have q2:=Hf.cell 2;have q3:=Hf.cell 3;have g0:=Hf.frozen 0;have g1:=Hf.frozen 1;have g2:=Hf.frozen 2;have g3:=Hf.frozen 3;have Jd:=Hf.lt;have GY:=(Fk.symm.trans ((GO.1.cell (p:=⟨pb,0,none⟩) Gq id).symm.trans (hf.cell (p:=⟨pb,0,none⟩) (ltq Gq GO.1.size) KA).symm)).symm;have Q2:=(MY.symm.trans ((GO.1.cell (p:=⟨fb,0,none⟩) FB id).symm.trans (hf.cell (p:=⟨fb,0,none⟩) (ltq FB GO.1.size) Q0).symm)).symm;have GZ:pb < w7.heap.size/\¬pb=w.heap.size:=⟨ltq Gq (leq9 GO.1.size hf.size),by omega⟩;have KR:fb < w7.heap.size/\¬fb=w.heap.size:=⟨ltq FB (leq9 GO.1.size hf.size),by omega⟩;simp only[getsL]at q0 q1 q2 q3;have HE:=hdq (show ∀w9,w9=(((w7.setCell ⟨w.heap.size,0,none⟩ (.int .u8 x.k)).setCell ⟨w.heap.size,1,none⟩ (.slice A x.args.len c)).setCell ⟨w.heap.size,2,none⟩ (.slice B x.of_.len pc)).setCell ⟨w.heap.size,3,none⟩ (.int .i64 x.at_)->CdP C d (allP n l) w (.returned (cdV x.k A x.args.len c B x.of_.len pc x.at_)) w9 from λw9 h9=>by
      rw[hR];exact zfi HL.out GO.1 (lrq _) GO.2.lt hv hp hf h9)
     clear hR hv hp hf Hf)
   |(go_at_call 314
     with_reducible refine HB.out.mono ?_
     intro e w7 hE;rcases hE.ways with⟨x,r,A,c,B,pc,hR,rfl,hv,hp,hf⟩|⟨c,a,hR,rfl,hf⟩;rotate_left
     ·exact⟨rfl,by rw[hR];exact⟨rfl,(GW.1.any).trans hf⟩⟩
     have Hf:=GW.2.fr hf Ky.out;have q0:=Hf.cell 0;have q1:=Hf.cell 1;have q2:=Hf.cell 2;have q3:=Hf.cell 3;have g0:=Hf.frozen 0;have g1:=Hf.frozen 1;have g2:=Hf.frozen 2;have g3:=Hf.frozen 3;have Jd:=Hf.lt;have GY:=(Fk.symm.trans ((GW.1.cell (p:=⟨pb,0,none⟩) Gq id).symm.trans (hf.cell (p:=⟨pb,0,none⟩) (ltq Gq GW.1.size) KA).symm)).symm;have Q2:=(MY.symm.trans ((GW.1.cell (p:=⟨fb,0,none⟩) FB id).symm.trans (hf.cell (p:=⟨fb,0,none⟩) (ltq FB GW.1.size) Q0).symm)).symm;have GZ:pb < w7.heap.size/\¬pb=w.heap.size:=⟨ltq Gq (leq9 GW.1.size hf.size),by omega⟩;have KR:fb < w7.heap.size/\¬fb=w.heap.size:=⟨ltq FB (leq9 GW.1.size hf.size),by omega⟩;simp only[getsL]at q0 q1 q2 q3;have HE:=hdq (show ∀w9,w9=(((w7.setCell ⟨w.heap.size,0,none⟩ (.int .u8 x.k)).setCell ⟨w.heap.size,1,none⟩ (.slice A x.args.len c)).setCell ⟨w.heap.size,2,none⟩ (.slice B x.of_.len pc)).setCell ⟨w.heap.size,3,none⟩ (.int .i64 x.at_)->CdP C d (allP n l) w (.returned (cdV x.k A x.args.len c B x.of_.len pc x.at_)) w9 from λw9 h9=>by
      rw[hR];exact zfi HL.out GW.1 (lrq _) GW.2.lt hv hp hf h9)
     clear hR hv hp hf Hf))
 all_goals
  go_wp2_with fail;exact bodyPost_ret (v:=cdV x.k A x.args.len c B x.of_.len pc x.at_) (by simp[results,Tryz.results313,go_sem,cdV,q0,q1,q2,q3,Jd]) rfl (HE _ rfl)
-- cond
theorem zhr (C:Pcx)(n:Nat)(hs:NotC C n)(l:List Tk)(d:Nat)(w:World)(Gd:d+n=24)(hk:C.Ok)(h:PaAt C w l d):
  Calls Tryz.prog 310 #[.pointer (some ⟨C.P,0,none⟩)] w (CdP C d (zdX n l) w):=by
 have Jt:= @makeF Tryz.prog;have hL:=h.lts;obtain⟨w1,Hc⟩:=nmq (((w.alloc (.cells #[.pointer (some ⟨C.P,0,none⟩)] 162)).alloc (.cells #[.int .u8 0,.slice none 0 0,.slice none 0 0,.int .i64 0] 179)).alloc (.cells #[.func (.func 311) #[] #[]] 397));have Hy:w1.heap.size=w.heap.size+3:=by rw[Hc];simp
 have Hg:Fr NoT w w1:=by rw[Hc];exact(((Fr.refl _ _).alloc _).alloc _).alloc _
 have Gx:Bk w1 w.heap.size 162 #[.pointer (some ⟨C.P,0,none⟩)]:=by rw[Hc];exact((Bk.new _ _ _).alloc _).alloc _
 have hbx:Bk w1 (w.heap.size+1) 179 #[.int .u8 0,.slice none 0 0,.slice none 0 0,.int .i64 0]:=by rw[Hc];exact(Bk.new_at _ _ _ (by simp)).alloc _
 have Jj:Bk w1 (w.heap.size+2) 397 #[.func (.func 311) #[] #[]]:=by rw[Hc];exact Bk.new_at _ _ _ (by simp)
 obtain⟨a1,a2,a3⟩:=ordA w1 #[.int .u8 11] (strA orS) _ rfl;obtain⟨b1,b2,b3⟩:=ordB w1 #[.int .u8 11] (strA orS) _ rfl;rw[Hy]at a1 a2 b1 b2;have key:∀(W:World)(bt b:Nat),Fr NoT w1 W->Bk W bt 5 #[.int .u8 11]->Bk W b 9 (strA orS)->w.heap.size < bt->w.heap.size < b->Calls Tryz.prog 314 #[.pointer (some ⟨C.P,0,none⟩),.func (.func 313) #[] #[.pointer (some ⟨w.heap.size,0,none⟩),.pointer (some ⟨w.heap.size+1+1,0,none⟩)],.func (.func 312) #[] #[.pointer (some ⟨bt,0,none⟩)],.slice (some ⟨b,0,none⟩) 1 1] W (CdP C d (zdX n l) W):=λW bt b hf h1 h2 h3 h4=>
  zf1 C (allP n) 11 orS 313 _ _ bt b 1 l d W hk (h.fr (Hg.trans hf) id id λ_ _=>id) (zlv n) rfl (by decide) (by decide) h2 (by omega) h1 (by omega) (by decide) (by decide) (enters_of Tryz.func313 (by kernel_rfl) rfl) λW' G6 l' Lx=>by
   simpa using znk C n hs l' d w.heap.size (w.heap.size+2) W' Gd hk Lx ((Gx.fr0 hf).fr G6 (λe=>by have e:w.heap.size=C.P:=e;omega)) (by omega) ((Jj.fr0 hf).fr G6 (λe=>by have e:w.heap.size+2=C.P:=e;omega)) (by omega)
 have HA:=hdq (key _ _ _ a3 a1 a2 (by omega) (by omega));have HB:=hdq (key _ _ _ b3 b1 b2 (by omega) (by omega));have GO:=hdq (aiq (Hg.trans a3) (aiq (hbx.fr0 a3) (aiq (Gx.fr0 a3) (Jj.fr0 a3))));have GW:=hdq (aiq (Hg.trans b3) (aiq (hbx.fr0 b3) (aiq (Gx.fr0 b3) (Jj.fr0 b3))));have Fk:=Gx.cell 0;have Gq:=Gx.lt;have MY:=Jj.cell 0;have FB:=Jj.lt;simp only[List.getElem?_toArray,List.getElem?_cons_zero]at Fk MY;rw[Hc]at HA HB GO GW Fk Gq MY FB;have HL:=hdq hL;have Fl:¬w.heap.size+1=C.P:=by omega
 have Ky:=hdq Fl;have KA:¬w.heap.size=C.P:=by omega
 have Q0:¬w.heap.size+2=C.P:=by omega
 clear key Hc Hy Hg hbx Gx Jj a1 a2 a3 b1 b2 b3 hL h hk hs Fl;unfold strA orS at HA HB GO GW;simp only[List.map_cons,List.map_nil]at HA HB GO GW;go_enter Tryz.func310,Tryz.ntmps310;go_wp2_with fail
 go_region_held2 (λW'=>W'.cell? ⟨w.heap.size,0,none⟩=some (.pointer (some ⟨C.P,0,none⟩))/\W'.cell? ⟨w.heap.size+1+1,0,none⟩=some (.func (.func 311) #[] #[]))
  (first
   |(refine⟨?_,?_⟩<;>with_reducible assumption)
   |(with_reducible refine⟨(Fr.cell (T:=λb=>b=w.heap.size+1) (w:=w7) (Fr.own (Fr.own (Fr.own (Fr.own (Fr.refl _ _) _ _) _ _) _ _) _ _) GZ.1 GZ.2).trans GY,(Fr.cell (T:=λb=>b=w.heap.size+1) (w:=w7) (Fr.own (Fr.own (Fr.own (Fr.own (Fr.refl _ _) _ _) _ _) _ _) _ _) KR.1 KR.2).trans Q2⟩)
   |(refine⟨(Fr.cell (T:=NoT) ?_ Gq id).trans Fk,(Fr.cell (T:=NoT) ?_ FB id).trans MY⟩<;>
     repeat(first|exact Fr.refl _ _|refine Fr.alloc ?_ _|refine Fr.drew ?_)))
  (first
   |(go_at_call 311
     refine(zhp _ _).mono ?_;rintro _ wa ⟨rfl,rfl⟩)
   |(go_at_call 314
     with_reducible refine HA.out.mono ?_
     intro e w7 hE;rcases hE.ways with⟨x,r,A,c,B,pc,hR,rfl,hv,hp,hf⟩|⟨c,a,hR,rfl,hf⟩;rotate_left
     ·exact⟨rfl,by rw[hR];exact⟨rfl,(GO.1.any).trans hf⟩⟩
     have Hf:=GO.2.1.fr hf Ky.out;have q0:=Hf.cell 0;have q1:=Hf.cell 1;have q2:=Hf.cell 2;have q3:=Hf.cell 3;have g0:=Hf.frozen 0;have g1:=Hf.frozen 1;have g2:=Hf.frozen 2;have g3:=Hf.frozen 3;have Jd:=Hf.lt;have GY:=(GO.2.2.1.fr hf KA).cell 0;simp only[List.getElem?_toArray,List.getElem?_cons_zero]at GY;have GZ:w.heap.size < w7.heap.size/\¬w.heap.size=w.heap.size+1:=⟨(GO.2.2.1.fr hf KA).lt,by omega⟩;have Q2:=(GO.2.2.2.fr hf Q0).cell 0;have KR:w.heap.size+1+1 < w7.heap.size/\¬w.heap.size+1+1=w.heap.size+1:=⟨(GO.2.2.2.fr hf Q0).lt,by omega⟩;simp only[List.getElem?_toArray,List.getElem?_cons_zero]at Q2;simp only[getsL]at q0 q1 q2 q3;have HE:=hdq (show ∀w9,w9=(((w7.setCell ⟨w.heap.size+1,0,none⟩ (.int .u8 x.k)).setCell ⟨w.heap.size+1,1,none⟩ (.slice A x.args.len c)).setCell ⟨w.heap.size+1,2,none⟩ (.slice B x.of_.len pc)).setCell ⟨w.heap.size+1,3,none⟩ (.int .i64 x.at_)->CdP C d (zdX n l) w (.returned (cdV x.k A x.args.len c B x.of_.len pc x.at_)) w9 from λw9 h9=>by
      rw[hR];exact zfi HL.out GO.1 (by omega) GO.2.1.lt hv hp hf h9)
     clear hR hv hp hf Hf)
   |(go_at_call 314
     with_reducible refine HB.out.mono ?_
     intro e w7 hE;rcases hE.ways with⟨x,r,A,c,B,pc,hR,rfl,hv,hp,hf⟩|⟨c,a,hR,rfl,hf⟩;rotate_left
     ·exact⟨rfl,by rw[hR];exact⟨rfl,(GW.1.any).trans hf⟩⟩
     have Hf:=GW.2.1.fr hf Ky.out;have q0:=Hf.cell 0;have q1:=Hf.cell 1;have q2:=Hf.cell 2;have q3:=Hf.cell 3;have g0:=Hf.frozen 0;have g1:=Hf.frozen 1;have g2:=Hf.frozen 2;have g3:=Hf.frozen 3;have Jd:=Hf.lt;have GY:=(GW.2.2.1.fr hf KA).cell 0;simp only[List.getElem?_toArray,List.getElem?_cons_zero]at GY;have GZ:w.heap.size < w7.heap.size/\¬w.heap.size=w.heap.size+1:=⟨(GW.2.2.1.fr hf KA).lt,by omega⟩;have Q2:=(GW.2.2.2.fr hf Q0).cell 0;have KR:w.heap.size+1+1 < w7.heap.size/\¬w.heap.size+1+1=w.heap.size+1:=⟨(GW.2.2.2.fr hf Q0).lt,by omega⟩;simp only[List.getElem?_toArray,List.getElem?_cons_zero]at Q2;simp only[getsL]at q0 q1 q2 q3;have HE:=hdq (show ∀w9,w9=(((w7.setCell ⟨w.heap.size+1,0,none⟩ (.int .u8 x.k)).setCell ⟨w.heap.size+1,1,none⟩ (.slice A x.args.len c)).setCell ⟨w.heap.size+1,2,none⟩ (.slice B x.of_.len pc)).setCell ⟨w.heap.size+1,3,none⟩ (.int .i64 x.at_)->CdP C d (zdX n l) w (.returned (cdV x.k A x.args.len c B x.of_.len pc x.at_)) w9 from λw9 h9=>by
      rw[hR];exact zfi HL.out GW.1 (by omega) GW.2.1.lt hv hp hf h9)
     clear hR hv hp hf Hf))
 all_goals
  go_wp2_with fail;exact bodyPost_ret (v:=cdV x.k A x.args.len c B x.of_.len pc x.at_) (by simp[results,Tryz.results310,go_sem,cdV,q0,q1,q2,q3,Jd]) rfl (HE _ rfl)
def ResC (rb L:Nat)(w:World)(x:Cn):Prop:=∃A c B pc,Bk w rb 179 #[.int .u8 x.k,.slice A x.args.len c,.slice B x.of_.len pc,.int .i64 x.at_]/\CdV w L (cdV x.k A x.args.len c B x.of_.len pc x.at_) x
def ParC (C:Pcx)(rb d:Nat)(r:PR Cn)(W:World)(e:Ending)(w':World):Prop:=
 match r with
 | .err c a=>e=zae c a/\Fr (PT C rb) W w'
 | .ok x l=>e= .returned (.tuple #[])/\ResC rb W.heap.size w' x/\PaAt C w' l d/\Fr (PT C rb) W w'
theorem bk4C {w:World}{rb:Nat}{a b c d:Value}{A B D E:Value}(h:Bk w rb 179 #[a,b,c,d]):
  Bk ((((w.setCell ⟨rb,0,none⟩ A).setCell ⟨rb,1,none⟩ B).setCell ⟨rb,2,none⟩ D).setCell ⟨rb,3,none⟩ E) rb 179 #[A,B,D,E]:=by
 have:=(((h.set_ 0 A).set_ 1 B).set_ 2 D).set_ 3 E;simpa using this
def endC (s:List UInt8)(n:Nat)(l:List Tk):PR Cn:=(zdX n l).then λx r=>(zal s r).then λ_ r=> .ok x r
theorem zid (C:Pcx)(n:Nat)(hs:NotC C n)(l:List Tk)(d pb rb:Nat)(w:World)(Gd:d+n=24)(hk:C.Ok)(h:PaAt C w l d)(Jh:Bk w pb 162 #[.pointer (some ⟨C.P,0,none⟩)])(Gc:pb≠C.P)
  (Gn:Bk w rb 179 #[.int .u8 0,.slice none 0 0,.slice none 0 0,.int .i64 0]) (Ly:rb≠C.P) (NY:rb≠C.TB) (Se:C.W0.heap.size<=rb) (Kf:pb≠rb):
  Calls Tryz.prog 317 #[.pointer (some ⟨pb,0,none⟩),.pointer (some ⟨rb,0,none⟩)] w (ParC C rb d (endC [93] n l) w):=by
 have Fk:=Jh.cell 0;simp only[List.getElem?_toArray,List.getElem?_cons_zero]at Fk;have HE:=hdq (zhr C n hs l d w Gd hk h);obtain⟨R,hR⟩:=nmq (endC [93] n l);rw[<-hR];have HR:=hdq hR;have LL:=hdq Jh;have Mi:=hdq Gn;have HK:=hdq hk;have HL:=hdq h.lts;clear hR Jh Gn hs h hk;go_enter Tryz.func317,Tryz.ntmps317;go_wp2_with fail;refine HE.mono ?_;intro e w7 hE;rcases hE.ways with⟨x,r,A,c,B,pc,hx,rfl,hv,hp,hf⟩|⟨c,a,hx,rfl,hf⟩;rotate_left
 ·go_wp2_with fail;exact⟨rfl,by rw[HR.out,endC,hx];exact⟨rfl,PT.l hf⟩⟩
 have FO:=Mi.lt;have Hf:=Mi.fr hf Ly;have q0:=Hf.cell 0;have q1:=Hf.cell 1;have q2:=Hf.cell 2;have q3:=Hf.cell 3;have g0:=Hf.frozen 0;have g1:=Hf.frozen 1;have g2:=Hf.frozen 2;have g3:=Hf.frozen 3;have GY:=(LL.fr hf Gc).cell 0;simp only[getsL]at q0 q1 q2 q3 GY;obtain⟨w8,GS⟩:=nmq ((((w7.setCell ⟨rb,0,none⟩ (.int .u8 x.k)).setCell ⟨rb,1,none⟩ (.slice A x.args.len c)).setCell ⟨rb,2,none⟩ (.slice B x.of_.len pc)).setCell ⟨rb,3,none⟩ (.int .i64 x.at_));have GF:Fr (λb=>b=rb) w7 w8:=by rw[GS];exact Fr.own (Fr.own (Fr.own (Fr.own (Fr.refl _ _) _ _) _ _) _ _) _ _
 have JQ:Bk w8 rb 179 #[.int .u8 x.k,.slice A x.args.len c,.slice B x.of_.len pc,.int .i64 x.at_]:=by rw[GS];exact bk4C Hf
 have PL:CdV w8 w.heap.size (cdV x.k A x.args.len c B x.of_.len pc x.at_) x:=CdV.fr hv GF λb h1 h2 e=>by
  have e:b=rb:=e;omega
 have NH:PaAt C w8 r d:=hp.fr GF (λe=>Ly (by have e:C.P=rb:=e;exact e.symm)) (λe=>NY (by have e:C.TB=rb:=e;exact e.symm)) (λi hi e=>by have e:i=rb:=e;omega);have PM:Fr (PT C rb) w w8:=(PT.l hf).trans (GF.mono λi _ h=>Or.inr h);have PN:w8.cell? ⟨pb,0,none⟩=some (.pointer (some ⟨C.P,0,none⟩)):=(GF.cell (p:=⟨pb,0,none⟩) (LL.fr hf Gc).lt Kf).trans GY;have Mv:=NH.alloc (.cells #[.string ⟨#[93]⟩] 9);have HX:=hdq hx;have J2:=hdq JQ;have HV:=hdq PL;have HF:=hdq PM;have HP:=hdq Mv;have HW:=hdq GS;have hz:w8.heap.size=w7.heap.size:=by rw[GS];simp
 rw[GS]at PN;cases hm:mayB [93] r
 ·have ht:=zdR C [93] r d w8.heap.size _ Mv hm (by simp);unfold ErrP zae pP at ht;rw[GS]at ht;simp only[World.size_setCell]at ht;have HT:=hdq ht;clear hx JQ PL NH PM Mv hv hp hf GF Hf GS ht hz;go_wp2_with fail;refine HT.mono ?_;rintro _ w10 ⟨rfl,Gf⟩;go_wp2_with fail;refine⟨rfl,?_⟩;rw[HR.out,endC,HX.out];simp only[PR.then,zal,hm];refine⟨rfl,?_⟩;rw[<-HW.out]at Gf;exact(HF.alloc _).trans (PT.l Gf)
 ·have ht:=zcb C [93] r d w8.heap.size _ HK.out Mv (by decide) hm (by simp);unfold zgI pP at ht;rw[GS]at ht;simp only[World.size_setCell]at ht;have HT:=hdq ht;clear hx JQ PL NH PM Mv hv hp hf GF Hf GS ht hz;go_wp2_with fail;refine HT.mono ?_;rintro _ w10 ⟨rfl,Hi,Gf⟩;have Fw:=hdq Hi;rw[<-HW.out]at Gf;have GQ:=hdq Gf;clear Hi Gf;go_wp2_with fail;go_end0;rw[HR.out,endC,HX.out];simp only[PR.then,zal,hm];have PO:Fr C.T w8 w10:=((Fr.refl C.T w8).alloc _).trans GQ.out;exact⟨rfl,⟨A,c,B,pc,J2.fr PO Ly,HV.fr PO λb h1 h2 e=>by have e:b=C.P:=e;have:=HL.1;omega⟩,Fw.out,HF.trans (PT.l PO)⟩
theorem ResC.fr {C:Pcx}{rb L:Nat}{w w':World}{x:Cn}(h:ResC rb L w x)(hf:Fr C.T w w')(h1:rb≠C.P)(h2:C.P < L):ResC rb L w' x:=by
 obtain⟨A,c,B,pc,hb,hv⟩:=h;exact⟨A,c,B,pc,hb.fr hf h1,hv.fr hf λb h3 _ e=>by have e:b=C.P:=e;omega⟩
theorem ResC.low {rb L L':Nat}{w:World}{x:Cn}(h:ResC rb L w x)(hl:L'<=L):ResC rb L' w x:=by
 obtain⟨A,c,B,pc,hb,hv⟩:=h;exact⟨A,c,B,pc,hb,hv.low hl⟩
def notB (n:Nat)(a:Int)(l:List Tk):PR Cn:=(notP n l).then λx r=> .ok ⟨9,.nil,x.cons .nil,a⟩ r
theorem znl {C:Pcx}{w w7:World}{rb d:Nat}{at_:Int}{x:Cn}{r:List Tk}{A B:Option Addr}{c pc:Nat}{q0 q1 q2 q3:Value}(hL:C.P < w.heap.size/\C.TB < w.heap.size/\C.W0.heap.size<=w.heap.size)(Hh:in64 at_)
  (Ly:rb≠C.P) (NY:rb≠C.TB) (Se:C.W0.heap.size<=rb) (hb:Bk w7 rb 179 #[q0,q1,q2,q3]) (hv:CdV w7 w.drew.heap.size (cdV x.k A x.args.len c B x.of_.len pc x.at_) x) (hp:PaAt C w7 r d) (hf:Fr C.T w w7) (w9:World)
  (h9:w9=(((((w7.setCell ⟨rb,0,none⟩ (.int .u8 9)).setCell ⟨rb,1,none⟩ (.slice none 0 0)).setCell ⟨rb,2,none⟩ (.slice (some ⟨w7.heap.size,0,none⟩) 1 1)).setCell ⟨rb,3,none⟩ (.int .i64 at_)).alloc (.cells #[.int .u8 x.k,.slice A x.args.len c,.slice B x.of_.len pc,.int .i64 x.at_] 179)))
  (jY:rb < w.heap.size):
  ParC C rb d ((PR.ok x r).then λx r=>PR.ok ⟨9,.nil,x.cons .nil,at_⟩ r) w (.returned (.tuple #[])) w9:=by
 obtain⟨w8,GS⟩:=nmq (((((w7.setCell ⟨rb,0,none⟩ (.int .u8 9)).setCell ⟨rb,1,none⟩ (.slice none 0 0)).setCell ⟨rb,2,none⟩ (.slice (some ⟨w7.heap.size,0,none⟩) 1 1)).setCell ⟨rb,3,none⟩ (.int .i64 at_)));rw[<-GS]at h9;have GF:Fr (λb=>b=rb) w7 w8:=by rw[GS];exact Fr.own (Fr.own (Fr.own (Fr.own (Fr.refl _ _) _ _) _ _) _ _) _ _
 have JQ:Bk w8 rb 179 #[.int .u8 9,.slice none 0 0,.slice (some ⟨w7.heap.size,0,none⟩) 1 1,.int .i64 at_]:=by rw[GS];exact bk4C hb
 have hz:w8.heap.size=w7.heap.size:=by rw[GS];simp
 have Gk:Fr (λb=>b=rb) w7 w9:=by rw[h9];exact GF.alloc _
 have NF:=hf.size;have Po:w9.heap.size=w7.heap.size+1:=by rw[h9];simp[hz]
 obtain⟨x1,x3,Ax,cx,Bx,qx,ex,Ju,Vb⟩:=hv;simp only[cdV,Value.agg.injEq,Array.mk.injEq,List.cons.injEq,Value.slice.injEq,true_and,and_true]at ex;obtain⟨⟨rfl,rfl⟩,rfl,rfl⟩:=ex;have hX:∀b,New w.drew.heap.size w7 b->(b < w7.heap.size/\¬b=rb)/\New w.heap.size w9 b:=λb hb=>by
  have h1:w.heap.size<=b:=hb.1;have h2:b < w7.heap.size:=hb.2;exact⟨⟨h2,by omega⟩,h1,by omega⟩
 refine⟨rfl,⟨none,0,some ⟨w7.heap.size,0,none⟩,1,by rw[h9];exact JQ.alloc _,by show in8 9;unfold in8;omega,Hh,none,0,some ⟨w7.heap.size,0,none⟩,1,rfl,⟨lrq 0,sl0,λh=>absurd h (by exact Nat.lt_irrefl 0)⟩,lrq 1,sl1,λ_=>⟨w7.heap.size,0,rfl,?_⟩⟩,?_,?_⟩
 ·refine zjl (by rw[h9];exact Bk.new_at _ _ _ hz) ⟨NF,by omega⟩ ⟨x1,x3⟩ (Ju.imp λ_ _ h=>?_) (Vb.imp λ_ _ h=>?_)
  ·exact ExR.more (λb hb=>(hX b hb).2) (ExR.keep (Gk.same λb hb=>(hX b hb).1) h)
  ·exact CdR.more (λb hb=>(hX b hb).2) (CdR.keep (Gk.same λb hb=>(hX b hb).1) h)
 ·exact hp.fr Gk (λe=>Ly (by have e:C.P=rb:=e;exact e.symm)) (λe=>NY (by have e:C.TB=rb:=e;exact e.symm)) (λi hi e=>by have e:i=rb:=e;omega)
 ·exact(PT.l hf).trans (Gk.mono λi _ h=>Or.inr h)
theorem zlw (C:Pcx)(n:Nat)(hs:NotC C n)(l:List Tk)(d pb ab rb:Nat)(at_:Int)(w:World)(Hh:in64 at_)(Gd:d+n=24)(hk:C.Ok)(h:PaAt C w l d)(Jh:Bk w pb 162 #[.pointer (some ⟨C.P,0,none⟩)])(Gc:pb≠C.P)
  (Re:Bk w ab 3 #[.int .i64 at_]) (SW:ab≠C.P) (SX:ab≠rb)
  (Gn:Bk w rb 179 #[.int .u8 0,.slice none 0 0,.slice none 0 0,.int .i64 0]) (Ly:rb≠C.P) (NY:rb≠C.TB) (Se:C.W0.heap.size<=rb) (Kf:pb≠rb):
  Calls Tryz.prog 316 #[.pointer (some ⟨pb,0,none⟩),.pointer (some ⟨ab,0,none⟩),.pointer (some ⟨rb,0,none⟩)] w (ParC C rb d (notB n at_ l) w):=by
 have Fk:=Jh.cell 0;have PP:=Re.cell 0;simp only[List.getElem?_toArray,List.getElem?_cons_zero]at Fk PP;have Gq:=Jh.lt;have KT:=Re.lt;have FO:=Gn.lt;have HE:=hdq (hs l d w.drew Gd (h.fr (T:=NoT) (Fr.drew (Fr.refl _ _)) id id λ_ _=>id));obtain⟨R,hR⟩:=nmq (notB n at_ l);rw[<-hR];have HR:=hdq hR;have LL:=hdq Jh;have SY:=hdq Re;have Mi:=hdq Gn;have HK:=hdq hk;have HL:=hdq h.lts;have KA:pb≠C.P:=Gc;have XQ:ab≠C.P:=SW;clear hR Jh Re Gn hs h hk;go_enter Tryz.func316,Tryz.ntmps316;go_wp2_with fail
 go_region_held2 (λW'=>W'.cell? ⟨pb,0,none⟩=some (.pointer (some ⟨C.P,0,none⟩))/\W'.cell? ⟨ab,0,none⟩=some (.int .i64 at_))
  (first
   |(refine⟨?_,?_⟩<;>with_reducible assumption)
   |(with_reducible refine⟨(Fr.cell (T:=λb=>b=rb) (w:=w7) (Fr.alloc (Fr.own (Fr.own (Fr.own (Fr.own (Fr.refl _ _) _ _) _ _) _ _) _ _) _) GZ Kf).trans GY,(Fr.cell (T:=λb=>b=rb) (w:=w7) (Fr.alloc (Fr.own (Fr.own (Fr.own (Fr.own (Fr.refl _ _) _ _) _ _) _ _) _ _) _) L1 SX).trans NI⟩)
   |(with_reducible refine⟨(Fr.cell (T:=NoT) (w:=w7) (Fr.alloc (Fr.refl _ _) _) GZ id).trans GY,(Fr.cell (T:=NoT) (w:=w7) (Fr.alloc (Fr.refl _ _) _) L1 id).trans NI⟩)
   |(with_reducible refine⟨(Fr.cell (T:=NoT) (w:=w) (Fr.drew (Fr.refl _ _)) Gq id).trans Fk,(Fr.cell (T:=NoT) (w:=w) (Fr.drew (Fr.refl _ _)) KT id).trans PP⟩))
  (first
   |(go_at_call 315
     with_reducible refine HE.out.mono ?_
     intro e w7 hE;rcases hE.ways with⟨x,r,A,c,B,pc,hx,rfl,hv,hp,hf⟩|⟨c,a,hx,rfl,hf⟩;rotate_left
     ·exact⟨rfl,by rw[HR.out,notB,hx];exact⟨rfl,PT.l ((Fr.drew (Fr.refl C.T w)).trans hf)⟩⟩
     have G6:=(Fr.drew (Fr.refl C.T w)).trans hf;have Hf:=Mi.fr G6 Ly;have q0:=Hf.cell 0;have q1:=Hf.cell 1;have q2:=Hf.cell 2;have q3:=Hf.cell 3;have g0:=Hf.frozen 0;have g1:=Hf.frozen 1;have g2:=Hf.frozen 2;have g3:=Hf.frozen 3;have Jv:=LL.fr G6 KA;have JS:=SY.fr G6 XQ;have GY:=Jv.cell 0;have NI:=JS.cell 0;have GZ:=Jv.lt;have L1:=JS.lt;have Rf:=Hf.lt;simp only[getsL]at q0 q1 q2 q3 GY NI;have HX:=hdq hx;have HV:=hdq hv;have HP:=hdq hp;have HF:=hdq G6;have HB:=hdq Hf;clear hx hv hp hf G6 Hf Jv JS))
 all_goals
  go_wp2_with fail;go_end0;rw[HR.out,notB,HX.out];exact znl HL.out Hh Ly NY Se HB.out HV.out HP.out HF.out _ rfl FO
