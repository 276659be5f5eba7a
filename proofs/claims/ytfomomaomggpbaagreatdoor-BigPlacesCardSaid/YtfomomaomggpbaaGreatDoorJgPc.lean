/- parse. -/
import Derived.Test.YtfomomaomggpbaaGreatDoorJgIdx
set_option linter.all false
set_option maxHeartbeats 3200000
set_option maxRecDepth 100000
namespace Go.Proofs.YtfomomaomggpbaaGreatDoor
open Go.RowKit Go.Shelf
def zdb (kind:Int)(k at_:Int)(a b:Cn):Cn:=⟨kind,.nil,a.cons (b.cons .nil),at_⟩
def cdV (k:Int)(A:Option Addr)(l c:Nat)(B:Option Addr)(m e:Nat)(at_:Int):Value:= .agg #[.int .u8 k,.slice A l c,.slice B m e,.int .i64 at_]
def CdVS (w:World)(S:Nat->Prop)(v:Value)(x:Cn):Prop:=
 in8 x.k/\in64 x.at_/\∃A c B e,v=cdV x.k A x.args.len c B x.of_.len e x.at_/\SlR (ExR w S False x.args) x.args.len 64 A c/\SlR (CdR w S False x.of_) x.of_.len 64 B e
def CdV (w:World)(L:Nat)(v:Value)(x:Cn):Prop:=CdVS w (New L w) v x
theorem CdVS.keep {w w':World}{S S':Nat->Prop}{v:Value}{x:Cn}(h:CdVS w S v x)(hf:SameS S w w')(hs:∀b,S b->S' b):CdVS w' S' v x:=by
 obtain⟨h1,h2,A,c,B,e,he,ha,ho⟩:=h;exact⟨h1,h2,A,c,B,e,he,ha.imp λ_ _ hx=>ExR.more hs (ExR.keep hf hx),ho.imp λ_ _ hx=>CdR.more hs (CdR.keep hf hx)⟩
theorem CdVS.fr {w w':World}{S S' T:Nat->Prop}{v:Value}{x:Cn}(h:CdVS w S v x)(hf:Fr T w w')(ht:∀b,S b->b < w.heap.size/\¬T b)(hs:∀b,S b->S' b):CdVS w' S' v x:=h.keep (hf.same ht) hs
theorem CdV.fr {w w':World}{L:Nat}{T:Nat->Prop}{v:Value}{x:Cn}(h:CdV w L v x)(hf:Fr T w w')(ht:∀b,L<=b->b < w.heap.size->¬T b):CdV w' L v x:=
 CdVS.fr h hf (λb hb=>⟨hb.2,ht b hb.1 hb.2⟩) λb hb=>⟨hb.1,aM hb.2 hf.size⟩
theorem CdV.low {w:World}{L L':Nat}{v:Value}{x:Cn}(h:CdV w L v x)(hl:L'<=L):CdV w L' v x:=
 CdVS.keep h (SameS.refl _ _) λb hb=>⟨aK hl hb.1,hb.2⟩
theorem CdVS.parts {w:World}{S:Nat->Prop}{v:Value}{x:Cn}(h:CdVS w S v x):∃A c B e,v=cdV x.k A x.args.len c B x.of_.len e x.at_:=by
 obtain⟨_,_,A,c,B,e,he,_⟩:=h;exact⟨A,c,B,e,he⟩
theorem zoD {w:World}{S:Nat->Prop}{g:Nat}{t:TypeId}{x y:Cn}{A B A' B':Option Addr}{c e c' e':Nat}(hb:Bk w g t #[.int .u8 x.k,.slice A x.args.len c,.slice B x.of_.len e,.int .i64 x.at_,.int .u8 y.k,.slice A' y.args.len c',.slice B' y.of_.len e',.int .i64 y.at_])(hg:S g)
  (h1:in8 x.k/\in64 x.at_) (h2:in8 y.k/\in64 y.at_) (hx:SlR (ExR w S False x.args) x.args.len 64 A c) (Y5:SlR (CdR w S False x.of_) x.of_.len 64 B e) (hy:SlR (ExR w S False y.args) y.args.len 64 A' c') (qR:SlR (CdR w S False y.of_) y.of_.len 64 B' e'):CdR w S False (x.cons (y.cons .nil)) g 0:=
 ⟨⟨hg,λh=>absurd h id,h1.1,h1.2,hb.cell 0,hb.cell 3⟩,⟨A,c,hb.cell 1,hx⟩,⟨B,e,hb.cell 2,Y5⟩,
  ⟨hg,λh=>absurd h id,h2.1,h2.2,hb.cell 4,hb.cell 7⟩,⟨A',c',hb.cell 5,hy⟩,⟨B',e',hb.cell 6,qR⟩,trivial⟩
theorem zkf {w:World}{S:Nat->Prop}{g:Nat}{t:TypeId}{x:Cn}{A B:Option Addr}{c e:Nat}(hb:Bk w g t #[.int .u8 x.k,.slice A x.args.len c,.slice B x.of_.len e,.int .i64 x.at_])(hg:S g)
  (h1:in8 x.k/\in64 x.at_) (hx:SlR (ExR w S False x.args) x.args.len 64 A c) (Y5:SlR (CdR w S False x.of_) x.of_.len 64 B e):CdR w S False (x.cons .nil) g 0:=
 ⟨⟨hg,λh=>absurd h id,h1.1,h1.2,hb.cell 0,hb.cell 3⟩,⟨A,c,hb.cell 1,hx⟩,⟨B,e,hb.cell 2,Y5⟩,trivial⟩
def JoinP (k at_:Int)(xs:Array Value)(W:World)(e:Ending)(w':World):Prop:=
 ∃g,e= .returned (.agg #[.int .u8 k,.slice none 0 0,.slice (some ⟨g,0,none⟩) 2 2,.int .i64 at_])/\Bk w' g 179 xs/\W.heap.size<=g/\g < w'.heap.size/\Fr NoT W w'
theorem zh8 (f:Int)(w:World):Calls Tryz.prog 311 #[.int .u8 f] w λe w'=>e= .returned (.func (.func 312) #[] #[.pointer (some ⟨w.heap.size,0,none⟩)])/\w'=w.alloc (.cells #[.int .u8 f] 5):=by
 have JI:= @makeF Tryz.prog;go_enter Tryz.func311,Tryz.ntmps311;go_wp2;go_ret;exact⟨rfl,rfl⟩
theorem zkg (f k at_:Int)(bx:Nat)(k1 a1 k2 a2:Int)(A1 B1 A2 B2:Option Addr)(l1 l2 c1 c2 m1 m2 e1 e2:Nat)(w:World)(hbx:bx < w.heap.size)(hf:w.cell? ⟨bx,0,none⟩=some (.int .u8 f)):
  Calls Tryz.prog 312 #[.int .i64 k,.int .i64 at_,.agg #[.int .u8 k1,.slice A1 l1 c1,.slice B1 m1 e1,.int .i64 a1],.agg #[.int .u8 k2,.slice A2 l2 c2,.slice B2 m2 e2,.int .i64 a2],.pointer (some ⟨bx,0,none⟩)] w
   (JoinP f at_ #[.int .u8 k1,.slice A1 l1 c1,.slice B1 m1 e1,.int .i64 a1,.int .u8 k2,.slice A2 l2 c2,.slice B2 m2 e2,.int .i64 a2] w):=by
 have z1:bx < w.heap.size+1:=by omega
 have z2:bx < w.heap.size+1+1:=by omega
 go_enter Tryz.func312,Tryz.ntmps312;go_wp2;refine bodyPost_ret (v:= .agg #[.int .u8 f,.slice none 0 0,.slice (some ⟨w.heap.size+1+1+1,0,none⟩) 2 2,.int .i64 at_]) (by simp[results,Tryz.results312,go_sem]) rfl ?_;exact⟨_,rfl,Bk.new_at _ _ _ (by simp),by omega,by simp,(((aH.alloc _).alloc _).alloc _).alloc _⟩
def CdP (C:Pcx)(d:Nat)(r:PR Cn)(W:World)(e:Ending)(w':World):Prop:=
 match r with
 | .err c a=>e=zaf c a/\Fr C.T W w'
 | .ok x l=>∃v,e= .returned v/\CdV w' W.heap.size v x/\PaAt C w' l d/\Fr C.T W w'
theorem CdP.ways {C:Pcx}{d:Nat}{r:PR Cn}{W w':World}{e:Ending}(h:CdP C d r W e w'):
  (∃(x:Cn)(l:List Tk)(A:Option Addr)(c:Nat)(B:Option Addr)(q:Nat),r= .ok x l/\e= .returned (.agg #[.int .u8 x.k,.slice A x.args.len c,.slice B x.of_.len q,.int .i64 x.at_])/\CdV w' W.heap.size (cdV x.k A x.args.len c B x.of_.len q x.at_) x/\PaAt C w' l d/\Fr C.T W w')\/
   ∃c a,r= .err c a/\e= .panicked [{v:= .iface 161 (.agg #[.int .i64 c,.int .i64 a]),recovered:=false}]/\Fr C.T W w':=by
 unfold CdP at h;cases r with
 |err c a=>exact .inr ⟨c,a,rfl,h⟩
 |ok x l=>
  obtain⟨v,rfl,hv,hp,hf⟩:=h;obtain⟨A,c,B,q,rfl⟩:=CdVS.parts hv;exact .inl ⟨x,l,A,c,B,q,rfl,rfl,hv,hp,hf⟩
/-! plain conditions -/
def cmpS:List (List UInt8):= [[60], [60,61], [62], [62,61], [61,61], [33,61]]
def notS:List (List UInt8):= [[33], [91], [116,114,117,101], [102,97,108,115,101]]
def zgw (nt:List Tk->PR Cn)(l:List Tk):PR Cn:=zaU (zaU nt (zdb 10) [[38,38]]) (zdb 11) [[124,124]] l
def cmpP (n:Nat)(l:List Tk):PR Cn:=
 (zaO n l).then λx r=>if isP cmpS r < 0 then .err 90 (hdT r).at_ else(zaO n r.tail).then λy q=> .ok ⟨3+isP cmpS r,x.cons (y.cons .nil),.nil,(hdT r).at_⟩ q
def notP:Nat->List Tk->PR Cn
 |n,l=>
  if isP notS l=0 then(match n with
   |0=> .err 91 (hdT l).at_
   |n+1=>(notP n l.tail).then λc r=> .ok ⟨9,.nil,c.cons .nil,(hdT l).at_⟩ r)
  else if isP notS l=1 then(match n with
   |0=> .err 91 (hdT l).at_
   |n+1=>(zgw (notP n) l.tail).then λc r=>(zal [93] r).then λ_ r=> .ok c r)
  else if isP notS l=2\/isP notS l=3 then .ok ⟨1+(isP notS l - 2),.nil,.nil,(hdT l).at_⟩ l.tail
  else cmpP n l
def zec (n:Nat)(l:List Tk):PR Cn:=zgw (notP n) l
theorem ziZ {nt:List Tk->PR Cn}(h:Shr nt):Shr (zgw nt):=zaA (zaA h)
theorem zh9 (n:Nat):Shr (cmpP n):=λl y r e=>by
 obtain⟨a,q,h1,h2⟩:=PR.then_ok e;have:=zd8 n _ _ _ h1;split at h2
 ·simp at h2
 ·obtain⟨b,q2,h3,h4⟩:=PR.then_ok h2;simp only[PR.ok.injEq]at h4;have h5:=zd8 n _ _ _ h3;rw[List.length_tail]at h5;rw[<-h4.2];omega
theorem zcM:∀n,Shr (notP n)
 |0=>λl y r e=>by
  simp only[notP]at e;split at e
  ·simp at e
  ·split at e
   ·simp at e
   ·split at e
    ·simp only[PR.ok.injEq]at e;rw[<-e.2,List.length_tail];omega
    ·exact zh9 0 _ _ _ e
 |n+1=>λl y r e=>by
  have ih:=zcM n;simp only[notP]at e;split at e
  ·obtain⟨a,q,h1,h2⟩:=PR.then_ok e;simp only[PR.ok.injEq]at h2;have:=ih _ _ _ h1;rw[List.length_tail]at this;rw[<-h2.2];omega
  ·split at e
   ·obtain⟨a,q,h1,h2⟩:=PR.then_ok e;obtain⟨u,q2,h3,h4⟩:=PR.then_ok h2;simp only[PR.ok.injEq]at h4;have:=ziZ ih _ _ _ h1;rw[List.length_tail]at this;rw[<-h4.2,zbF h3,List.length_tail];omega
   ·split at e
    ·simp only[PR.ok.injEq]at e;rw[<-e.2,List.length_tail];omega
    ·exact zh9 (n+1) _ _ _ e
structure ChC (C:Pcx)(w:World)(bx d:Nat)(R:PR Cn)(one:List Tk->PR Cn)(first:Int)(signs:List (List UInt8))(wr:World)(x:Cn)(A:Option Addr)(c:Nat)(B:Option Addr)(pc:Nat)(l:List Tk):Prop where
 eq:∃f,R=zaG one (zdb first) signs f x l/\l.length<=f
 box0:Bk wr w.heap.size 179 #[.int .u8 0,.slice none 0 0,.slice none 0 0,.int .i64 0]
 box:Bk wr bx 179 #[.int .u8 x.k,.slice A x.args.len c,.slice B x.of_.len pc,.int .i64 x.at_]
 hbx:w.heap.size+1<=bx
 val:CdVS wr (NewX (w.heap.size+1) bx wr) (cdV x.k A x.args.len c B x.of_.len pc x.at_) x
 pa:PaAt C wr l d
 fr:Fr C.T w wr
theorem zmB {C:Pcx}{w wr w5 w7 w8:World}{bx d:Nat}{R:PR Cn}{one:List Tk->PR Cn}{first:Int}{signs:List (List UInt8)}{x y:Cn}{A A2 B B2:Option Addr}{c1 c2 xv uE:Nat}{r l2:List Tk}{k:Int}{g2:Nat}
  (hk:C.Ok) (hL:C.P < w.heap.size/\C.TB < w.heap.size/\C.W0.heap.size<=w.heap.size) (Gv:ChC C w bx d R one first signs wr x A c1 B xv r) (Lc:bx≠C.P) (Hm:Fr C.T wr w5) (NZ:CdV w7 w5.drew.heap.size (cdV y.k A2 y.args.len c2 B2 y.of_.len uE y.at_) y) (Fb:PaAt C w7 l2 d) (Hs:Fr C.T w5.drew w7)
  (N0:Bk w8 g2 179 #[.int .u8 x.k,.slice A x.args.len c1,.slice B x.of_.len xv,.int .i64 x.at_,.int .u8 y.k,.slice A2 y.args.len c2,.slice B2 y.of_.len uE,.int .i64 y.at_])
  (Qd:w7.heap.size<=g2/\g2 < w8.heap.size) (GQ:Fr NoT w7 w8) (F3:Bk w8 bx 179 #[.int .u8 x.k,.slice A x.args.len c1,.slice B x.of_.len xv,.int .i64 x.at_])
  (KI:∃f,R=zaG one (zdb first) signs f (zdb first k (hdT r).at_ x y) l2/\l2.length<=f) (G9:0<=k) (KD:k<=5) (Jo:0<=first) (Hd:first<=20) (w9:World)
  (KJ:w9=((((w8.setCell ⟨bx,0,none⟩ (.int .u8 first)).setCell ⟨bx,1,none⟩ (.slice none 0 0)).setCell ⟨bx,2,none⟩ (.slice (some ⟨g2,0,none⟩) 2 2)).setCell ⟨bx,3,none⟩ (.int .i64 ((hdT r).at_ :Int)))):
  ChC C w bx d R one first signs w9 (zdb first k (hdT r).at_ x y) none 0 (some ⟨g2,0,none⟩) 2 l2:=by
 have Gl:Fr (λb=>b=bx) w8 w9:=by rw[KJ];exact aJ (aJ (aJ (aJ aH)))
 have JS:bx < wr.heap.size:=Gv.box.lt;have U6:=Gv.fr.size;have RL:=Hm.size;have N1:w5.heap.size<=w7.heap.size:=Hs.size;have X5:=GQ.size;have PP:=Gl.size;have Gz:=Gv.hbx;have hT:∀b,C.T b->b=C.P:=λ_ h=>h;have FU:Fr (λb=>b=C.P\/b=bx) wr w9:=
  (((Hm.drew.mono λi _ h=>Or.inl (hT i h)).trans (Hs.mono λi _ h=>Or.inl (hT i h))).trans GQ.any).trans (Gl.mono λi _ h=>Or.inr h)
 have Ld:Fr (λb=>b=bx) w7 w9:=GQ.any.trans Gl;have Hg:in64 ((hdT r).at_ :Int):=by
  obtain⟨j,cap,e,_⟩:=Gv.pa.at_;have:=hk.pos _ (List.mem_of_getElem? (zaH e Gv.pa.ne).1);unfold in64;omega
 obtain⟨x1,x3,Ax,cx,Bx,qx,ex,JJ,VW⟩:=Gv.val;obtain⟨y1,y3,Ay,cy,By,qy,ey,VQ,qS⟩:=NZ;simp only[cdV,Value.agg.injEq,Array.mk.injEq,List.cons.injEq,Value.slice.injEq,true_and,and_true]at ex ey;obtain⟨⟨rfl,rfl⟩,rfl,rfl⟩:=ex;obtain⟨⟨rfl,rfl⟩,rfl,rfl⟩:=ey;refine⟨KI,?_,?_,Gv.hbx,?_,?_,?_⟩
 ·exact(Gv.box0.fr FU (λe=>by
   rcases e with e|e<;>omega))
 ·rw[KJ];have:=(((F3.set_ 0 (.int .u8 first)).set_ 1 (.slice none 0 0)).set_ 2 (.slice (some ⟨g2,0,none⟩) 2 2)).set_ 3 (.int .i64 ((hdT r).at_ :Int));have e:Bk ((((w8.setCell ⟨bx,0,none⟩ (.int .u8 first)).setCell ⟨bx,1,none⟩ (.slice none 0 0)).setCell ⟨bx,2,none⟩ (.slice (some ⟨g2,0,none⟩) 2 2)).setCell ⟨bx,3,none⟩ (.int .i64 ((hdT r).at_ :Int))) bx 179 #[.int .u8 first,.slice none 0 0,.slice (some ⟨g2,0,none⟩) 2 2,.int .i64 ((hdT r).at_ :Int)]:=by simpa using this
  exact e
 ·have hX:∀b,NewX (w.heap.size+1) bx wr b->(b < wr.heap.size/\¬(b=C.P\/b=bx))/\NewX (w.heap.size+1) bx w9 b:=λb hb=>
   ⟨⟨hb.2.1,λe=>by
    rcases e with e|e
    ·have:=hb.1;omega
    ·exact hb.2.2 e⟩,hb.1,by have:=hb.2.1;omega,hb.2.2⟩
  have hY:∀b,New w5.drew.heap.size w7 b->(b < w7.heap.size/\¬b=bx)/\NewX (w.heap.size+1) bx w9 b:=λb hb=>by
   have h1:w5.heap.size<=b:=hb.1;have h2:b < w7.heap.size:=hb.2;exact⟨⟨h2,by omega⟩,by omega,by omega,by omega⟩
  refine⟨by show in8 first;unfold in8;omega,Hg,none,0,some ⟨g2,0,none⟩,2,rfl,⟨aL 0,sl0,λh=>absurd h (by exact Nat.lt_irrefl 0)⟩,aL 2,sl2,λ_=>⟨g2,0,rfl,?_⟩⟩;refine zoD (N0.fr Gl (λe=>by omega)) ⟨by omega,by omega,by omega⟩ ⟨x1,x3⟩ ⟨y1,y3⟩ (JJ.imp λ_ _ h=>?_) (VW.imp λ_ _ h=>?_) (VQ.imp λ_ _ h=>?_) (qS.imp λ_ _ h=>?_)
  ·exact ExR.more (λb hb=>(hX b hb).2) (ExR.keep (FU.same λb hb=>(hX b hb).1) h)
  ·exact CdR.more (λb hb=>(hX b hb).2) (CdR.keep (FU.same λb hb=>(hX b hb).1) h)
  ·exact ExR.more (λb hb=>(hY b hb).2) (ExR.keep (Ld.same λb hb=>(hY b hb).1) h)
  ·exact CdR.more (λb hb=>(hY b hb).2) (CdR.keep (Ld.same λb hb=>(hY b hb).1) h)
 ·refine Fb.fr Ld (λe=>Lc e.symm) (λe=>?_) (λi hi e=>?_)
  ·omega
  ·omega
 ·rw[KJ];have:=((Gv.fr.trans Hm).drew.trans Hs).trans GQ.any;exact Fr.high (Fr.high (Fr.high (Fr.high this (by omega) _ _) (by omega) _ _) (by omega) _ _) (by omega) _ _
theorem zi0 (C:Pcx)(one:List Tk->PR Cn)(first:Int)(signs:List (List UInt8))(g:Nat)(fst cap:Array Value)(bt b c:Nat)(l:List Tk)(d:Nat)(w:World)(hk:C.Ok)(h:PaAt C w l d)(Jy:Shr one)
  (L6:∀s∈signs,s≠ []) (Gq:signs.length<=3) (hc:∀j,j < signs.length->w.cell? ⟨b,j,none⟩=some (.string ⟨(signs.getD j []).toArray⟩)) (JS:b < w.heap.size) (Tx:b≠C.P)
  (MI:Bk w bt 5 #[.int .u8 first]) (Mi:bt≠C.P) (Jo:0<=first) (Hd:first<=20)
  (hent:Enters Tryz.prog g) (Hp:∀W,Fr C.T w W->∀l',PaAt C W l' d->Calls Tryz.prog g (fst++cap) W (CdP C d (one l') W)):
  Calls Tryz.prog 314 #[pP C,.func (.func g) fst cap,.func (.func 312) #[] #[.pointer (some ⟨bt,0,none⟩)],.slice (some ⟨b,0,none⟩) signs.length c] w (CdP C d (zaU one (zdb first) signs l) w):=by
 obtain⟨R,hR⟩:=aF (zaU one (zdb first) signs l);rw[<-hR];have HR:=aA hR;have H0:=aA h;have HL:=aA h.lts;have JZ:=aA Hp;obtain⟨n,hn⟩:=aF signs.length;have HC:=aA hc;have YQ:=aA L6;have HN:=aA hn;rw[<-hn]at Gq ⊢;unfold Enters at hent;have h2:=h.alloc (.cells #[.int .u8 0,.slice none 0 0,.slice none 0 0,.int .i64 0] 179);have H2:=aA h2;clear hR h Hp hc L6 hn h2;cases ho:one l with
 |err e a=>
  have hq:=JZ _ ((Fr.refl C.T w).alloc (.cells #[.int .u8 0,.slice none 0 0,.slice none 0 0,.int .i64 0] 179)) l H2.out;rw[ho]at hq;have Qe:R= .err e a:=by rw[HR.out];unfold zaU;rw[ho];rfl
  rw[Qe];unfold CdP at hq ⊢;simp only at hq ⊢;unfold zaf pP at*;have HQ:=aA hq;clear hq ho Qe;go_enter Tryz.func314,Tryz.ntmps314;go_wp2_with fail;try simp only[Array.append_empty]
  refine HQ.mono ?_;rintro _ w2 ⟨rfl,hf⟩;go_wp2_with fail;exact⟨rfl,rfl,(aH.alloc _).trans hf⟩
 |ok x l1=>
  have hq:=JZ _ ((Fr.refl C.T w).alloc (.cells #[.int .u8 0,.slice none 0 0,.slice none 0 0,.int .i64 0] 179)) l H2.out;rw[ho]at hq;have Qe:R=zaG one (zdb first) signs l1.length x l1:=by rw[HR.out];unfold zaU;rw[ho];rfl
  have Ty:=aA Qe;unfold CdP at hq;simp only at hq;unfold pP at*;have HQ:=aA hq;clear hq ho Qe;go_enter Tryz.func314,Tryz.ntmps314;go_wp2_with fail;try simp only[Array.append_empty]
  refine HQ.mono ?_;rintro _ w2 ⟨v,rfl,hv,GP,hf⟩;obtain⟨A,c1,B,xv,rfl⟩:=CdVS.parts hv;have Gv:ChC C w w2.heap.size d R one first signs (w2.alloc (.cells #[.int .u8 x.k,.slice A x.args.len c1,.slice B x.of_.len xv,.int .i64 x.at_] 179)) x A c1 B xv l1:=by
   have hs:=hf.size;rw[World.size_alloc]at hs;refine⟨⟨_,Ty.out,aL _⟩,?_,Bk.new _ _ _,hs,?_,GP.alloc _,((aH.alloc _).trans hf).alloc _⟩
   ·exact((Bk.new w _ _).fr hf (λe=>by have e:w.heap.size=C.P:=e;have:=HL.1;omega)).alloc _
   ·refine CdVS.fr (T:=NoT) hv (aH.alloc _) (λb hb=>⟨hb.2,id⟩) λb hb=>?_;have h1:=hb.1;have h2:=hb.2;rw[World.size_alloc]at h1;exact⟨h1,by rw[World.size_alloc];omega,by omega⟩
  obtain⟨bx,hbx⟩:=aF w2.heap.size;obtain⟨w3,GR⟩:=aF (w2.alloc (.cells #[.int .u8 x.k,.slice A x.args.len c1,.slice B x.of_.len xv,.int .i64 x.at_] 179));rw[<-hbx,<-GR]at Gv;unfold cdV;have Tz:=aA Gv;have JV:=aA hbx;have LT:=aA GR;have VR:∀W l',Fr C.T w W->PaAt C W l' d->Calls Tryz.prog 200 #[.pointer (some ⟨C.P,0,none⟩),.slice (some ⟨b,0,none⟩) n c] W λe w'=>e= .returned (.int .i64 (isP signs l'))/\W=w':=λW l' hF hP=>by
   have:=zh0 C signs l' d b 0 c W hP (by rw[<-HN.out];omega) (λj hj=>by
    rw[Nat.zero_add];exact(hF.cell (p:=⟨b,j,none⟩) JS Tx).trans (HC j hj))
   rw[<-HN.out]at this;exact this
  have Ry:=aA VR;clear hv GP hf Gv hbx GR VR;go_wp2_with fail;rw[<-LT.out];refine(Ry _ _ Tz.fr Tz.pa).mono ?_;rintro _ w4 ⟨rfl,rfl⟩;rw[<-JV.out];go_wp2_with fail;go_loopw [10] (λv wr=>∃(x:Cn)(A:Option Addr)(c1:Nat)(B:Option Addr)(xv:Nat)(r:List Tk),v= .int .i64 (isP signs r)/\Hid (ChC C w bx d R one first signs wr x A c1 B xv r)) (λ_ wr=>lenP C wr);case atStart=>exact⟨x,A,c1,B,xv,l1,rfl,Tz⟩
  case round=>
   obtain⟨x,A,c1,B,xv,r,rfl,Gv⟩:=hrel;obtain⟨k,GI⟩:=aF (isP signs r);rw[<-GI];have b1:=Gv.box.cell 0;have b2:=Gv.box.cell 1;have b3:=Gv.box.cell 2;have b4:=Gv.box.cell 3;have b0:=Gv.box0.cell 0;simp only[aD]at b1 b2 b3 b4;have Nf:=aA GI;clear GI;by_cases FV:k < 0
   ·clear b0;have g0:=Gv.box0.frozen 0;have g1:=Gv.box0.frozen 1;have g2:=Gv.box0.frozen 2;have g3:=Gv.box0.frozen 3;have q0:=Gv.box0.cell 0;have q1:=Gv.box0.cell 1;have q2:=Gv.box0.cell 2;have q3:=Gv.box0.cell 3;have TA:=Gv.box0.lt;simp only[aD]at q0 q1 q2 q3;have Gh:¬0<=k:=by omega
    have KI:R= .ok x r:=by
     obtain⟨f,hf,_⟩:=Gv.eq;rw[hf];cases f with
     |zero=>rfl
     |succ f=>simp only[zaG];rw[if_pos (by rw[<-Nf.out];exact FV)]
    have Fh:=aA KI;clear KI;go_wp2_with fail;refine bodyPost_ret (v:=cdV x.k A x.args.len c1 B x.of_.len xv x.at_) (by simp[results,Tryz.results314,go_sem,cdV,q0,q1,q2,q3,TA]) rfl ?_;rw[Fh.out];unfold CdP;simp only;have G6:Fr (λb=>b=w.heap.size) wr ((((wr.setCell ⟨w.heap.size,0,none⟩ (.int .u8 x.k)).setCell ⟨w.heap.size,1,none⟩ (.slice A x.args.len c1)).setCell ⟨w.heap.size,2,none⟩ (.slice B x.of_.len xv)).setCell ⟨w.heap.size,3,none⟩ (.int .i64 x.at_)):=by
     exact aJ (aJ (aJ (aJ aH)))
    refine⟨_,rfl,CdVS.fr Gv.val G6 (λb hb=>⟨hb.2.1,λe=>by have:=hb.1;omega⟩) (λb hb=>⟨by have:=hb.1;omega,by have:=hb.2.1;have:=G6.size;omega⟩),?_,?_⟩
    ·refine Gv.pa.fr G6 (λe=>?_) (λe=>?_) (λi hi e=>?_)<;>have:=HL.out<;>omega
    ·exact Fr.high (Fr.high (Fr.high (Fr.high Gv.fr (aL _) _ _) (aL _) _ _) (aL _) _ _) (aL _) _ _
   ·have G9:0<=k:=by omega
    have Mh:=zcK (signs:=signs) (l:=r) (by rw[<-Nf.out];exact G9);have VS:=YQ _ Mh.1;have JG:=zbl C r d wr hk Gv.pa (λht=>VS ht.1);unfold zd5 tkV pP at JG;have Mw:=aA JG;have KD:k<=5:=by
     have:=zh2 signs r;rw[<-Nf.out,<-HN.out]at this;omega
    clear FV JG Mh VS;go_wp2_with fail;refine Mw.mono ?_;rintro _ w5 ⟨rfl,GP,hf⟩;have Lc:bx≠C.P:=by have:=Gv.hbx;have:=HL.1;omega
    have Ja:=Gv.box.fr hf Lc;have RM:=aA GP;have Gk:=aA (Gv.fr.trans hf);have YR:=aA hf;have y1:=Ja.cell 0;have y2:=Ja.cell 1;have y3:=Ja.cell 2;have y4:=Ja.cell 3;simp only[aD]at y1 y2 y3 y4;have TC:=aA Ja;have Hp:=λW hW=>JZ W hW r.tail;clear GP hf Ja b0 b1 b2 b3 b4;go_wp2_with fail;cases ho:one r.tail with
    |err e a=>
     have hq:=Hp _ Gk.drew (RM.fr (T:=NoT) (Fr.drew aH) id id (λ_ _=>id));rw[ho]at hq;unfold CdP at hq;simp only at hq;unfold zaf at hq;have SU:=aA hq;have KI:R= .err e a:=by
      obtain⟨f,hf,FR⟩:=Gv.eq;have F6:0 < r.length:=List.length_pos_iff.2 Gv.pa.ne;obtain⟨f,rfl⟩:∃f',f=f'+1:=⟨f - 1,by omega⟩;rw[hf];simp only[zaG];rw[if_neg (by rw[<-Nf.out];omega),ho];rfl
     have Fh:=aA KI;clear hq KI ho Hp
     go_region_dies
     all_goals
      refine SU.mono ?_;rintro _ w7 ⟨rfl,Hs⟩;go_wp2_with fail;exact⟨rfl,by rw[Fh.out];exact⟨rfl,Gk.drew.trans Hs⟩⟩
    |ok y l2=>
     have hq:=Hp _ Gk.drew (RM.fr (T:=NoT) (Fr.drew aH) id id (λ_ _=>id));rw[ho]at hq;unfold CdP at hq;simp only at hq;have SU:=aA hq;have KI:∃f,R=zaG one (zdb first) signs f (zdb first k (hdT r).at_ x y) l2/\l2.length<=f:=by
      obtain⟨f,hf,FR⟩:=Gv.eq;have F6:0 < r.length:=List.length_pos_iff.2 Gv.pa.ne;obtain⟨f,rfl⟩:∃f',f=f'+1:=⟨f - 1,by omega⟩;refine⟨f,?_,?_⟩
      ·rw[hf];simp only[zaG];rw[if_neg (by rw[<-Nf.out];omega),ho,<-Nf.out];rfl
      ·have:=Jy _ _ _ ho;rw[List.length_tail]at this;omega
     have Fh:=aA KI;have HS:=aA (Jy _ _ _ ho);clear hq KI ho Hp
     go_region_with
      (first
       |(go_at_call 312
         with_reducible refine(zkg first k (hdT r).at_ bt x.k x.at_ y.k y.at_ A B A2 B2 x.args.len y.args.len c1 c2 x.of_.len y.of_.len xv uE w7 Qf.out.1 Qf.out.2).mono ?_
         rintro _ w8 ⟨g2,rfl,N0,Qd,Qg,GQ⟩;have F3:=YS.fr0 GQ;have q1:=F3.cell 0;have q2:=F3.cell 1;have q3:=F3.cell 2;have q4:=F3.cell 3;have f1:=F3.frozen 0;have f2:=F3.frozen 1;have f3:=F3.frozen 2;have f4:=F3.frozen 3;simp only[aD]at q1 q2 q3 q4;have YT:=aA N0;have VT:=aA (show w7.heap.size<=g2/\g2 < w8.heap.size from⟨Qd,Qg⟩);have SV:=aA GQ;have Rz:=aA F3;clear N0 Qd Qg GQ F3 z1 z2 z3 z4
         skip)
       |(with_reducible refine SU.out.mono ?_
         rintro _ w7 ⟨v7,rfl,NZ,Qh,Hs⟩;obtain⟨A2,c2,B2,uE,rfl⟩:=CdVS.parts NZ;have Hh:=(TC.fr (Fr.drew aI) id).fr Hs Lc;have z1:=Hh.cell 0;have z2:=Hh.cell 1;have z3:=Hh.cell 2;have z4:=Hh.cell 3;simp only[aD]at z1 z2 z3 z4;have YS:=aA Hh;have Nr:=aA NZ;have Le:=aA Qh;have Fp:=aA Hs;have Ns:=((MI.fr Gk.out Mi).fr (Fr.drew aI) id).fr Hs Mi;have Qf:=aA (show bt < w7.heap.size/\w7.cell? ⟨bt,0,none⟩=some (.int .u8 first)from⟨Ns.lt,Ns.cell 0⟩);clear Hh NZ Qh Hs Ns;unfold cdV))
     all_goals(go_wp2_with fail)
     all_goals
      obtain⟨w9,KJ⟩:=aF (((((w8.setCell ⟨bx,0,none⟩ (.int .u8 first)).setCell ⟨bx,1,none⟩ (.slice none 0 0)).setCell ⟨bx,2,none⟩ (.slice (some ⟨g2,0,none⟩) 2 2)).setCell ⟨bx,3,none⟩ (.int .i64 ((hdT r).at_ :Int))));have Nt:=zmB hk HL.out Gv.out Lc YR.out Nr.out Le.out Fp.out YT.out VT.out SV.out Rz.out Fh.out G9 KD Jo Hd w9 KJ;rw[<-KJ];have Nu:=aA Nt;have YU:=aA (show lenP C w9 < lenP C wr from by
       rw[Nt.pa.lenP,Gv.pa.lenP];have h1:=HS.out;have h2:=List.length_pos_iff.2 Gv.pa.ne;rw[List.length_tail]at h1;omega)
      clear KJ Nt q1 q2 q3 q4 f1 f2 f3 f4;refine(Ry _ l2 Nu.fr Nu.pa).mono ?_;rintro _ w10 ⟨rfl,rfl⟩;go_wp2_with fail;go_roundw;case rel=>exact⟨_,_,_,_,_,l2,rfl,Nu⟩
      case measure=>exact YU.out
theorem zfM {C:Pcx}{w WA w7 w9:World}{d rb:Nat}{x:Cn}{l:List Tk}{A:Option Addr}{c:Nat}{B:Option Addr}{pc:Nat}(hL:C.P < w.heap.size/\C.TB < w.heap.size/\C.W0.heap.size<=w.heap.size)(hA:Fr NoT w WA)(hr:w.heap.size<=rb)(GT:rb < WA.heap.size)
  (hv:CdV w7 WA.heap.size (cdV x.k A x.args.len c B x.of_.len pc x.at_) x) (hp:PaAt C w7 l d) (hf:Fr C.T WA w7)
  (h9:w9=(((w7.setCell ⟨rb,0,none⟩ (.int .u8 x.k)).setCell ⟨rb,1,none⟩ (.slice A x.args.len c)).setCell ⟨rb,2,none⟩ (.slice B x.of_.len pc)).setCell ⟨rb,3,none⟩ (.int .i64 x.at_)):
  CdP C d (.ok x l) w (.returned (cdV x.k A x.args.len c B x.of_.len pc x.at_)) w9:=by
 have Gl:Fr (λb=>b=rb) w7 w9:=by rw[h9];exact aJ (aJ (aJ (aJ aH)))
 have h1:=hA.size;unfold CdP;refine⟨_,rfl,(CdV.fr hv Gl λb h2 h3 e=>?_).low (by omega),hp.fr Gl (λe=>?_) (λe=>?_) (λi hi e=>?_),?_⟩
 ·have e:b=rb:=e;omega
 ·have e:C.P=rb:=e;omega
 ·have e:C.TB=rb:=e;omega
 ·have e:i=rb:=e;omega
 ·rw[h9];have:=hA.any.trans hf;exact Fr.high (Fr.high (Fr.high (Fr.high this (by omega) _ _) (by omega) _ _) (by omega) _ _) (by omega) _ _
theorem zgx (C:Pcx)(one:List Tk->PR Cn)(first:Int)(signs:List (List UInt8))(g:Nat)(fst cap:Array Value)(bt b m:Nat)(l:List Tk)(d:Nat)(w:World)(hk:C.Ok)(h:PaAt C w l d)(Jy:Shr one)
  (hm:m=signs.length) (L6:∀s∈signs,s≠ []) (Gq:signs.length<=3) (N2:Bk w b 9 (strA signs)) (Tx:b≠C.P)
  (MI:Bk w bt 5 #[.int .u8 first]) (Mi:bt≠C.P) (Jo:0<=first) (Hd:first<=20)
  (hent:Enters Tryz.prog g) (Hp:∀W,Fr C.T w W->∀l',PaAt C W l' d->Calls Tryz.prog g (fst++cap) W (CdP C d (one l') W)):
  Calls Tryz.prog 314 #[.pointer (some ⟨C.P,0,none⟩),.func (.func g) fst cap,.func (.func 312) #[] #[.pointer (some ⟨bt,0,none⟩)],.slice (some ⟨b,0,none⟩) m m] w (CdP C d (zaU one (zdb first) signs l) w):=by
 subst hm;exact zi0 C one first signs g fst cap bt b _ l d w hk h Jy L6 Gq (λj hj=>by rw[N2.cell j];simp[strA,hj]) N2.lt Tx MI Mi Jo Hd hent Hp
def NotC (C:Pcx)(n:Nat):Prop:=∀(l:List Tk)(d:Nat)(w:World),d+n=24->PaAt C w l d->Calls Tryz.prog 315 #[.pointer (some ⟨C.P,0,none⟩)] w (CdP C d (notP n l) w)
def andS:List (List UInt8):= [[38,38]]
def orS:List (List UInt8):= [[124,124]]
def allP (n:Nat)(l:List Tk):PR Cn:=zaU (notP n) (zdb 10) andS l
theorem zmC (n:Nat):Shr (allP n):=zaA (zcM n)
theorem zoE (C:Pcx)(n:Nat)(hs:NotC C n)(l:List Tk)(d pb fb:Nat)(w:World)(Ga:d+n=24)(hk:C.Ok)(h:PaAt C w l d)(Ju:Bk w pb 162 #[.pointer (some ⟨C.P,0,none⟩)])(Gh:pb≠C.P)(Ld:Bk w fb 397 #[.func (.func 311) #[] #[]])(Qi:fb≠C.P):
  Calls Tryz.prog 313 #[.pointer (some ⟨pb,0,none⟩),.pointer (some ⟨fb,0,none⟩)] w (CdP C d (allP n l) w):=by
 have JI:= @makeF Tryz.prog;have hL:=h.lts;have Gt:=Ju.lt;have FR:=Ld.lt;have RA:fb≠C.P:=Qi;have Ng:=Ld.cell 0;have KX:pb≠C.P:=Gh;have FF:=Ju.cell 0;simp only[List.getElem?_toArray,List.getElem?_cons_zero]at FF Ng;obtain⟨w1,Hc⟩:=aF (w.alloc (.cells #[.int .u8 0,.slice none 0 0,.slice none 0 0,.int .i64 0] 179));have Hw:w1.heap.size=w.heap.size+1:=by rw[Hc];simp
 have Hd:Fr NoT w w1:=by rw[Hc];exact aH.alloc _
 have hbx:Bk w1 w.heap.size 179 #[.int .u8 0,.slice none 0 0,.slice none 0 0,.int .i64 0]:=by rw[Hc];exact Bk.new _ _ _
 obtain⟨a1,a2,a3⟩:=ordA w1 #[.int .u8 10] (strA andS) _ rfl;obtain⟨b1,b2,b3⟩:=ordB w1 #[.int .u8 10] (strA andS) _ rfl;rw[Hw]at a1 a2 b1 b2;have key:∀(W:World)(bt b:Nat),Fr NoT w1 W->Bk W bt 5 #[.int .u8 10]->Bk W b 9 (strA andS)->w.heap.size < bt->w.heap.size < b->Calls Tryz.prog 314 #[.pointer (some ⟨C.P,0,none⟩),.func (.func 315) #[.pointer (some ⟨C.P,0,none⟩)] #[],.func (.func 312) #[] #[.pointer (some ⟨bt,0,none⟩)],.slice (some ⟨b,0,none⟩) 1 1] W (CdP C d (allP n l) W):=λW bt b hf h1 h2 h3 h4=>
  zgx C (notP n) 10 andS 315 _ _ bt b 1 l d W hk (h.fr (Hd.trans hf) id id λ_ _=>id) (zcM n) rfl (by decide) (by decide) h2 (by omega) h1 (by omega) (by decide) (by decide) (enters_of Tryz.func315 (by kernel_rfl) rfl) λW' Fl l' LU=>by
   simpa using hs l' d W' Ga LU
 have fin:∀(WA w7:World)(e:Ending),Fr NoT w1 WA->CdP C d (allP n l) WA e w7->Fr NoT w WA/\Bk WA w.heap.size 179 #[.int .u8 0,.slice none 0 0,.slice none 0 0,.int .i64 0]:=λWA w7 e hf _=>⟨Hd.trans hf,hbx.fr0 hf⟩;have HA:=aA (key _ _ _ a3 a1 a2 (by omega) (by omega));have HB:=aA (key _ _ _ b3 b1 b2 (by omega) (by omega));have G0:=aA (aG (Hd.trans a3) (hbx.fr0 a3));have Fa:=aA (aG (Hd.trans b3) (hbx.fr0 b3));rw[Hc]at HA HB G0 Fa;have HL:=aA hL;have FG:¬w.heap.size=C.P:=by omega
 have KU:=aA FG;clear key fin Hc Hw Hd hbx a1 a2 a3 b1 b2 b3 hL h hk hs Ju Gh FG Ld Qi;unfold strA andS at HA HB G0 Fa;simp only[List.map_cons,List.map_nil]at HA HB G0 Fa;go_enter Tryz.func313,Tryz.ntmps313;go_wp2_with fail
 go_region_held2 (λW'=>W'.cell? ⟨pb,0,none⟩=some (.pointer (some ⟨C.P,0,none⟩))/\W'.cell? ⟨fb,0,none⟩=some (.func (.func 311) #[] #[]))
  (first
   |(refine⟨?_,?_⟩<;>with_reducible assumption)
   |(with_reducible refine⟨(Fr.cell (T:=λb=>b=w.heap.size) (w:=w7) (aJ (aJ (aJ (aJ aH)))) Fc.1 Fc.2).trans Fb,(Fr.cell (T:=λb=>b=w.heap.size) (w:=w7) (aJ (aJ (aJ (aJ aH)))) Lf.1 Lf.2).trans RB⟩)
   |(refine⟨(Fr.cell (T:=NoT) (w:=w) ?_ Gt id).trans FF,(Fr.cell (T:=NoT) (w:=w) ?_ FR id).trans Ng⟩<;>
     repeat(first|exact aH|refine Fr.alloc ?_ _|refine Fr.drew ?_)))
  (first
   |(go_at_call 311
     refine(zh8 _ _).mono ?_;rintro _ wa ⟨rfl,rfl⟩)
   |(go_at_call 314
     with_reducible refine HA.out.mono ?_
     intro e w7 hE;rcases hE.ways with⟨x,r,A,c,B,pc,hR,rfl,hv,hp,hf⟩|⟨c,a,hR,rfl,hf⟩;rotate_left
     ·exact⟨rfl,by rw[hR];exact⟨rfl,(G0.1.any).trans hf⟩⟩
     have Hh:=G0.2.fr hf KU.out;have q0:=Hh.cell 0;have q1:=Hh.cell 1;have q2:=Hh.cell 2;have q3:=Hh.cell 3;have g0:=Hh.frozen 0;have g1:=Hh.frozen 1;have g2:=Hh.frozen 2;have g3:=Hh.frozen 3;have Jp:=Hh.lt;have Fb:=(FF.symm.trans ((G0.1.cell (p:=⟨pb,0,none⟩) Gt id).symm.trans (hf.cell (p:=⟨pb,0,none⟩) (aM Gt G0.1.size) KX).symm)).symm;have RB:=(Ng.symm.trans ((G0.1.cell (p:=⟨fb,0,none⟩) FR id).symm.trans (hf.cell (p:=⟨fb,0,none⟩) (aM FR G0.1.size) RA).symm)).symm;have Fc:pb < w7.heap.size/\¬pb=w.heap.size:=⟨aM Gt (aK G0.1.size hf.size),by omega⟩;have Lf:fb < w7.heap.size/\¬fb=w.heap.size:=⟨aM FR (aK G0.1.size hf.size),by omega⟩;simp only[aD]at q0 q1 q2 q3;have HE:=aA (show ∀w9,w9=(((w7.setCell ⟨w.heap.size,0,none⟩ (.int .u8 x.k)).setCell ⟨w.heap.size,1,none⟩ (.slice A x.args.len c)).setCell ⟨w.heap.size,2,none⟩ (.slice B x.of_.len pc)).setCell ⟨w.heap.size,3,none⟩ (.int .i64 x.at_)->CdP C d (allP n l) w (.returned (cdV x.k A x.args.len c B x.of_.len pc x.at_)) w9 from λw9 h9=>by
      rw[hR];exact zfM HL.out G0.1 (aL _) G0.2.lt hv hp hf h9)
     clear hR hv hp hf Hh)
   |(go_at_call 314
     with_reducible refine HB.out.mono ?_
     intro e w7 hE;rcases hE.ways with⟨x,r,A,c,B,pc,hR,rfl,hv,hp,hf⟩|⟨c,a,hR,rfl,hf⟩;rotate_left
     ·exact⟨rfl,by rw[hR];exact⟨rfl,(Fa.1.any).trans hf⟩⟩
     have Hh:=Fa.2.fr hf KU.out;have q0:=Hh.cell 0;have q1:=Hh.cell 1;have q2:=Hh.cell 2;have q3:=Hh.cell 3;have g0:=Hh.frozen 0;have g1:=Hh.frozen 1;have g2:=Hh.frozen 2;have g3:=Hh.frozen 3;have Jp:=Hh.lt;have Fb:=(FF.symm.trans ((Fa.1.cell (p:=⟨pb,0,none⟩) Gt id).symm.trans (hf.cell (p:=⟨pb,0,none⟩) (aM Gt Fa.1.size) KX).symm)).symm;have RB:=(Ng.symm.trans ((Fa.1.cell (p:=⟨fb,0,none⟩) FR id).symm.trans (hf.cell (p:=⟨fb,0,none⟩) (aM FR Fa.1.size) RA).symm)).symm;have Fc:pb < w7.heap.size/\¬pb=w.heap.size:=⟨aM Gt (aK Fa.1.size hf.size),by omega⟩;have Lf:fb < w7.heap.size/\¬fb=w.heap.size:=⟨aM FR (aK Fa.1.size hf.size),by omega⟩;simp only[aD]at q0 q1 q2 q3;have HE:=aA (show ∀w9,w9=(((w7.setCell ⟨w.heap.size,0,none⟩ (.int .u8 x.k)).setCell ⟨w.heap.size,1,none⟩ (.slice A x.args.len c)).setCell ⟨w.heap.size,2,none⟩ (.slice B x.of_.len pc)).setCell ⟨w.heap.size,3,none⟩ (.int .i64 x.at_)->CdP C d (allP n l) w (.returned (cdV x.k A x.args.len c B x.of_.len pc x.at_)) w9 from λw9 h9=>by
      rw[hR];exact zfM HL.out Fa.1 (aL _) Fa.2.lt hv hp hf h9)
     clear hR hv hp hf Hh))
 all_goals
  go_wp2_with fail;exact bodyPost_ret (v:=cdV x.k A x.args.len c B x.of_.len pc x.at_) (by simp[results,Tryz.results313,go_sem,cdV,q0,q1,q2,q3,Jp]) rfl (HE _ rfl)
-- cond
theorem zia (C:Pcx)(n:Nat)(hs:NotC C n)(l:List Tk)(d:Nat)(w:World)(Ga:d+n=24)(hk:C.Ok)(h:PaAt C w l d):
  Calls Tryz.prog 310 #[.pointer (some ⟨C.P,0,none⟩)] w (CdP C d (zec n l) w):=by
 have JI:= @makeF Tryz.prog;have hL:=h.lts;obtain⟨w1,Hc⟩:=aF (((w.alloc (.cells #[.pointer (some ⟨C.P,0,none⟩)] 162)).alloc (.cells #[.int .u8 0,.slice none 0 0,.slice none 0 0,.int .i64 0] 179)).alloc (.cells #[.func (.func 311) #[] #[]] 397));have Hw:w1.heap.size=w.heap.size+3:=by rw[Hc];simp
 have Hd:Fr NoT w w1:=by rw[Hc];exact((aH.alloc _).alloc _).alloc _
 have GD:Bk w1 w.heap.size 162 #[.pointer (some ⟨C.P,0,none⟩)]:=by rw[Hc];exact((Bk.new _ _ _).alloc _).alloc _
 have hbx:Bk w1 (w.heap.size+1) 179 #[.int .u8 0,.slice none 0 0,.slice none 0 0,.int .i64 0]:=by rw[Hc];exact(Bk.new_at _ _ _ (by simp)).alloc _
 have Jw:Bk w1 (w.heap.size+2) 397 #[.func (.func 311) #[] #[]]:=by rw[Hc];exact Bk.new_at _ _ _ (by simp)
 obtain⟨a1,a2,a3⟩:=ordA w1 #[.int .u8 11] (strA orS) _ rfl;obtain⟨b1,b2,b3⟩:=ordB w1 #[.int .u8 11] (strA orS) _ rfl;rw[Hw]at a1 a2 b1 b2;have key:∀(W:World)(bt b:Nat),Fr NoT w1 W->Bk W bt 5 #[.int .u8 11]->Bk W b 9 (strA orS)->w.heap.size < bt->w.heap.size < b->Calls Tryz.prog 314 #[.pointer (some ⟨C.P,0,none⟩),.func (.func 313) #[] #[.pointer (some ⟨w.heap.size,0,none⟩),.pointer (some ⟨w.heap.size+1+1,0,none⟩)],.func (.func 312) #[] #[.pointer (some ⟨bt,0,none⟩)],.slice (some ⟨b,0,none⟩) 1 1] W (CdP C d (zec n l) W):=λW bt b hf h1 h2 h3 h4=>
  zgx C (allP n) 11 orS 313 _ _ bt b 1 l d W hk (h.fr (Hd.trans hf) id id λ_ _=>id) (zmC n) rfl (by decide) (by decide) h2 (by omega) h1 (by omega) (by decide) (by decide) (enters_of Tryz.func313 (by kernel_rfl) rfl) λW' Fl l' LU=>by
   simpa using zoE C n hs l' d w.heap.size (w.heap.size+2) W' Ga hk LU ((GD.fr0 hf).fr Fl (λe=>by have e:w.heap.size=C.P:=e;omega)) (by omega) ((Jw.fr0 hf).fr Fl (λe=>by have e:w.heap.size+2=C.P:=e;omega)) (by omega)
 have HA:=aA (key _ _ _ a3 a1 a2 (by omega) (by omega));have HB:=aA (key _ _ _ b3 b1 b2 (by omega) (by omega));have G0:=aA (aG (Hd.trans a3) (aG (hbx.fr0 a3) (aG (GD.fr0 a3) (Jw.fr0 a3))));have Fa:=aA (aG (Hd.trans b3) (aG (hbx.fr0 b3) (aG (GD.fr0 b3) (Jw.fr0 b3))));have FF:=GD.cell 0;have Gt:=GD.lt;have Ng:=Jw.cell 0;have FR:=Jw.lt;simp only[List.getElem?_toArray,List.getElem?_cons_zero]at FF Ng;rw[Hc]at HA HB G0 Fa FF Gt Ng FR;have HL:=aA hL;have FG:¬w.heap.size+1=C.P:=by omega
 have KU:=aA FG;have KX:¬w.heap.size=C.P:=by omega
 have RA:¬w.heap.size+2=C.P:=by omega
 clear key Hc Hw Hd hbx GD Jw a1 a2 a3 b1 b2 b3 hL h hk hs FG;unfold strA orS at HA HB G0 Fa;simp only[List.map_cons,List.map_nil]at HA HB G0 Fa;go_enter Tryz.func310,Tryz.ntmps310;go_wp2_with fail
 go_region_held2 (λW'=>W'.cell? ⟨w.heap.size,0,none⟩=some (.pointer (some ⟨C.P,0,none⟩))/\W'.cell? ⟨w.heap.size+1+1,0,none⟩=some (.func (.func 311) #[] #[]))
  (first
   |(refine⟨?_,?_⟩<;>with_reducible assumption)
   |(with_reducible refine⟨(Fr.cell (T:=λb=>b=w.heap.size+1) (w:=w7) (aJ (aJ (aJ (aJ aH)))) Fc.1 Fc.2).trans Fb,(Fr.cell (T:=λb=>b=w.heap.size+1) (w:=w7) (aJ (aJ (aJ (aJ aH)))) Lf.1 Lf.2).trans RB⟩)
   |(refine⟨(Fr.cell (T:=NoT) ?_ Gt id).trans FF,(Fr.cell (T:=NoT) ?_ FR id).trans Ng⟩<;>
     repeat(first|exact aH|refine Fr.alloc ?_ _|refine Fr.drew ?_)))
  (first
   |(go_at_call 311
     refine(zh8 _ _).mono ?_;rintro _ wa ⟨rfl,rfl⟩)
   |(go_at_call 314
     with_reducible refine HA.out.mono ?_
     intro e w7 hE;rcases hE.ways with⟨x,r,A,c,B,pc,hR,rfl,hv,hp,hf⟩|⟨c,a,hR,rfl,hf⟩;rotate_left
     ·exact⟨rfl,by rw[hR];exact⟨rfl,(G0.1.any).trans hf⟩⟩
     have Hh:=G0.2.1.fr hf KU.out;have q0:=Hh.cell 0;have q1:=Hh.cell 1;have q2:=Hh.cell 2;have q3:=Hh.cell 3;have g0:=Hh.frozen 0;have g1:=Hh.frozen 1;have g2:=Hh.frozen 2;have g3:=Hh.frozen 3;have Jp:=Hh.lt;have Fb:=(G0.2.2.1.fr hf KX).cell 0;simp only[List.getElem?_toArray,List.getElem?_cons_zero]at Fb;have Fc:w.heap.size < w7.heap.size/\¬w.heap.size=w.heap.size+1:=⟨(G0.2.2.1.fr hf KX).lt,by omega⟩;have RB:=(G0.2.2.2.fr hf RA).cell 0;have Lf:w.heap.size+1+1 < w7.heap.size/\¬w.heap.size+1+1=w.heap.size+1:=⟨(G0.2.2.2.fr hf RA).lt,by omega⟩;simp only[List.getElem?_toArray,List.getElem?_cons_zero]at RB;simp only[aD]at q0 q1 q2 q3;have HE:=aA (show ∀w9,w9=(((w7.setCell ⟨w.heap.size+1,0,none⟩ (.int .u8 x.k)).setCell ⟨w.heap.size+1,1,none⟩ (.slice A x.args.len c)).setCell ⟨w.heap.size+1,2,none⟩ (.slice B x.of_.len pc)).setCell ⟨w.heap.size+1,3,none⟩ (.int .i64 x.at_)->CdP C d (zec n l) w (.returned (cdV x.k A x.args.len c B x.of_.len pc x.at_)) w9 from λw9 h9=>by
      rw[hR];exact zfM HL.out G0.1 (by omega) G0.2.1.lt hv hp hf h9)
     clear hR hv hp hf Hh)
   |(go_at_call 314
     with_reducible refine HB.out.mono ?_
     intro e w7 hE;rcases hE.ways with⟨x,r,A,c,B,pc,hR,rfl,hv,hp,hf⟩|⟨c,a,hR,rfl,hf⟩;rotate_left
     ·exact⟨rfl,by rw[hR];exact⟨rfl,(Fa.1.any).trans hf⟩⟩
     have Hh:=Fa.2.1.fr hf KU.out;have q0:=Hh.cell 0;have q1:=Hh.cell 1;have q2:=Hh.cell 2;have q3:=Hh.cell 3;have g0:=Hh.frozen 0;have g1:=Hh.frozen 1;have g2:=Hh.frozen 2;have g3:=Hh.frozen 3;have Jp:=Hh.lt;have Fb:=(Fa.2.2.1.fr hf KX).cell 0;simp only[List.getElem?_toArray,List.getElem?_cons_zero]at Fb;have Fc:w.heap.size < w7.heap.size/\¬w.heap.size=w.heap.size+1:=⟨(Fa.2.2.1.fr hf KX).lt,by omega⟩;have RB:=(Fa.2.2.2.fr hf RA).cell 0;have Lf:w.heap.size+1+1 < w7.heap.size/\¬w.heap.size+1+1=w.heap.size+1:=⟨(Fa.2.2.2.fr hf RA).lt,by omega⟩;simp only[List.getElem?_toArray,List.getElem?_cons_zero]at RB;simp only[aD]at q0 q1 q2 q3;have HE:=aA (show ∀w9,w9=(((w7.setCell ⟨w.heap.size+1,0,none⟩ (.int .u8 x.k)).setCell ⟨w.heap.size+1,1,none⟩ (.slice A x.args.len c)).setCell ⟨w.heap.size+1,2,none⟩ (.slice B x.of_.len pc)).setCell ⟨w.heap.size+1,3,none⟩ (.int .i64 x.at_)->CdP C d (zec n l) w (.returned (cdV x.k A x.args.len c B x.of_.len pc x.at_)) w9 from λw9 h9=>by
      rw[hR];exact zfM HL.out Fa.1 (by omega) Fa.2.1.lt hv hp hf h9)
     clear hR hv hp hf Hh))
 all_goals
  go_wp2_with fail;exact bodyPost_ret (v:=cdV x.k A x.args.len c B x.of_.len pc x.at_) (by simp[results,Tryz.results310,go_sem,cdV,q0,q1,q2,q3,Jp]) rfl (HE _ rfl)
def ResC (rb L:Nat)(w:World)(x:Cn):Prop:=∃A c B pc,Bk w rb 179 #[.int .u8 x.k,.slice A x.args.len c,.slice B x.of_.len pc,.int .i64 x.at_]/\CdV w L (cdV x.k A x.args.len c B x.of_.len pc x.at_) x
def ParC (C:Pcx)(rb d:Nat)(r:PR Cn)(W:World)(e:Ending)(w':World):Prop:=
 match r with
 | .err c a=>e=zaf c a/\Fr (PT C rb) W w'
 | .ok x l=>e= .returned (.tuple #[])/\ResC rb W.heap.size w' x/\PaAt C w' l d/\Fr (PT C rb) W w'
theorem bk4C {w:World}{rb:Nat}{a b c d:Value}{A B D E:Value}(h:Bk w rb 179 #[a,b,c,d]):
  Bk ((((w.setCell ⟨rb,0,none⟩ A).setCell ⟨rb,1,none⟩ B).setCell ⟨rb,2,none⟩ D).setCell ⟨rb,3,none⟩ E) rb 179 #[A,B,D,E]:=by
 have:=(((h.set_ 0 A).set_ 1 B).set_ 2 D).set_ 3 E;simpa using this
def endC (s:List UInt8)(n:Nat)(l:List Tk):PR Cn:=(zec n l).then λx r=>(zal s r).then λ_ r=> .ok x r
theorem zi1 (C:Pcx)(n:Nat)(hs:NotC C n)(l:List Tk)(d pb rb:Nat)(w:World)(Ga:d+n=24)(hk:C.Ok)(h:PaAt C w l d)(Ju:Bk w pb 162 #[.pointer (some ⟨C.P,0,none⟩)])(Gh:pb≠C.P)
  (Gr:Bk w rb 179 #[.int .u8 0,.slice none 0 0,.slice none 0 0,.int .i64 0]) (LV:rb≠C.P) (Pi:rb≠C.TB) (SW:C.W0.heap.size<=rb) (Kw:pb≠rb):
  Calls Tryz.prog 317 #[.pointer (some ⟨pb,0,none⟩),.pointer (some ⟨rb,0,none⟩)] w (ParC C rb d (endC [93] n l) w):=by
 have FF:=Ju.cell 0;simp only[List.getElem?_toArray,List.getElem?_cons_zero]at FF;have HE:=aA (zia C n hs l d w Ga hk h);obtain⟨R,hR⟩:=aF (endC [93] n l);rw[<-hR];have HR:=aA hR;have L7:=aA Ju;have Mx:=aA Gr;have HK:=aA hk;have HL:=aA h.lts;clear hR Ju Gr hs h hk;go_enter Tryz.func317,Tryz.ntmps317;go_wp2_with fail;refine HE.mono ?_;intro e w7 hE;rcases hE.ways with⟨x,r,A,c,B,pc,hx,rfl,hv,hp,hf⟩|⟨c,a,hx,rfl,hf⟩;rotate_left
 ·go_wp2_with fail;exact⟨rfl,by rw[HR.out,endC,hx];exact⟨rfl,PT.l hf⟩⟩
 have F6:=Mx.lt;have Hh:=Mx.fr hf LV;have q0:=Hh.cell 0;have q1:=Hh.cell 1;have q2:=Hh.cell 2;have q3:=Hh.cell 3;have g0:=Hh.frozen 0;have g1:=Hh.frozen 1;have g2:=Hh.frozen 2;have g3:=Hh.frozen 3;have Fb:=(L7.fr hf Gh).cell 0;simp only[aD]at q0 q1 q2 q3 Fb;obtain⟨w8,G3⟩:=aF ((((w7.setCell ⟨rb,0,none⟩ (.int .u8 x.k)).setCell ⟨rb,1,none⟩ (.slice A x.args.len c)).setCell ⟨rb,2,none⟩ (.slice B x.of_.len pc)).setCell ⟨rb,3,none⟩ (.int .i64 x.at_));have GQ:Fr (λb=>b=rb) w7 w8:=by rw[G3];exact aJ (aJ (aJ (aJ aH)))
 have Ka:Bk w8 rb 179 #[.int .u8 x.k,.slice A x.args.len c,.slice B x.of_.len pc,.int .i64 x.at_]:=by rw[G3];exact bk4C Hh
 have Qj:CdV w8 w.heap.size (cdV x.k A x.args.len c B x.of_.len pc x.at_) x:=CdV.fr hv GQ λb h1 h2 e=>by
  have e:b=rb:=e;omega
 have N3:PaAt C w8 r d:=hp.fr GQ (λe=>LV (by have e:C.P=rb:=e;exact e.symm)) (λe=>Pi (by have e:C.TB=rb:=e;exact e.symm)) (λi hi e=>by have e:i=rb:=e;omega);have Qk:Fr (PT C rb) w w8:=(PT.l hf).trans (GQ.mono λi _ h=>Or.inr h);have Ql:w8.cell? ⟨pb,0,none⟩=some (.pointer (some ⟨C.P,0,none⟩)):=(GQ.cell (p:=⟨pb,0,none⟩) (L7.fr hf Gh).lt Kw).trans Fb;have MJ:=N3.alloc (.cells #[.string ⟨#[93]⟩] 9);have HX:=aA hx;have F4:=aA Ka;have HV:=aA Qj;have HF:=aA Qk;have HP:=aA MJ;have HW:=aA G3;have hz:w8.heap.size=w7.heap.size:=by rw[G3];simp
 rw[G3]at Ql;cases hm:mayB [93] r
 ·have ht:=zd6 C [93] r d w8.heap.size _ MJ hm (by simp);unfold ErrP zaf pP at ht;rw[G3]at ht;simp only[World.size_setCell]at ht;have HT:=aA ht;clear hx Ka Qj N3 Qk MJ hv hp hf GQ Hh G3 ht hz;go_wp2_with fail;refine HT.mono ?_;rintro _ w10 ⟨rfl,Gm⟩;go_wp2_with fail;refine⟨rfl,?_⟩;rw[HR.out,endC,HX.out];simp only[PR.then,zal,hm];refine⟨rfl,?_⟩;rw[<-HW.out]at Gm;exact(HF.alloc _).trans (PT.l Gm)
 ·have ht:=zch C [93] r d w8.heap.size _ HK.out MJ (by decide) hm (by simp);unfold zhk pP at ht;rw[G3]at ht;simp only[World.size_setCell]at ht;have HT:=aA ht;clear hx Ka Qj N3 Qk MJ hv hp hf GQ Hh G3 ht hz;go_wp2_with fail;refine HT.mono ?_;rintro _ w10 ⟨rfl,Hj,Gm⟩;have FN:=aA Hj;rw[<-HW.out]at Gm;have G4:=aA Gm;clear Hj Gm;go_wp2_with fail;go_end0;rw[HR.out,endC,HX.out];simp only[PR.then,zal,hm];have Qm:Fr C.T w8 w10:=((Fr.refl C.T w8).alloc _).trans G4.out;exact⟨rfl,⟨A,c,B,pc,F4.fr Qm LV,HV.fr Qm λb h1 h2 e=>by have e:b=C.P:=e;have:=HL.1;omega⟩,FN.out,HF.trans (PT.l Qm)⟩
theorem ResC.fr {C:Pcx}{rb L:Nat}{w w':World}{x:Cn}(h:ResC rb L w x)(hf:Fr C.T w w')(h1:rb≠C.P)(h2:C.P < L):ResC rb L w' x:=by
 obtain⟨A,c,B,pc,hb,hv⟩:=h;exact⟨A,c,B,pc,hb.fr hf h1,hv.fr hf λb h3 _ e=>by have e:b=C.P:=e;omega⟩
theorem ResC.low {rb L L':Nat}{w:World}{x:Cn}(h:ResC rb L w x)(hl:L'<=L):ResC rb L' w x:=by
 obtain⟨A,c,B,pc,hb,hv⟩:=h;exact⟨A,c,B,pc,hb,hv.low hl⟩
def notB (n:Nat)(a:Int)(l:List Tk):PR Cn:=(notP n l).then λx r=> .ok ⟨9,.nil,x.cons .nil,a⟩ r
theorem zoF {C:Pcx}{w w7:World}{rb d:Nat}{at_:Int}{x:Cn}{r:List Tk}{A B:Option Addr}{c pc:Nat}{q0 q1 q2 q3:Value}(hL:C.P < w.heap.size/\C.TB < w.heap.size/\C.W0.heap.size<=w.heap.size)(Hg:in64 at_)
  (LV:rb≠C.P) (Pi:rb≠C.TB) (SW:C.W0.heap.size<=rb) (hb:Bk w7 rb 179 #[q0,q1,q2,q3]) (hv:CdV w7 w.drew.heap.size (cdV x.k A x.args.len c B x.of_.len pc x.at_) x) (hp:PaAt C w7 r d) (hf:Fr C.T w w7) (w9:World)
  (h9:w9=(((((w7.setCell ⟨rb,0,none⟩ (.int .u8 9)).setCell ⟨rb,1,none⟩ (.slice none 0 0)).setCell ⟨rb,2,none⟩ (.slice (some ⟨w7.heap.size,0,none⟩) 1 1)).setCell ⟨rb,3,none⟩ (.int .i64 at_)).alloc (.cells #[.int .u8 x.k,.slice A x.args.len c,.slice B x.of_.len pc,.int .i64 x.at_] 179)))
  (qJ:rb < w.heap.size):
  ParC C rb d ((PR.ok x r).then λx r=>PR.ok ⟨9,.nil,x.cons .nil,at_⟩ r) w (.returned (.tuple #[])) w9:=by
 obtain⟨w8,G3⟩:=aF (((((w7.setCell ⟨rb,0,none⟩ (.int .u8 9)).setCell ⟨rb,1,none⟩ (.slice none 0 0)).setCell ⟨rb,2,none⟩ (.slice (some ⟨w7.heap.size,0,none⟩) 1 1)).setCell ⟨rb,3,none⟩ (.int .i64 at_)));rw[<-G3]at h9;have GQ:Fr (λb=>b=rb) w7 w8:=by rw[G3];exact aJ (aJ (aJ (aJ aH)))
 have Ka:Bk w8 rb 179 #[.int .u8 9,.slice none 0 0,.slice (some ⟨w7.heap.size,0,none⟩) 1 1,.int .i64 at_]:=by rw[G3];exact bk4C hb
 have hz:w8.heap.size=w7.heap.size:=by rw[G3];simp
 have Gl:Fr (λb=>b=rb) w7 w9:=by rw[h9];exact GQ.alloc _
 have N1:=hf.size;have PP:w9.heap.size=w7.heap.size+1:=by rw[h9];simp[hz]
 obtain⟨x1,x3,Ax,cx,Bx,qx,ex,JJ,VW⟩:=hv;simp only[cdV,Value.agg.injEq,Array.mk.injEq,List.cons.injEq,Value.slice.injEq,true_and,and_true]at ex;obtain⟨⟨rfl,rfl⟩,rfl,rfl⟩:=ex;have hX:∀b,New w.drew.heap.size w7 b->(b < w7.heap.size/\¬b=rb)/\New w.heap.size w9 b:=λb hb=>by
  have h1:w.heap.size<=b:=hb.1;have h2:b < w7.heap.size:=hb.2;exact⟨⟨h2,by omega⟩,h1,by omega⟩
 refine⟨rfl,⟨none,0,some ⟨w7.heap.size,0,none⟩,1,by rw[h9];exact Ka.alloc _,by show in8 9;unfold in8;omega,Hg,none,0,some ⟨w7.heap.size,0,none⟩,1,rfl,⟨aL 0,sl0,λh=>absurd h (by exact Nat.lt_irrefl 0)⟩,aL 1,sl1,λ_=>⟨w7.heap.size,0,rfl,?_⟩⟩,?_,?_⟩
 ·refine zkf (by rw[h9];exact Bk.new_at _ _ _ hz) ⟨N1,by omega⟩ ⟨x1,x3⟩ (JJ.imp λ_ _ h=>?_) (VW.imp λ_ _ h=>?_)
  ·exact ExR.more (λb hb=>(hX b hb).2) (ExR.keep (Gl.same λb hb=>(hX b hb).1) h)
  ·exact CdR.more (λb hb=>(hX b hb).2) (CdR.keep (Gl.same λb hb=>(hX b hb).1) h)
 ·exact hp.fr Gl (λe=>LV (by have e:C.P=rb:=e;exact e.symm)) (λe=>Pi (by have e:C.TB=rb:=e;exact e.symm)) (λi hi e=>by have e:i=rb:=e;omega)
 ·exact(PT.l hf).trans (Gl.mono λi _ h=>Or.inr h)
theorem zmD (C:Pcx)(n:Nat)(hs:NotC C n)(l:List Tk)(d pb ab rb:Nat)(at_:Int)(w:World)(Hg:in64 at_)(Ga:d+n=24)(hk:C.Ok)(h:PaAt C w l d)(Ju:Bk w pb 162 #[.pointer (some ⟨C.P,0,none⟩)])(Gh:pb≠C.P)
  (RN:Bk w ab 3 #[.int .i64 at_]) (TD:ab≠C.P) (TE:ab≠rb)
  (Gr:Bk w rb 179 #[.int .u8 0,.slice none 0 0,.slice none 0 0,.int .i64 0]) (LV:rb≠C.P) (Pi:rb≠C.TB) (SW:C.W0.heap.size<=rb) (Kw:pb≠rb):
  Calls Tryz.prog 316 #[.pointer (some ⟨pb,0,none⟩),.pointer (some ⟨ab,0,none⟩),.pointer (some ⟨rb,0,none⟩)] w (ParC C rb d (notB n at_ l) w):=by
 have FF:=Ju.cell 0;have Qn:=RN.cell 0;simp only[List.getElem?_toArray,List.getElem?_cons_zero]at FF Qn;have Gt:=Ju.lt;have Lh:=RN.lt;have F6:=Gr.lt;have HE:=aA (hs l d w.drew Ga (h.fr (T:=NoT) (Fr.drew aH) id id λ_ _=>id));obtain⟨R,hR⟩:=aF (notB n at_ l);rw[<-hR];have HR:=aA hR;have L7:=aA Ju;have TF:=aA RN;have Mx:=aA Gr;have HK:=aA hk;have HL:=aA h.lts;have KX:pb≠C.P:=Gh;have YW:ab≠C.P:=TD;clear hR Ju RN Gr hs h hk;go_enter Tryz.func316,Tryz.ntmps316;go_wp2_with fail
 go_region_held2 (λW'=>W'.cell? ⟨pb,0,none⟩=some (.pointer (some ⟨C.P,0,none⟩))/\W'.cell? ⟨ab,0,none⟩=some (.int .i64 at_))
  (first
   |(refine⟨?_,?_⟩<;>with_reducible assumption)
   |(with_reducible refine⟨(Fr.cell (T:=λb=>b=rb) (w:=w7) (Fr.alloc (aJ (aJ (aJ (aJ aH)))) _) Fc Kw).trans Fb,(Fr.cell (T:=λb=>b=rb) (w:=w7) (Fr.alloc (aJ (aJ (aJ (aJ aH)))) _) Mj TE).trans N4⟩)
   |(with_reducible refine⟨(Fr.cell (T:=NoT) (w:=w7) (Fr.alloc aH _) Fc id).trans Fb,(Fr.cell (T:=NoT) (w:=w7) (Fr.alloc aH _) Mj id).trans N4⟩)
   |(with_reducible refine⟨(Fr.cell (T:=NoT) (w:=w) (Fr.drew aH) Gt id).trans FF,(Fr.cell (T:=NoT) (w:=w) (Fr.drew aH) Lh id).trans Qn⟩))
  (first
   |(go_at_call 315
     with_reducible refine HE.out.mono ?_
     intro e w7 hE;rcases hE.ways with⟨x,r,A,c,B,pc,hx,rfl,hv,hp,hf⟩|⟨c,a,hx,rfl,hf⟩;rotate_left
     ·exact⟨rfl,by rw[HR.out,notB,hx];exact⟨rfl,PT.l ((Fr.drew (Fr.refl C.T w)).trans hf)⟩⟩
     have Fl:=(Fr.drew (Fr.refl C.T w)).trans hf;have Hh:=Mx.fr Fl LV;have q0:=Hh.cell 0;have q1:=Hh.cell 1;have q2:=Hh.cell 2;have q3:=Hh.cell 3;have g0:=Hh.frozen 0;have g1:=Hh.frozen 1;have g2:=Hh.frozen 2;have g3:=Hh.frozen 3;have JK:=L7.fr Fl KX;have Kc:=TF.fr Fl YW;have Fb:=JK.cell 0;have N4:=Kc.cell 0;have Fc:=JK.lt;have Mj:=Kc.lt;have RO:=Hh.lt;simp only[aD]at q0 q1 q2 q3 Fb N4;have HX:=aA hx;have HV:=aA hv;have HP:=aA hp;have HF:=aA Fl;have HB:=aA Hh;clear hx hv hp hf Fl Hh JK Kc))
 all_goals
  go_wp2_with fail;go_end0;rw[HR.out,notB,HX.out];exact zoF HL.out Hg LV Pi SW HB.out HV.out HP.out HF.out _ rfl F6
