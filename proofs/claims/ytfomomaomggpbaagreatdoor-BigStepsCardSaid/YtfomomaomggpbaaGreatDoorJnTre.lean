/- parse: a tree's lists, in rows. -/
import Derived.Test.YtfomomaomggpbaaGreatDoorJnPr
set_option linter.all false
namespace Go.Proofs.YtfomomaomggpbaaGreatDoor
open Go.RowKit Go.Shelf
theorem zkq (xs:List Va):(xs.flatMap cCVa).length =xs.length*2:=by
 induction xs with
 |nil=>rfl
 |cons a r ih=>rw[List.flatMap_cons,List.length_append,ih];simp[cCVa];omega
theorem zkr (xs:List Arr):(xs.flatMap cCAr).length =xs.length*3:=by
 induction xs with
 |nil=>rfl
 |cons a r ih=>rw[List.flatMap_cons,List.length_append,ih];simp[cCAr];omega
theorem VaR.cells {w:World}{S:Nat->Prop}{Z:Prop}:∀ {xs:List Va} {b o:Nat},VaR w S Z xs b o->(∀x∈xs,zeh x)/\∀j u,(xs.flatMap cCVa)[j]?=some u->w.cell? ⟨b,o+j,none⟩=some u
 | [],_,_,_=>⟨λ_ h=>by simp at h,λj u h=>by simp at h⟩
 |x::r,b,o,h=>by
  obtain⟨⟨_,_,h1,h2,h3⟩,hr⟩:=h;have ih:=VaR.cells hr;refine⟨λy hy=>?_,λj u hj=>?_⟩
  ·rcases List.mem_cons.1 hy with rfl|hy
   ·exact h1
   ·exact ih.1 y hy
  ·rw[List.flatMap_cons]at hj
   match j,hj with
   |0,hj=>simp[cCVa]at hj;subst hj;exact h2
   |1,hj=>simp[cCVa]at hj;subst hj;exact h3
   |j+2,hj=>
    have:=ih.2 j u (by simpa[cCVa]using hj);rw[show o+(j+2)=o+2+j from by omega];exact this
theorem ArR.cells {w:World}{S:Nat->Prop}{Z:Prop}:∀ {xs:List Arr} {b o:Nat},ArR w S Z xs b o->(∀x∈xs,zev x)/\∀j u,(xs.flatMap cCAr)[j]?=some u->w.cell? ⟨b,o+j,none⟩=some u
 | [],_,_,_=>⟨λ_ h=>by simp at h,λj u h=>by simp at h⟩
 |x::r,b,o,h=>by
  obtain⟨⟨_,_,h0,h1,h2,h3,h4⟩,hr⟩:=h;have ih:=ArR.cells hr;refine⟨λy hy=>?_,λj u hj=>?_⟩
  ·rcases List.mem_cons.1 hy with rfl|hy
   ·exact⟨h0,h1⟩
   ·exact ih.1 y hy
  ·rw[List.flatMap_cons]at hj
   match j,hj with
   |0,hj=>simp[cCAr]at hj;subst hj;exact h2
   |1,hj=>simp[cCAr]at hj;subst hj;exact h3
   |2,hj=>simp[cCAr]at hj;subst hj;exact h4
   |j+3,hj=>
    have:=ih.2 j u (by simpa[cCAr]using hj);rw[show o+(j+3)=o+3+j from by omega];exact this
theorem zks (xs:List Va):∀u∈xs.flatMap cCVa,u.oneCell'=true:=λu hu=>by
 obtain⟨x,_,hx⟩:=List.mem_flatMap.1 hu;simp only[cCVa,List.mem_cons,List.not_mem_nil,or_false]at hx;rcases hx with rfl|rfl<;>rfl
theorem zkt (xs:List Arr):∀u∈xs.flatMap cCAr,u.oneCell'=true:=λu hu=>by
 obtain⟨x,_,hx⟩:=List.mem_flatMap.1 hu;simp only[cCAr,List.mem_cons,List.not_mem_nil,or_false]at hx;rcases hx with rfl|rfl|rfl<;>rfl
theorem zgr {α:Type}{one:List Tk->PR α}{s:List UInt8}:∀(f:Nat) {acc:List α} {l:List Tk} {xs:List α} {r:List Tk},0 < f->zaF one s f acc l= .ok xs r->0 < xs.length
 |f+1,acc,l,xs,r,_,h=>by
  unfold zaF at h;obtain⟨x,q,h1,h2⟩:=PR.then_ok h;split at h2
  ·cases f with
   |zero=>
    unfold zaF at h2;simp only[PR.ok.injEq]at h2;rw[<-h2.1];simp
   |succ f=>exact zgr (f+1) (by omega) h2
  ·obtain⟨u,q2,h3,h4⟩:=PR.then_ok h2;simp only[PR.ok.injEq]at h4;rw[<-h4.1];simp
theorem zgs {α:Type}{one:List Tk->PR α}{s:List UInt8}{l:List Tk}{xs:List α}{r:List Tk}(hl:l≠ [])(h:zaR one s false l= .ok xs r):0 < xs.length:=by
 unfold zaR at h;simp only[Bool.false_and]at h;exact zgr _ (List.length_pos_iff.2 hl) h
theorem zgt {α:Type}{one:List Tk->PR α}(hs:Shr one){s:List UInt8}:∀(f:Nat) {acc:List α} {l:List Tk} {xs:List α} {r:List Tk},zaF one s f acc l= .ok xs r->xs.length+r.length<=acc.length+l.length+1
 |0,acc,l,xs,r,h=>by
  unfold zaF at h;simp only[PR.ok.injEq]at h;rw[<-h.1,<-h.2];omega
 |f+1,acc,l,xs,r,h=>by
  unfold zaF at h;obtain⟨x,q,h1,h2⟩:=PR.then_ok h;have hq:=hs _ _ _ h1;split at h2
  ·rename_i hm;have hp:=zcU (zaq hm (by decide));have:=zgt hs f h2;rw[List.length_append,List.length_tail]at this;simp at this;omega
  ·obtain⟨u,q2,h3,h4⟩:=PR.then_ok h2;simp only[PR.ok.injEq]at h4;have:=zbA h3;rw[<-h4.1,<-h4.2,this,List.length_tail];simp;omega
theorem ze2 {α:Type}{one:List Tk->PR α}(hs:Shr one){s:List UInt8}{l:List Tk}{xs:List α}{r:List Tk}(h:zaR one s false l= .ok xs r):xs.length+r.length<=l.length+1:=by
 unfold zaR at h;simp only[Bool.false_and]at h;have:=zgt hs _ h;simpa using this
def pcC (x:Prc)(A:Option Addr)(c:Nat)(D:Option Addr)(e:Nat):List Value:= [.string x.nm,.slice A x.params.length c,.slice D x.body.len e,.int .i64 x.at_]
def PcRow (w:World)(S:Nat->Prop):List Prc->List Value->Prop
 | [],cs=>cs= []
 |x::xs,cs=>∃A c D e yf,cs=pcC x A c D e++yf/\in64 x.at_/\SlR (VaR w S False x.params) x.params.length 24 A c/\SlR (StR w S False x.body) x.body.len 128 D e/\PcRow w S xs yf
theorem PcRow.imp {w w':World}{S S':Nat->Prop}(hf:SameS S w w')(hs:∀b,S b->S' b):∀ {xs:List Prc} {cs:List Value},PcRow w S xs cs->PcRow w' S' xs cs
 | [],_,h=>h
 |x::xs,cs,h=>by
  obtain⟨A,c,D,e,yf,h0,h1,h2,h3,h5⟩:=h;exact⟨A,c,D,e,yf,h0,h1,h2.imp λ_ _ h=>VaR.more hs (VaR.keep hf h),h3.imp λ_ _ h=>StR.more hs (StR.keep hf h),PcRow.imp hf hs h5⟩
theorem PcRow.snoc {w:World}{S:Nat->Prop}{y:Prc}{A:Option Addr}{c:Nat}{D:Option Addr}{e:Nat}(hy:in64 y.at_/\SlR (VaR w S False y.params) y.params.length 24 A c/\SlR (StR w S False y.body) y.body.len 128 D e):∀ {xs:List Prc} {cs:List Value},PcRow w S xs cs->PcRow w S (xs++ [y]) (cs++pcC y A c D e)
 | [],cs,h=>by
  have h:cs= []:=h;subst h;exact⟨A,c,D,e, [],by simp,hy.1,hy.2.1,hy.2.2,rfl⟩
 |x::xs,cs,h=>by
  obtain⟨A',c',D',e',yf,h0,h1,h2,h3,h5⟩:=h;exact⟨A',c',D',e',yf++pcC y A c D e,by rw[h0,List.append_assoc],h1,h2,h3,PcRow.snoc hy h5⟩
theorem PcRow.prR {w:World}{S:Nat->Prop}{g:Nat}(hg:S g):∀ {xs:List Prc} {cs:List Value} {o:Nat},PcRow w S xs cs->(∀j u,cs[j]?=some u->w.cell? ⟨g,o+j,none⟩=some u)->PrR w S False xs g o
 | [],_,_,_,_=>trivial
 |x::xs,cs,o,h,hc=>by
  obtain⟨A,c,D,e,yf,h0,h1,h2,h3,h5⟩:=h;subst h0;refine⟨⟨hg,λh=>absurd h id,h1,hc 0 _ rfl,hc 3 _ rfl⟩,⟨_,_,hc 1 _ rfl,h2⟩,⟨_,_,hc 2 _ rfl,h3⟩,?_⟩;refine PcRow.prR hg h5 λj u hj=>?_;have:=hc (4+j) u (by rw[List.getElem?_append_right (by simp[pcC])];simpa[pcC]using hj);rw[Nat.add_assoc];exact this
def zfy (vx:List Va×List Arr)(r:List Tk):PR Tre:=
 (zdp r.length [] r).then λps r=>(zal [109,97,105,110] r).then λ_ r=>(zag 24 r).then λb r=>if 1 < r.length then .err 90 (hdT r).at_ else .ok ⟨vx.1,vx.2,ps,zam b⟩ r
theorem znL (l:List Tk):ziE l=(zew l.length [] [] l).then zfy:=rfl
structure TrX (C:Pcx)(w:World)(R:PR Tre)(vs:List Va)(xs:List Arr)(vV vA:Value)(l:List Tk)(W:World):Prop where
 eq:∃f,R=(zew f vs xs l).then zfy/\l.length<=f
 box:Bk W w.heap.size 27 #[vV,vA,.slice none 0 0,.slice none 0 0]
 rowV:W.ownsRow (w.heap.size+1) 77 2 vV vs.length (vs.flatMap cCVa)
 rowA:W.ownsRow (w.heap.size+1) 61 3 vA xs.length (xs.flatMap cCAr)
 okV:∀x∈vs,zeh x
 okA:∀x∈xs,zev x
 apart:∀b,vV.ownBlock=some b->vA.ownBlock=some b->False
 few:vs.length+xs.length+l.length<=5000
 pa:PaAt C W l 0
 fr:Fr (PT C w.heap.size) w W
theorem TrX.next {C:Pcx}{w wr w2:World}{R:PR Tre}{vs:List Va}{xs:List Arr}{vV vA:Value}{l:List Tk}(hL:C.P < w.heap.size/\C.TB < w.heap.size/\C.W0.heap.size<=w.heap.size)(hx:TrX C w R vs xs vV vA l wr)(hf:Fr C.T wr w2)(hp:PaAt C w2 l 0):TrX C w R vs xs vV vA l w2:=
 ⟨hx.eq,hx.box.fr hf λe=>by have e:w.heap.size=C.P:=e;omega,zah hx.rowV hf (by omega),zah hx.rowA hf (by omega),hx.okV,hx.okA,hx.apart,hx.few,hp,hx.fr.trans (PT.l hf)⟩
theorem TrX.stepV {C:Pcx}{w wr w7 w9:World}{R:PR Tre}{vs:List Va}{xs:List Arr}{vV vA:Value}{l r:List Tk}{ps:List Va}{A:Option Addr}{q g cap f:Nat}
  (hL:C.P < w.heap.size/\C.TB < w.heap.size/\C.W0.heap.size<=w.heap.size) (hx:TrX C w R vs xs vV vA l wr)
  (hR:R=(zew f (vs++ps) xs r).then zfy) (Rz:r.length<=f) (P5:ps.length+r.length<=l.length)
  (Fh:∀x∈ps,zeh x) (hp:PaAt C w7 r 0) (hf:Fr C.T wr w7)
  (Hb:w9.ownsRow (w.heap.size+1) 77 2 (.slice (some ⟨g,0,none⟩) (vs.length+ps.length) cap) (vs.length+ps.length) (vs.flatMap cCVa++ps.flatMap cCVa))
  (hg:w7.grownBy w9 vV.ownBlock) (GG:vV.ownBlock=some g\/g=w7.heap.size) (w10:World)
  (Gv:w10=w9.setCell ⟨w.heap.size,0,none⟩ (.slice (some ⟨g,0,none⟩) (vs.length+ps.length) cap)):
  TrX C w R (vs++ps) xs (.slice (some ⟨g,0,none⟩) (vs.length+ps.length) cap) vA r w10:=by
 have Nu:=hx.rowV.lt;have Nv:=hx.rowA.lt;have Ll:=hx.box.lt;have Rv:=hf.size;have LJ:=hg.size;have KL:=Hb.lt g rfl;have hz:w10.heap.size=w9.heap.size:=by rw[Gv];simp
 have K2:Fr (λb=>vV.ownBlock=some b) w7 w9:=Fr.grown hg λg e _=>e;have VN:Fr (λb=>b=w.heap.size) w9 w10:=by rw[Gv];exact Fr.own (Fr.refl _ _) _ _
 have Pc:Fr (λb=>b=C.P\/vV.ownBlock=some b\/b=w.heap.size) wr w10:=((hf.mono λi _ h=>Or.inl h).trans (K2.mono λi _ h=>Or.inr (Or.inl h))).trans (VN.mono λi _ h=>Or.inr (Or.inr h));have Gc:vA.ownBlock=none\/vA.ownBlock≠some g:=by
  rcases Option.eq_none_or_eq_some vA.ownBlock with h|⟨b,h⟩
  ·exact .inl h
  ·refine .inr λe=>?_;rw[h]at e;have e:b=g:=Option.some.inj e;subst e;rcases GG with h2|h2
   ·exact hx.apart b h2 h
   ·have:=(Nv b h).2;omega
 have NZ:Bk w9 w.heap.size 27 #[vV,vA,.slice none 0 0,.slice none 0 0]:=(hx.box.fr hf λe=>by have e:w.heap.size=C.P:=e;omega).fr K2 λe=>by have:=(Nu _ e).1;omega
 have Qs:w10.ownsRow (w.heap.size+1) 61 3 vA xs.length (xs.flatMap cCAr):=by
  have h1:=zah hx.rowA hf (by omega);have h2:=h1.kept hg (by
   rcases Option.eq_none_or_eq_some vA.ownBlock with h|⟨b,h⟩
   ·exact .inl h
   ·refine .inr λe=>?_;rw[h]at e;exact hx.apart b e.symm h)
  rw[Gv];exact ownsRow_setCell_below h2 (by show w.heap.size < w.heap.size+1;omega) _
 have Hz:w10.ownsRow (w.heap.size+1) 77 2 (.slice (some ⟨g,0,none⟩) (vs.length+ps.length) cap) (vs++ps).length ((vs++ps).flatMap cCVa):=by
  rw[List.length_append,List.flatMap_append,Gv];exact ownsRow_setCell_below Hb (by show w.heap.size < w.heap.size+1;omega) _
 refine⟨⟨f,hR,Rz⟩,?_,Hz,Qs,?_,?_,?_,?_,?_,?_⟩
 ·rw[Gv];have:=NZ.set_ 0 (.slice (some ⟨g,0,none⟩) (vs.length+ps.length) cap);simpa using this
 ·exact λy hy=>(List.mem_append.1 hy).elim (hx.okV y) (Fh y)
 ·exact hx.okA
 ·intro b e1 e2;have e1:g=b:=by simpa[Value.ownBlock]using e1
  rcases Gc with h|h
  ·rw[h]at e2;cases e2
  ·exact h (by rw[e1];exact e2)
 ·have:=hx.few;simp only[List.length_append];omega
 ·exact hp.fr ((K2.mono (T':=λb=>vV.ownBlock=some b\/b=w.heap.size) λi _ h=>Or.inl h).trans (VN.mono λi _ h=>Or.inr h)) (λe=>by rcases e with e|e;(have:=(Nu _ e).1;omega);omega) (λe=>by rcases e with e|e;(have:=(Nu _ e).1;omega);omega) (λi hi e=>by rcases e with e|e;(have:=(Nu _ e).1;omega);omega)
 ·refine((hx.fr.mono (T':=λb=>b=C.P\/vV.ownBlock=some b\/b=w.heap.size) λi _ h=>?_).trans Pc).mono λi hi e=>?_
  ·rcases h with h|h
   ·exact .inl h
   ·exact .inr (.inr h)
  ·rcases e with e|e|e
   ·exact .inl e
   ·have:=(Nu _ e).1;omega
   ·exact .inr e
theorem TrX.stepA {C:Pcx}{w wr w7 w9:World}{R:PR Tre}{vs:List Va}{xs:List Arr}{vV vA:Value}{l r:List Tk}{ps:List Arr}{A:Option Addr}{q g cap f:Nat}
  (hL:C.P < w.heap.size/\C.TB < w.heap.size/\C.W0.heap.size<=w.heap.size) (hx:TrX C w R vs xs vV vA l wr)
  (hR:R=(zew f vs (xs++ps) r).then zfy) (Rz:r.length<=f) (P5:ps.length+r.length<=l.length)
  (Fh:∀x∈ps,zev x) (hp:PaAt C w7 r 0) (hf:Fr C.T wr w7)
  (Hb:w9.ownsRow (w.heap.size+1) 61 3 (.slice (some ⟨g,0,none⟩) (xs.length+ps.length) cap) (xs.length+ps.length) (xs.flatMap cCAr++ps.flatMap cCAr))
  (hg:w7.grownBy w9 vA.ownBlock) (GG:vA.ownBlock=some g\/g=w7.heap.size) (w10:World)
  (Gv:w10=w9.setCell ⟨w.heap.size,1,none⟩ (.slice (some ⟨g,0,none⟩) (xs.length+ps.length) cap)):
  TrX C w R vs (xs++ps) vV (.slice (some ⟨g,0,none⟩) (xs.length+ps.length) cap) r w10:=by
 have Nu:=hx.rowV.lt;have Nv:=hx.rowA.lt;have Ll:=hx.box.lt;have Rv:=hf.size;have LJ:=hg.size;have KL:=Hb.lt g rfl;have hz:w10.heap.size=w9.heap.size:=by rw[Gv];simp
 have K2:Fr (λb=>vA.ownBlock=some b) w7 w9:=Fr.grown hg λg e _=>e;have VN:Fr (λb=>b=w.heap.size) w9 w10:=by rw[Gv];exact Fr.own (Fr.refl _ _) _ _
 have Pc:Fr (λb=>b=C.P\/vA.ownBlock=some b\/b=w.heap.size) wr w10:=((hf.mono λi _ h=>Or.inl h).trans (K2.mono λi _ h=>Or.inr (Or.inl h))).trans (VN.mono λi _ h=>Or.inr (Or.inr h));have Gc:vV.ownBlock=none\/vV.ownBlock≠some g:=by
  rcases Option.eq_none_or_eq_some vV.ownBlock with h|⟨b,h⟩
  ·exact .inl h
  ·refine .inr λe=>?_;rw[h]at e;have e:b=g:=Option.some.inj e;subst e;rcases GG with h2|h2
   ·exact hx.apart b h h2
   ·have:=(Nu b h).2;omega
 have NZ:Bk w9 w.heap.size 27 #[vV,vA,.slice none 0 0,.slice none 0 0]:=(hx.box.fr hf λe=>by have e:w.heap.size=C.P:=e;omega).fr K2 λe=>by have:=(Nv _ e).1;omega
 have Qs:w10.ownsRow (w.heap.size+1) 77 2 vV vs.length (vs.flatMap cCVa):=by
  have h1:=zah hx.rowV hf (by omega);have h2:=h1.kept hg (by
   rcases Option.eq_none_or_eq_some vV.ownBlock with h|⟨b,h⟩
   ·exact .inl h
   ·refine .inr λe=>?_;rw[h]at e;exact hx.apart b h e.symm)
  rw[Gv];exact ownsRow_setCell_below h2 (by show w.heap.size < w.heap.size+1;omega) _
 have Hz:w10.ownsRow (w.heap.size+1) 61 3 (.slice (some ⟨g,0,none⟩) (xs.length+ps.length) cap) (xs++ps).length ((xs++ps).flatMap cCAr):=by
  rw[List.length_append,List.flatMap_append,Gv];exact ownsRow_setCell_below Hb (by show w.heap.size < w.heap.size+1;omega) _
 refine⟨⟨f,hR,Rz⟩,?_,Qs,Hz,?_,?_,?_,?_,?_,?_⟩
 ·rw[Gv];have:=NZ.set_ 1 (.slice (some ⟨g,0,none⟩) (xs.length+ps.length) cap);simpa using this
 ·exact hx.okV
 ·exact λy hy=>(List.mem_append.1 hy).elim (hx.okA y) (Fh y)
 ·intro b e1 e2;have e2:g=b:=by simpa[Value.ownBlock]using e2
  rcases Gc with h|h
  ·rw[h]at e1;cases e1
  ·exact h (by rw[e2];exact e1)
 ·have:=hx.few;simp only[List.length_append];omega
 ·exact hp.fr ((K2.mono (T':=λb=>vA.ownBlock=some b\/b=w.heap.size) λi _ h=>Or.inl h).trans (VN.mono λi _ h=>Or.inr h)) (λe=>by rcases e with e|e;(have:=(Nv _ e).1;omega);omega) (λe=>by rcases e with e|e;(have:=(Nv _ e).1;omega);omega) (λi hi e=>by rcases e with e|e;(have:=(Nv _ e).1;omega);omega)
 ·refine((hx.fr.mono (T':=λb=>b=C.P\/vA.ownBlock=some b\/b=w.heap.size) λi _ h=>?_).trans Pc).mono λi hi e=>?_
  ·rcases h with h|h
   ·exact .inl h
   ·exact .inr (.inr h)
  ·rcases e with e|e|e
   ·exact .inl e
   ·have:=(Nv _ e).1;omega
   ·exact .inr e
def zg2 (vx:List Va×List Arr)(ps:List Prc)(r:List Tk):PR Tre:=
 (zal [109,97,105,110] r).then λ_ r=>(zag 24 r).then λb r=>if 1 < r.length then .err 90 (hdT r).at_ else .ok ⟨vx.1,vx.2,ps,zam b⟩ r
theorem znM (vx:List Va×List Arr)(r:List Tk):zfy vx r=(zdp r.length [] r).then (zg2 vx):=rfl
theorem PcRow.len {w:World}{S:Nat->Prop}:∀ {xs:List Prc} {cs:List Value},PcRow w S xs cs->cs.length=xs.length*4
 | [],cs,h=>by
  have h:cs= []:=h;subst h;rfl
 |x::xs,cs,h=>by
  obtain⟨A,c,D,e,yf,h0,h1,h2,h3,h5⟩:=h;rw[h0,List.length_append,PcRow.len h5];simp[pcC];omega
structure TrY (C:Pcx)(w:World)(R:PR Tre)(vx:List Va×List Arr)(Av:Option Addr)(cv:Nat)(Aa:Option Addr)(ca:Nat)(vP:Value)(ps:List Prc)(cs:List Value)(l:List Tk)(W:World):Prop where
 eq:∃f,R=(zdp f ps l).then (zg2 vx)/\l.length<=f
 box:Bk W w.heap.size 27 #[.slice Av vx.1.length cv,.slice Aa vx.2.length ca,vP,.slice none 0 0]
 vars:SlR (VaR W (NewR (w.heap.size+1) vP W) False vx.1) vx.1.length 24 Av cv
 arrs:SlR (ArR W (NewR (w.heap.size+1) vP W) False vx.2) vx.2.length 32 Aa ca
 row:W.ownsRow (w.heap.size+1) 63 4 vP ps.length cs
 rows:PcRow W (NewR (w.heap.size+1) vP W) ps cs
 few:ps.length+l.length<=5000
 pa:PaAt C W l 0
 fr:Fr (PT C w.heap.size) w W
theorem TrY.start {C:Pcx}{w W:World}{R:PR Tre}{vs:List Va}{xs:List Arr}{vV vA:Value}{l:List Tk}(hx:TrX C w R vs xs vV vA l W)(hR:R=zfy (vs,xs) l):
  ∃Av cv Aa ca,vV= .slice Av vs.length cv/\vA= .slice Aa xs.length ca/\TrY C w R (vs,xs) Av cv Aa ca (.slice none 0 0) [] [] l W:=by
 have G6:=hx.few;obtain⟨Av,cv,hv,Xf⟩:=zdd hx.rowV hx.okV (by omega);obtain⟨Aa,ca,ha,qd⟩:=zde hx.rowA hx.okA (by omega);have VO:=hx.box;rw[hv,ha]at VO;have hS:∀b,New (w.heap.size+1) W b->NewR (w.heap.size+1) (.slice none 0 0) W b:=λb hb=>⟨hb.1,hb.2,by simp[Value.ownBlock]⟩;rw[znM]at hR;exact⟨Av,cv,Aa,ca,hv,ha,⟨_,hR,lrq _⟩,VO,Xf.imp λ_ _ h=>VaR.more hS h,qd.imp λ_ _ h=>ArR.more hS h,World.ownsRow_nil _ _ _ _,rfl,by simpa using (by omega:l.length<=5000),hx.pa,hx.fr⟩
theorem TrY.next {C:Pcx}{w wr w2:World}{R:PR Tre}{vx:List Va×List Arr}{Av Aa:Option Addr}{cv ca:Nat}{vP:Value}{ps:List Prc}{cs:List Value}{l:List Tk}(hL:C.P < w.heap.size/\C.TB < w.heap.size/\C.W0.heap.size<=w.heap.size)(hx:TrY C w R vx Av cv Aa ca vP ps cs l wr)(hf:Fr C.T wr w2)(hp:PaAt C w2 l 0):
  TrY C w R vx Av cv Aa ca vP ps cs l w2:=by
 have hs:=hf.size;have FA:SameS (NewR (w.heap.size+1) vP wr) wr w2:=hf.same λb hb=>⟨hb.2.1,λe=>by have e:b=C.P:=e;have:=hb.1;omega⟩;have Ji:∀b,NewR (w.heap.size+1) vP wr b->NewR (w.heap.size+1) vP w2 b:=λb hb=>⟨hb.1,ltq hb.2.1 hs,hb.2.2⟩;exact⟨hx.eq,hx.box.fr hf λe=>by have e:w.heap.size=C.P:=e;omega,hx.vars.imp λ_ _ h=>VaR.more Ji (VaR.keep FA h),hx.arrs.imp λ_ _ h=>ArR.more Ji (ArR.keep FA h),zah hx.row hf (by omega),hx.rows.imp FA Ji,hx.few,hp,hx.fr.trans (PT.l hf)⟩
theorem TrY.step {C:Pcx}{w wr w7 w9:World}{R:PR Tre}{vx:List Va×List Arr}{Av Aa:Option Addr}{cv ca:Nat}{vP:Value}{ps:List Prc}{cs:List Value}{l r2:List Tk}{x:Prc}{A D:Option Addr}{c e g cap f m:Nat}(hm:m=ps.length)
  (hL:C.P < w.heap.size/\C.TB < w.heap.size/\C.W0.heap.size<=w.heap.size) (hx:TrY C w R vx Av cv Aa ca vP ps cs l wr)
  (hR:R=(zdp f (ps++ [x]) r2).then (zg2 vx)) (Rz:r2.length<=f) (Fj:r2.length < l.length)
  (hv:in64 x.at_/\SlR (VaR w7 (New wr.heap.size w7) False x.params) x.params.length 24 A c/\SlR (StR w7 (New wr.heap.size w7) False x.body) x.body.len 128 D e)
  (hp:PaAt C w7 r2 0) (hf:Fr C.T wr w7) (W:World) (Lt:Fr NoT w7 W)
  (Hb:w9.ownsRow (w.heap.size+1) 63 4 (.slice (some ⟨g,0,none⟩) (m+1) cap) (m+1) (cs++pcC x A c D e))
  (hg:W.grownBy w9 vP.ownBlock) (GG:vP.ownBlock=some g\/g=W.heap.size) (w10:World)
  (Gv:w10=w9.setCell ⟨w.heap.size,2,none⟩ (.slice (some ⟨g,0,none⟩) (m+1) cap)):
  TrY C w R vx Av cv Aa ca (.slice (some ⟨g,0,none⟩) (ps.length+1) cap) (ps++ [x]) (cs++pcC x A c D e) r2 w10:=by
 subst hm;have Hl:=hx.row.lt;have Ll:=hx.box.lt;have UA:=hx.fr.size;have Rv:=hf.size;have Mx:=Lt.size;have LJ:=hg.size;have FI:=hx.rows.len;have KL:=Hb.lt g rfl;have VE:g≠w.heap.size:=by omega
 have YE:g≠C.P:=by omega
 have VF:w10.heap.size=w9.heap.size:=by rw[Gv];simp
 have YV:Fr (λb=>b=w.heap.size) w9 w10:=by rw[Gv];exact Fr.own (Fr.refl _ _) _ _
 have VG:Fr (λb=>vP.ownBlock=some b) W w9:=Fr.grown hg λg e _=>e;have K2:Fr (λb=>vP.ownBlock=some b) w7 w9:=Lt.any.trans VG;have Qm:Fr (λb=>vP.ownBlock=some b\/b=g\/b=w.heap.size) w7 w10:=(K2.mono λi _ h=>Or.inl h).trans (YV.mono λi _ h=>Or.inr (Or.inr h));have Pc:Fr (λb=>b=C.P\/vP.ownBlock=some b\/b=g\/b=w.heap.size) wr w10:=(hf.mono λi _ h=>Or.inl h).trans (Qm.mono λi _ h=>Or.inr h);have NP:∀b,b < w7.heap.size->vP.ownBlock≠some b->b≠g:=λb hb hn e=>by
  subst e;rcases GG with h|h
  ·exact hn h
  ·omega
 have Jl:vP.ownBlock≠some w.heap.size:=λe=>by have:=(Hl _ e).1;omega
 have Pd:vP.ownBlock≠some C.P:=λe=>by have:=(Hl _ e).1;omega
 have YG:vP.ownBlock≠some C.TB:=λe=>by have:=(Hl _ e).1;omega
 have FA:SameS (NewR (w.heap.size+1) vP wr) wr w10:=Pc.same λb hb=>⟨hb.2.1,λe=>by
  have h1:=hb.1;have h2:=hb.2.1;have h3:=hb.2.2;rcases e with e|e|e|e
  ·omega
  ·exact h3 e
  ·exact NP b (by omega) h3 e
  ·omega⟩
 have Ji:∀b,NewR (w.heap.size+1) vP wr b->NewR (w.heap.size+1) (.slice (some ⟨g,0,none⟩) (ps.length+1) cap) w10 b:=λb hb=>⟨hb.1,by have:=hb.2.1;omega,λe=>by
  have h2:=hb.2.1;have e:g=b:=by simpa[Value.ownBlock]using e
  exact NP b (by omega) hb.2.2 e.symm⟩
 have Qt:SameS (New wr.heap.size w7) w7 w10:=Qm.same λb hb=>⟨hb.2,λe=>by
  have h1:=hb.1;have h2:=hb.2;rcases e with e|e|e
  ·have:=(Hl _ e).2;omega
  ·exact NP b h2 (λe=>by have:=(Hl _ e).2;omega) e
  ·omega⟩
 have Qu:∀b,New wr.heap.size w7 b->NewR (w.heap.size+1) (.slice (some ⟨g,0,none⟩) (ps.length+1) cap) w10 b:=λb hb=>⟨by have:=hb.1;omega,by have:=hb.2;omega,λe=>by
  have h1:=hb.1;have h2:=hb.2;have e:g=b:=by simpa[Value.ownBlock]using e
  exact NP b h2 (λe=>by have:=(Hl _ e).2;omega) e.symm⟩
 refine⟨⟨f,hR,Rz⟩,?_,hx.vars.imp λ_ _ h=>VaR.more Ji (VaR.keep FA h),hx.arrs.imp λ_ _ h=>ArR.more Ji (ArR.keep FA h),?_,?_,?_,?_,?_⟩
 ·have h1:Bk w9 w.heap.size 27 #[.slice Av vx.1.length cv,.slice Aa vx.2.length ca,vP,.slice none 0 0]:=(hx.box.fr hf (λe=>by have e:w.heap.size=C.P:=e;omega)).fr K2 Jl;rw[Gv];simpa using h1.set_ 2 (.slice (some ⟨g,0,none⟩) (ps.length+1) cap)
 ·rw[Gv];have:=ownsRow_setCell_below Hb (a:=⟨w.heap.size,2,none⟩) (by show w.heap.size < w.heap.size+1;omega) (.slice (some ⟨g,0,none⟩) (ps.length+1) cap);simpa using this
 ·exact PcRow.snoc ⟨hv.1,hv.2.1.imp λ_ _ h=>VaR.more Qu (VaR.keep Qt h),hv.2.2.imp λ_ _ h=>StR.more Qu (StR.keep Qt h)⟩ (hx.rows.imp FA Ji)
 ·have:=hx.few;rw[List.length_append,List.length_cons,List.length_nil];omega
 ·refine hp.fr Qm (λe=>?_) (λe=>?_) (λi hi e=>?_)
  ·rcases e with e|e|e
   ·exact Pd e
   ·exact YE e.symm
   ·omega
  ·rcases e with e|e|e
   ·exact YG e
   ·omega
   ·omega
  ·rcases e with e|e|e
   ·have:=(Hl _ e).1;omega
   ·omega
   ·omega
 ·refine((hx.fr.mono (T':=λb=>b=C.P\/vP.ownBlock=some b\/b=g\/b=w.heap.size) λi _ h=>?_).trans Pc).mono λi hi e=>?_
  ·rcases h with h|h
   ·exact .inl h
   ·exact .inr (.inr (.inr h))
  ·rcases e with e|e|e|e
   ·exact .inl e
   ·have:=(Hl _ e).1;omega
   ·omega
   ·exact .inr e
theorem zox {L:Nat}{w:World}{v:Value}{ps:List Prc}{cs:List Value}{S:Nat->Prop}(hr:w.ownsRow L 63 4 v ps.length cs)(hx:PcRow w S ps cs)(hs:∀b,S b->L<=b/\b < w.heap.size)(hf:ps.length<=5001):∃Ap cp,v= .slice Ap ps.length cp/\SlR (PrR w (New L w) False ps) ps.length 72 Ap cp:=by
 rcases hr.2 with⟨rfl,h0⟩|⟨g,cap,cur,rfl,hb,hg,hn,hc,Jk,ht⟩
 ·exact⟨none,0,by rw[h0],by rw[h0];exact⟨lrq _,⟨by decide,by omega⟩,λh=>absurd h (Nat.lt_irrefl 0)⟩⟩
 ·have hl:g < w.heap.size:=(Array.getElem?_eq_some_iff.1 hg).1;have Nj:cap<=9223372036854775807:=by unfold maxLen at hc;omega
  suffices GC:PrR w (New L w) False ps g 0 by
   exact⟨some ⟨g,0,none⟩,cap,rfl,hn,⟨Nj,by omega⟩,λ_=>⟨g,0,rfl,GC⟩⟩
  refine PcRow.prR ⟨hb,hl⟩ (PcRow.imp (SameS.refl _ _) hs hx) λj u hj=>?_;have:=hr.cells (g:=g) rfl j u hj;have L7:(⟨g,0,none⟩:Addr).add j=⟨g,0+j,none⟩:=by
   rw[Nat.zero_add];unfold Addr.add;split<;>simp_all
  rw[L7]at this;exact this
def TrV (C:Pcx)(r:PR Tre)(W:World)(e:Ending)(w':World):Prop:=
 match r with
 | .err c a=>e=zae c a/\Fr C.T W w'
 | .ok t l=>∃Av Aa Ap Am cv ca cp cm,e= .returned (trV t Av Aa Ap Am cv ca cp cm)/\TrR w' (New W.heap.size w') False t Av Aa Ap Am cv ca cp cm/\Fr C.T W w'
theorem PT.drop {C:Pcx}{w w7:World}(hf:Fr (PT C w.heap.size) w w7):Fr C.T w w7:=
 hf.mono λi hi e=>by
  rcases e with e|e
  ·exact e
  ·omega
theorem zck {C:Pcx}{w w7:World}{c a:Int}(hf:Fr (PT C w.heap.size) w w7):TrV C (.err c a) w (zae c a) w7:=⟨rfl,PT.drop hf⟩
theorem zmb {C:Pcx}{w wr w7 w10:World}{R:PR Tre}{vx:List Va×List Arr}{Av Aa:Option Addr}{cv ca:Nat}{vP:Value}{ps:List Prc}{cs:List Value}{l r:List Tk}{b:List St}{Am:Option Addr}{cm:Nat}
  (hL:C.P < w.heap.size/\C.TB < w.heap.size/\C.W0.heap.size<=w.heap.size) (hx:TrY C w R vx Av cv Aa ca vP ps cs l wr) (hf:Fr C.T wr w7)
  (hv:SlR (StR w7 (New wr.heap.size w7) False (zam b)) (zam b).len 128 Am cm) (Gv:w10=w7.setCell ⟨w.heap.size,3,none⟩ (.slice Am (zam b).len cm)):
  ∃Ap cp,vP= .slice Ap ps.length cp/\Bk w10 w.heap.size 27 #[.slice Av vx.1.length cv,.slice Aa vx.2.length ca,.slice Ap ps.length cp,.slice Am (zam b).len cm]/\TrV C (.ok ⟨vx.1,vx.2,ps,zam b⟩ r) w (.returned (.agg #[.slice Av vx.1.length cv,.slice Aa vx.2.length ca,.slice Ap ps.length cp,.slice Am (zam b).len cm])) w10:=by
 have G6:=hx.few;have UA:=hx.fr.size;have Rv:=hf.size;have Ll:=hx.box.lt;have hz:w10.heap.size=w7.heap.size:=by rw[Gv];simp
 have gz:Fr (λb=>b=w.heap.size) w7 w10:=by rw[Gv];exact Fr.own (Fr.refl _ _) _ _
 obtain⟨Ap,cp,Pd,GG⟩:=zox (L:=w.heap.size+1) hx.row hx.rows (λb hb=>⟨hb.1,hb.2.1⟩) (by omega);have Ha:Fr (λb=>b=C.P\/b=w.heap.size) wr w10:=(hf.mono λi _ h=>Or.inl h).trans (gz.mono λi _ h=>Or.inr h);have FA:SameS (NewR (w.heap.size+1) vP wr) wr w10:=Ha.same λb hb=>⟨hb.2.1,λe=>by have:=hb.1;rcases e with e|e<;>omega⟩;have VP:SameS (New (w.heap.size+1) wr) wr w10:=Ha.same λb hb=>⟨hb.2,λe=>by have:=hb.1;rcases e with e|e<;>omega⟩;have VQ:SameS (New wr.heap.size w7) w7 w10:=gz.same λb hb=>⟨hb.2,λe=>by have e:b=w.heap.size:=e;have:=hb.1;omega⟩;have Jq:∀b,NewR (w.heap.size+1) vP wr b->New w.heap.size w10 b:=λb hb=>⟨by have:=hb.1;omega,by have:=hb.2.1;omega⟩;have KG:∀b,New (w.heap.size+1) wr b->New w.heap.size w10 b:=λb hb=>⟨by have:=hb.1;omega,by have:=hb.2;omega⟩;have JP:∀b,New wr.heap.size w7 b->New w.heap.size w10 b:=λb hb=>⟨by have:=hb.1;omega,by have:=hb.2;omega⟩;refine⟨Ap,cp,Pd,?_,Av,Aa,Ap,Am,cv,ca,cp,cm,rfl,⟨hx.vars.imp λ_ _ h=>VaR.more Jq (VaR.keep FA h),hx.arrs.imp λ_ _ h=>ArR.more Jq (ArR.keep FA h),GG.imp λ_ _ h=>PrR.more KG (PrR.keep VP h),hv.imp λ_ _ h=>StR.more JP (StR.keep VQ h)⟩,?_⟩
 ·have h1:=hx.box.fr hf (λe=>by have e:w.heap.size=C.P:=e;omega);rw[Pd]at h1;rw[Gv];simpa using h1.set_ 3 (.slice Am (zam b).len cm)
 ·exact PT.drop ((hx.fr.trans (Ha.mono λi _ h=>h)))
theorem zhJ (b o j:Nat):(⟨b,o,none⟩:Addr).add j=⟨b,o+j,none⟩:=by unfold Addr.add;split<;>simp_all
theorem zmc {C:Pcx}{d:Nat}{r:PR (List Arr)}{W w':World}{e:Ending}(h:EndV C d znI r W e w'):
  (∃(xs:List Arr)(l:List Tk)(A:Option Addr)(c:Nat),r= .ok xs l/\e= .returned (.slice A xs.length c)/\SlR (ArR w' (New W.heap.size w') False xs) xs.length 32 A c/\PaAt C w' l d/\Fr C.T W w')\/
   ∃c a,r= .err c a/\e= .panicked [{v:= .iface 161 (.agg #[.int .i64 c,.int .i64 a]),recovered:=false}]/\Fr C.T W w':=by
 unfold EndV at h;cases r with
 |err c a=>exact .inr ⟨c,a,rfl,h⟩
 |ok x l=>
  obtain⟨v,rfl,⟨A,c,rfl,hs⟩,hp,hf⟩:=h;exact .inl ⟨x,l,A,c,rfl,rfl,hs,hp,hf⟩
theorem ze3:Shr zei:=λl y r e=>by
 obtain⟨x,q,h1,h2⟩:=PR.then_ok e;obtain⟨u,q2,h3,h4⟩:=PR.then_ok h2;obtain⟨n,q3,h5,h6⟩:=PR.then_ok h4;obtain⟨u2,q4,h7,h8⟩:=PR.then_ok h6;simp only[PR.ok.injEq]at h8;have e1:=zb6 h1;have e2:=zbA h3;have e4:=zbA h7;have e3:q3=q2.tail:=by
  unfold zaP at h5;split at h5
  ·simp only[PR.ok.injEq]at h5;exact h5.2.symm
  ·simp at h5
 rw[<-h8.2,e4,e3,e2,e1];simp only[List.length_tail];omega
theorem zmd {C:Pcx}{d:Nat}{r:PR Prc}{W w':World}{e:Ending}(h:EndV C d PcV r W e w'):
  (∃(x:Prc)(l:List Tk)(A:Option Addr)(c:Nat)(D:Option Addr)(q:Nat),r= .ok x l/\e= .returned (.agg #[.string x.nm,.slice A x.params.length c,.slice D x.body.len q,.int .i64 x.at_])/\
   (in64 x.at_/\SlR (VaR w' (New W.heap.size w') False x.params) x.params.length 24 A c/\SlR (StR w' (New W.heap.size w') False x.body) x.body.len 128 D q)/\PaAt C w' l d/\Fr C.T W w')\/
   ∃c a,r= .err c a/\e= .panicked [{v:= .iface 161 (.agg #[.int .i64 c,.int .i64 a]),recovered:=false}]/\Fr C.T W w':=by
 unfold EndV at h;cases r with
 |err c a=>exact .inr ⟨c,a,rfl,h⟩
 |ok x l=>
  obtain⟨v,rfl,⟨A,c,D,q,rfl,hs⟩,hp,hf⟩:=h;exact .inl ⟨x,l,A,c,D,q,rfl,rfl,hs,hp,hf⟩
set_option maxRecDepth 100000 in
set_option maxHeartbeats 3200000 in
theorem zme (C:Pcx)(l:List Tk)(w:World)(hk:C.Ok)(h:PaAt C w l 0):
  Calls Tryz.prog 63 #[.pointer (some ⟨C.P,0,none⟩)] w (TrV C (ziE l) w):=by
 have Jt:= @makeF Tryz.prog;obtain⟨iV,hi,Jb,Hy,FR⟩:=info_parts zmU;have Xg:=hdq (aiq hi (aiq Jb (aiq Hy FR)));clear hi Jb Hy FR;obtain⟨iA,hi,Jb,Hy,FR⟩:=info_parts zmV;have UL:=hdq (aiq hi (aiq Jb (aiq Hy FR)));clear hi Jb Hy FR;obtain⟨iP,hi,Jb,Hy,FR⟩:=info_parts zow;have Xh:=hdq (aiq hi (aiq Jb (aiq Hy FR)));clear hi Jb Hy FR;obtain⟨R,hR⟩:=nmq (ziE l);rw[<-hR];rw[znL]at hR;have hL:=h.lts;have FB:l.length<=5000:=by
  obtain⟨j,q,e,_⟩:=h.at_;have:=hk.few;rw[e,List.length_drop];omega
 obtain⟨w1,Hc⟩:=nmq (w.alloc (.cells #[.slice none 0 0,.slice none 0 0,.slice none 0 0,.slice none 0 0] 27));have K8:TrX C w R [] [] (.slice none 0 0) (.slice none 0 0) l w1:=by
  rw[Hc];exact⟨⟨_,hR,lrq _⟩,Bk.new _ _ _,World.ownsRow_nil _ _ _ _,World.ownsRow_nil _ _ _ _,λ_ h=>by simp at h,λ_ h=>by simp at h,λb h=>by simp[Value.ownBlock]at h,by simpa using FB,h.alloc _,(Fr.refl _ _).alloc _⟩
 have Gi:=hdq K8;have HK:=hdq hk;have HL:=hdq hL;have Gg:=hdq Hc;clear hR h hk hL FB K8 Hc;go_enter Tryz.func63,Tryz.ntmps63;go_wp2_with fail;rw[show w.alloc (.cells #[.slice none 0 0,.slice none 0 0,.slice none 0 0,.slice none 0 0] 27)=w1 from Gg.symm]
 go_step3
 go_wp2_with fail
 go_step3
 go_wp2_with fail;go_loopw [3,14] (λ_ _ wr=>∃(vs:List Va)(xs:List Arr)(vV vA:Value)(r:List Tk),Hid (TrX C w R vs xs vV vA r wr)) (λ_ _ wr=>lenP C wr);case atStart=>exact⟨[], [],_,_,l,Gi⟩
 case round=>
  obtain⟨vs,xs,vV,vA,r,hx⟩:=hrel;have HM:=hdq (za0 C [118,97,114] r 0 wr HK.out hx.pa (by decide));go_wp2_with fail;refine HM.mono ?_;rintro _ w2 ⟨rfl,hp,hf⟩;obtain⟨f,Gp,GU⟩:=hx.eq;have FO:0 < r.length:=List.length_pos_iff.2 hx.pa.ne;obtain⟨f,rfl⟩:∃f',f=f'+1:=⟨f - 1,by omega⟩;unfold zew at Gp;cases hm:mayB [118,97,114] r;rotate_left
  ·rw[hm]at Gp hp;replace hp:PaAt C w2 r.tail 0:=hp;replace Gp:R=((zaR zaX [59] false r.tail).then λv r=>zew f (vs++v) xs r).then zfy:=Gp;have Jo:=hdq Gp;have KJ:=hdq GU;have Ky:=hdq hp.ne;have L8:=hdq (show r.length=r.tail.length+1 by rw[List.length_tail];omega);have Hv:=hdq hf;have hbx:=hx.box.fr hf (λe=>by have e:w.heap.size=C.P:=e;have:=HL.out;omega);have y9:=hbx.cell 0;have zH:=hbx.frozen 0;simp only[getsL]at y9;have ME:=hdq (zeT C zaX [59] false 131 #[.pointer (some ⟨C.P,0,none⟩)] #[] r.tail 0 w2.drew HK.out (hp.fr (T:=NoT) (Fr.drew (Fr.refl _ _)) id id λ_ _=>id) (λl x r e=>by rw[zb6 e,List.length_tail];omega) (by decide) (enters_of Tryz.func131 (by kernel_rfl) rfl) λW _ l' Lx=>by
    simpa using zbs C l' 0 W HK.out Lx)
   clear hp hf Gp GU hm hbx FO;go_wp2_with fail
   go_region_law
    (first
     |(refine zbl _ _ _ (by rfl) ?_
       go_simp;go_at_call 130
       with_reducible refine ME.out.mono ?_
       intro e w7 hE;rcases zhI hE with⟨ps,r2,B,q,hX,rfl,hv,hp,hf⟩|⟨c,a2,hX,rfl,hf⟩;case inr=>
        have La:TrV C R w (zae c a2) w7:=by rw[Jo.out,hX];exact zck (hx.fr.trans (PT.l (Hv.trans ((Fr.drew (Fr.refl C.T w2)).trans hf))))
        exact aiq rfl La
       have Hp:Fr C.T wr w7:=Hv.trans ((Fr.drew (Fr.refl C.T w2)).trans hf);have KO:=zgs Ky.out hX;obtain⟨bb,oo,rfl,Hh⟩:=hv.2.2 KO;have FI:=Hh.cells;have hL:=HL.out;have JA:=hx.box.fr Hp (λe=>by have e:w.heap.size=C.P:=e;omega);have yv:=JA.cell 0;have yM:=JA.frozen 0;simp only[getsL]at yv;have G6:ps.length+r2.length<=r.length:=by
        have h1:=ze2 (λl x r e=>by rw[zb6 e,List.length_tail];omega) hX;have h2:=L8.out;omega
       have HX:=hdq hX;have HP:=hdq hp;have GV:=hdq Hp;have Mh:=hdq FI;have LG:=hdq (zah hx.rowV Hp (by omega));have ML:=Hp.size;have gA:=hx.fr.size;have VR:=hx.box.lt;have qe:=hv.1;have gd:=hv.2.1;have qf:=hx.few;have Pg:=hx.rowV.lt;clear hX hv hp hf Hp Hh FI JA hL;dsimp only)
     |(refine step_append_lies _ (by rfl) _ _ _ (by rfl) (w.heap.size+1) 77 iV (.agg #[.string ⟨#[]⟩,.int .i64 0]) 2 24 Tryz.underlying22 Xg.1 Xg.2.1 Xg.2.2.1 Xg.2.2.2 rfl (by decide) vV vs.length (vs.flatMap cCVa) (by rfl) LG.out ⟨bb,oo,none⟩ ps.length q (ps.flatMap cCVa) (by rfl) (zkq ps) (λj u hu=>by rw[zhJ];exact Mh.2 j u hu) (zks ps) KO (by unfold maxLen;omega) (by omega) (by omega) w7.heap.size rfl ?_
       intro gg cap w9 Hb Hd GG Hl;have RA:=(Hd.cell_far ⟨w.heap.size,0,none⟩ (by show w.heap.size < _;omega) (λe=>by have:=(Pg w.heap.size e.symm).1;omega)).trans yv;have Ns:=(Hd.frozen_far ⟨w.heap.size,0,none⟩ (by show w.heap.size < _;omega) (λe=>by have:=(Pg w.heap.size e.symm).1;omega)).trans yM;have HE:=hdq (λw10 Jn=>TrX.stepV (A:=none) (q:=0) (w10:=w10) (f:=f) HL.out hx.out (by rw[Jo.out,HX.out];rfl) (by have:=KJ.out;omega) G6 Mh.1 HP.out GV.out Hb Hd GG Jn);clear Hb Hd GG Hl))
   all_goals
    have hbx:=HE _ (by with_reducible rfl);have JC:=hdq hbx;have VS:=hdq (show lenP C _ < lenP C wr from by rw[hbx.pa.lenP,hx.pa.lenP];have:=L8.out;omega);clear hbx HE RA Ns yv yM;go_wp2_with fail;go_roundw;case rel=>exact⟨_,_,_,_,_,JC⟩
    case measure=>exact VS.out
  ·rw[hm]at Gp hp;replace hp:PaAt C w2 r 0:=hp;have Hs:=hdq hf;have gC:=hdq (za0 C [97,114,114,97,121] r 0 w2 HK.out hp (by decide));have KJ:=hdq GU;have TF:=hdq Gp;clear hp hf Gp GU hm;go_wp2_with fail;refine gC.mono ?_;rintro _ w3 ⟨rfl,hp,hf⟩;have Gp:=TF.out;cases hm:mayB [97,114,114,97,121] r;rotate_left
   ·rw[hm]at Gp hp;replace hp:PaAt C w3 r.tail 0:=hp;replace Gp:R=((zaR zei [59] false r.tail).then λx r=>zew f vs (xs++x) r).then zfy:=Gp;have Jo:=hdq Gp;have Ky:=hdq hp.ne;have L8:=hdq (show r.length=r.tail.length+1 by rw[List.length_tail];omega);have Hv:=hdq (Hs.trans hf);obtain⟨w2,HJ⟩:=nmq w3;rw[<-HJ]at Hv hp ⊢;clear HJ hf;have hbx:=hx.box.fr Hv.out (λe=>by have e:w.heap.size=C.P:=e;have:=HL.out;omega);have y9:=hbx.cell 1;have zH:=hbx.frozen 1;simp only[getsL]at y9;have ME:=hdq (ziD C zei [59] false 133 #[.pointer (some ⟨C.P,0,none⟩)] #[] r.tail 0 w2.drew HK.out (hp.fr (T:=NoT) (Fr.drew (Fr.refl _ _)) id id λ_ _=>id) ze3 (by decide) (enters_of Tryz.func133 (by kernel_rfl) rfl) λW _ l' Lx=>by
     simpa using zkh C l' 0 W HK.out Lx)
    clear hp Gp hm hbx FO TF;go_wp2_with fail
    go_region_law
     (first
      |(refine zbl _ _ _ (by rfl) ?_
        go_simp;go_at_call 132
        with_reducible refine ME.out.mono ?_
        intro e w7 hE;rcases zmc hE with⟨ps,r2,B,q,hX,rfl,hv,hp,hf⟩|⟨c,a2,hX,rfl,hf⟩;case inr=>
         have La:TrV C R w (zae c a2) w7:=by rw[Jo.out,hX];exact zck (hx.fr.trans (PT.l (Hv.trans ((Fr.drew (Fr.refl C.T w2)).trans hf))))
         exact aiq rfl La
        have Hp:Fr C.T wr w7:=Hv.trans ((Fr.drew (Fr.refl C.T w2)).trans hf);have KO:=zgs Ky.out hX;obtain⟨bb,oo,rfl,Hh⟩:=hv.2.2 KO;have FI:=Hh.cells;have hL:=HL.out;have JA:=hx.box.fr Hp (λe=>by have e:w.heap.size=C.P:=e;omega);have yv:=JA.cell 1;have yM:=JA.frozen 1;simp only[getsL]at yv;have G6:ps.length+r2.length<=r.length:=by
         have h1:=ze2 ze3 hX;have h2:=L8.out;omega
        have HX:=hdq hX;have HP:=hdq hp;have GV:=hdq Hp;have Mh:=hdq FI;have LG:=hdq (zah hx.rowA Hp (by omega));have ML:=Hp.size;have gA:=hx.fr.size;have VR:=hx.box.lt;have qe:=hv.1;have gd:=hv.2.1;have qf:=hx.few;have Pg:=hx.rowA.lt;clear hX hv hp hf Hp Hh FI JA hL;dsimp only)
      |(refine step_append_lies _ (by rfl) _ _ _ (by rfl) (w.heap.size+1) 61 iA (.agg #[.string ⟨#[]⟩,.int .i64 0,.int .i64 0]) 3 32 Tryz.underlying23 UL.1 UL.2.1 UL.2.2.1 UL.2.2.2 rfl (by decide) vA xs.length (xs.flatMap cCAr) (by rfl) LG.out ⟨bb,oo,none⟩ ps.length q (ps.flatMap cCAr) (by rfl) (zkr ps) (λj u hu=>by rw[zhJ];exact Mh.2 j u hu) (zkt ps) KO (by unfold maxLen;omega) (by omega) (by omega) w7.heap.size rfl ?_
        intro gg cap w9 Hb Hd GG Hl;have RA:=(Hd.cell_far ⟨w.heap.size,1,none⟩ (by show w.heap.size < _;omega) (λe=>by have:=(Pg w.heap.size e.symm).1;omega)).trans yv;have Ns:=(Hd.frozen_far ⟨w.heap.size,1,none⟩ (by show w.heap.size < _;omega) (λe=>by have:=(Pg w.heap.size e.symm).1;omega)).trans yM;have HE:=hdq (λw10 Jn=>TrX.stepA (A:=none) (q:=0) (w10:=w10) (f:=f) HL.out hx.out (by rw[Jo.out,HX.out];rfl) (by have:=KJ.out;omega) G6 Mh.1 HP.out GV.out Hb Hd GG Jn);clear Hb Hd GG Hl))
    all_goals
     have hbx:=HE _ (by with_reducible rfl);have JC:=hdq hbx;have VS:=hdq (show lenP C _ < lenP C wr from by rw[hbx.pa.lenP,hx.pa.lenP];have:=L8.out;omega);clear hbx HE RA Ns yv yM;go_wp2_with fail;go_roundw;case rel=>exact⟨_,_,_,_,_,JC⟩
     case measure=>exact VS.out
   ·rw[hm]at Gp hp;replace hp:PaAt C w3 r 0:=hp;replace Gp:R=zfy (vs,xs) r:=Gp;obtain⟨Av,cv,Aa,ca,qg,qh,hy⟩:=TrY.start (TrX.next HL.out hx.out (Hs.trans hf) hp) Gp;have LF:=hdq hy;clear hp hf Gp hm qg qh hy TF KJ gC Hs HM Gi FO hx;go_wp2_with fail;try go_step3
    try go_wp2_with fail
    go_loopw [25] (λ_ wr=>∃(vP:Value)(ps:List Prc)(cs:List Value)(r:List Tk),Hid (TrY C w R (vs,xs) Av cv Aa ca vP ps cs r wr)) (λ_ wr=>lenP C wr);case atStart=>exact⟨_,_,_,_,LF⟩
    case round=>
     clear LF;obtain⟨vP,ps,cs,r,hy⟩:=hrel;have HM:=hdq (za0 C [112,114,111,99] r 0 wr HK.out hy.pa (by decide));go_wp2_with fail;refine HM.mono ?_;rintro _ w2 ⟨rfl,hp,hf⟩;obtain⟨f,Gp,GU⟩:=hy.eq;have FO:0 < r.length:=List.length_pos_iff.2 hy.pa.ne;obtain⟨f,rfl⟩:∃f',f=f'+1:=⟨f - 1,by omega⟩;unfold zdp at Gp;cases hm:mayB [112,114,111,99] r;rotate_left
     ·rw[hm]at Gp hp;replace hp:PaAt C w2 r.tail 0:=hp;replace Gp:R=((zgZ r.tail).then λp r=>zdp f (ps++ [p]) r).then (zg2 (vs,xs)):=Gp;have Jo:=hdq Gp;have KJ:=hdq GU;have L8:=hdq (show r.length=r.tail.length+1 by rw[List.length_tail];omega);have Hv:=hdq hf;have Nl:=hdq (hp.ended HK.out);have hbx:=hy.box.fr hf (λe=>by have e:w.heap.size=C.P:=e;have:=HL.out;omega);have y9:=hbx.cell 2;have zH:=hbx.frozen 2;simp only[getsL]at y9;have Xe:=hdq (zma C r.tail w2.drew HK.out (hp.fr (T:=NoT) (Fr.drew (Fr.refl _ _)) id id λ_ _=>id));obtain⟨m,LS⟩:=nmq ps.length;have MG:=hdq LS;have VT:=hdq (show wr.ownsRow (w.heap.size+1) 63 4 vP m cs from by rw[LS];exact hy.row);clear hp hf Gp GU hm hbx FO HM LS;go_wp2_with fail
      go_region_law
       (first
        |(refine zbl _ _ _ (by rfl) ?_
          go_simp;go_at_call 134
          with_reducible refine Xe.out.mono ?_
          intro e w7 hE;rcases zmd hE with⟨x,r3,A,c,D,q,hX,rfl,hv,hp,hf⟩|⟨c,a2,hX,rfl,hf⟩;case inr=>
           have La:TrV C R w (zae c a2) w7:=by rw[Jo.out,hX];exact zck (hy.fr.trans (PT.l (Hv.trans ((Fr.drew (Fr.refl C.T w2)).trans hf))))
           exact aiq rfl La
          have Hp:Fr C.T wr w7:=Hv.trans ((Fr.drew (Fr.refl C.T w2)).trans hf);have hL:=HL.out;have JA:=hy.box.fr Hp (λe=>by have e:w.heap.size=C.P:=e;omega);have yv:=JA.cell 2;have yM:=JA.frozen 2;have Hf:w.heap.size < w7.heap.size:=JA.lt;have f07a:=(JA.alloc (.cells #[.string x.nm,.slice A x.params.length c,.slice D x.body.len q,.int .i64 x.at_] 63)).frozen 2;simp only[getsL]at yv;have JY:r3.length < r.length:=by
           have h1:=(procP_loc.shr1 Nl.out hX).1;have h2:=L8.out;omega
          have G8:=hdq JY;have HX:=hdq hX;have HV:=hdq (⟨hv.1,hv.2.1.imp λ_ _ h=>VaR.more (λb hb=>⟨leq9 Hv.size hb.1,hb.2⟩) h,hv.2.2.imp λ_ _ h=>StR.more (λb hb=>⟨leq9 Hv.size hb.1,hb.2⟩) h⟩:in64 x.at_/\SlR (VaR w7 (New wr.heap.size w7) False x.params) x.params.length 24 A c/\SlR (StR w7 (New wr.heap.size w7) False x.body) x.body.len 128 D q);have HP:=hdq hp;have GV:=hdq Hp;have Ss:=hdq ((zah VT.out Hp (by omega)).alloc (.cells #[.string x.nm,.slice A x.params.length c,.slice D x.body.len q,.int .i64 x.at_] 63));have J1:=hdq (Bk.new w7 63 #[.string x.nm,.slice A x.params.length c,.slice D x.body.len q,.int .i64 x.at_]).news;have HW:=hdq (show Fr NoT w7 (w7.alloc (.cells #[.string x.nm,.slice A x.params.length c,.slice D x.body.len q,.int .i64 x.at_] 63))from(Fr.refl _ _).alloc _);have ML:=Hp.size;have gA:=hy.fr.size;have VR:=hy.box.lt;have P5:m<=5000:=by have:=hy.few;have:=MG.out;omega
          have Pg:=Ss.lt;have GM:∀u∈pcC x A c D q,u.oneCell'=true:=by simp[pcC,Value.oneCell']
          clear hX hv hp hf Hp JA hL JY;dsimp only)
        |(refine step_append_lies _ (by rfl) _ _ _ (by rfl) (w.heap.size+1) 63 iP (.agg #[.string ⟨#[]⟩,.slice none 0 0,.slice none 0 0,.int .i64 0]) 4 72 Tryz.underlying24 Xh.1 Xh.2.1 Xh.2.2.1 Xh.2.2.2 rfl (by decide) vP m cs (by rfl) Ss.out ⟨w7.heap.size,0,none⟩ 1 1 (pcC x A c D q) (by rfl) (by rfl) J1.out GM (by omega) (by unfold maxLen;omega) (by omega) (by rw[World.size_alloc];omega) (w7.heap.size+1) (World.size_alloc _ _) ?_
          intro gg cap w9 Hb Hd GG Hl;have RA:=(Hd.cell_far ⟨w.heap.size,2,none⟩ (by show w.heap.size < _;rw[World.size_alloc];omega) (λe=>by have:=(Pg w.heap.size e.symm).1;omega)).trans ((World.cell?_alloc_lt w7 _ ⟨w.heap.size,2,none⟩ (by show w.heap.size < _;omega)).trans yv);have Ns:=(Hd.frozen_far ⟨w.heap.size,2,none⟩ (by show w.heap.size < _;rw[World.size_alloc];omega) (λe=>by have:=(Pg w.heap.size e.symm).1;omega)).trans f07a;have HE:=hdq (λw10 Jn=>TrY.step (w10:=w10) (f:=f) MG.out HL.out hy.out (by rw[Jo.out,HX.out];rfl) (by have:=KJ.out;have:=G8.out;omega) G8.out HV.out HP.out GV.out _ HW.out Hb Hd (GG.imp id λe=>by rw[World.size_alloc];exact e) Jn);clear Hb Hd GG Pg))
      all_goals
       have Sn:=HE _ (by with_reducible rfl);have qi:=hdq Sn;have VS:=hdq (show lenP C _ < lenP C wr from by rw[Sn.pa.lenP,hy.pa.lenP];exact G8.out);clear Sn HE RA Ns yv yM;go_wp2_with fail;go_roundw;case rel=>exact⟨_,_,_,_,qi⟩
       case measure=>exact VS.out
     ·rw[hm]at Gp hp;replace hp:PaAt C w2 r 0:=hp;replace Gp:R=zg2 (vs,xs) ps r:=Gp;have LE:=TrY.next HL.out hy.out hf hp;have LD:=hdq LE;have Jo:=hdq Gp;have HT:=hdq (zas C [109,97,105,110] r 0 w2.heap.size _ HK.out (hp.alloc (.cells #[.string ⟨#[109,97,105,110]⟩] 9)) (by decide) (by simp));clear hp hf Gp GU hm FO HM LE hy;go_wp2_with fail;refine HT.mono ?_;intro e w4 hE;rcases hE with⟨ht,rfl,hp,hf⟩|⟨ht,rfl,hf⟩;rotate_left
      ·go_wp2_with fail;have La:TrV C R w (zae 90 (hdT r).at_) w4:=by
        rw[Jo.out];unfold zg2;rw[ht];exact zck (LD.fr.trans (PT.l (((Fr.refl C.T w2).alloc _).trans hf)))
       exact aiq rfl La
      have GE:=Jo.out;unfold zg2 at GE;rw[ht]at GE;replace GE:R=(zag 24 r.tail).then λb r=>if 1 < r.length then .err 90 (hdT r).at_ else .ok ⟨vs,xs,ps,zam b⟩ r:=GE
      have G8:=hdq GE;have J2:=hdq (zhH C HK.out 24 r.tail 0 w4 (by omega) hp);have GN:=hdq (((Fr.refl C.T w2).alloc (.cells #[.string ⟨#[109,97,105,110]⟩] 9)).trans hf);clear ht hp hf GE HT Jo;go_wp2_with (first|fail "x");refine J2.mono ?_;intro e w7 hE;rcases zgq hE with⟨b,r3,D,q,hX,rfl,hv,hp,hf⟩|⟨c,a2,hX,rfl,hf⟩;case inr=>
       have La:TrV C R w (zae c a2) w7:=by rw[G8.out,hX];exact zck (LD.fr.trans (PT.l (GN.trans hf)))
       go_wp2_with fail;exact aiq rfl La
      have JW:=G8.out;rw[hX]at JW;replace JW:R=if 1 < r3.length then .err 90 (hdT r3).at_ else .ok ⟨vs,xs,ps,zam b⟩ r3:=JW
      have Hp:=GN.trans hf;have hL:=HL.out;obtain⟨w10,Gv⟩:=nmq (w7.setCell ⟨w.heap.size,3,none⟩ (.slice D (zam b).len q));obtain⟨Ap,cp,Pd,Gm,Ja⟩:=zmb (r:=r3) hL LD.out Hp (hv.imp λ_ _ h=>StR.more (λb hb=>⟨leq9 GN.size hb.1,hb.2⟩) h) Gv;have JA:=LD.box.fr Hp (λe=>by have e:w.heap.size=C.P:=e;omega);have t7:=JA.cell 3;have f7:=JA.frozen 3;simp only[getsL]at t7;have Hi:PaAt C w10 r3 0:=hp.fr (T:=λb=>b=w.heap.size) (by rw[Gv];exact Fr.own (Fr.refl _ _) _ _) (λe=>by have e:C.P=w.heap.size:=e;omega) (λe=>by have e:C.TB=w.heap.size:=e;omega) (λi hi e=>by have e:i=w.heap.size:=e;omega);have Mt:Fr (PT C w.heap.size) w w10:=by rw[Gv];exact(LD.fr.trans (PT.l Hp)).trans ((Fr.own (Fr.refl _ _) 3 _).mono λi _ h=> .inr h)
      obtain⟨j,cap,m,GK,Jq,hle,Ln,FS,FM,p0,p1,g0,g1,_,_,_,ltP,ltT⟩:=hp.cells;have Pf:¬C.P=w.heap.size:=by omega
      have Fl:¬w.heap.size=C.P:=by omega
      have KG:m<=9223372036854775807:=by omega
      have GO:=hdq (zca C 90 r3 0 (w7.setCell ⟨w.heap.size,3,none⟩ (.slice D (zam b).len q)) (by rw[<-Gv];exact Hi));have b0:=Gm.cell 0;have b1:=Gm.cell 1;have b2:=Gm.cell 2;have b3:=Gm.cell 3;have Ll:=Gm.lt;simp only[getsL]at b0 b1 b2 b3;have MM:=hdq Ja;have GW:=hdq Mt;have KH:=hdq JW;have TG:=hdq Gv;clear Ja Mt JW hX hv hp hf Hp JA Hi hL Pd Gm hle FM;by_cases h1:1 < r3.length
      ·have VU:(1:Int) < (m:Int):=by omega
       have e1:decide ((1:Int) < (m:Int))=true:=by simpa using VU
       have J6:=KH.out;rw[if_pos h1]at J6;have MH:=hdq J6;clear J6 MM h1 GK;go_wp2_with fail;refine GO.mono ?_;rintro _ w11 ⟨rfl,hf⟩;have La:TrV C R w (zae 90 (hdT r3).at_) w11:=by
        rw[MH.out];rw[<-TG.out]at hf;exact zck (GW.trans (PT.l hf))
       exact aiq rfl La
      ·have VU:¬(1:Int) < (m:Int):=by omega
       have e1:decide ((1:Int) < (m:Int))=false:=by simpa using VU
       have J6:=KH.out;rw[if_neg h1]at J6;have MH:=hdq J6;clear J6 h1 GK;go_wp2_with fail;simp only[Exit.noGoto];refine bodyPost_ret (v:= .agg #[.slice Av vs.length cv,.slice Aa xs.length ca,.slice Ap ps.length cp,.slice D (zam b).len q]) ?_ rfl ?_
       ·rw[<-TG.out];simp[results,Tryz.results63,go_sem,b0,b1,b2,b3,Ll]
       ·rw[<-TG.out,MH.out];exact MM.out
