/-
  parse: a tree's lists, in rows.
-/
import Derived.Test.YtfomomaomggpbaaGreatDoorJnPr
import Derived.WalkMore
set_option linter.unusedVariables false
set_option linter.unusedSimpArgs false
namespace Go.Proofs.YtfomomaomggpbaaGreatDoor
open Go.RowKit Go.Shelf

theorem flat2_len (xs:List Va):(xs.flatMap cCVa).length =xs.length*2:=by
 induction xs with
 |nil=>rfl
 |cons a r ih=>rw[List.flatMap_cons,List.length_append,ih];simp[cCVa];omega
theorem flat3_len (xs:List Arr):(xs.flatMap cCAr).length =xs.length*3:=by
 induction xs with
 |nil=>rfl
 |cons a r ih=>rw[List.flatMap_cons,List.length_append,ih];simp[cCAr];omega
theorem VaR.cells {w:World} {S:Nat→Prop} {Z:Prop}:∀ {xs:List Va} {b o:Nat},VaR w S Z xs b o→(∀x∈xs,okCVa x)∧∀j u,(xs.flatMap cCVa)[j]?=some u→w.cell? ⟨b,o+j,none⟩=some u
 | [],_,_,_=>⟨fun _ h=>by simp at h,fun j u h=>by simp at h⟩
 |x::r,b,o,h=>by
  obtain⟨⟨_,_,h1,h2,h3⟩,hr⟩:=h
  have ih:=VaR.cells hr
  refine⟨fun y hy=>?_,fun j u hj=>?_⟩
  ·rcases List.mem_cons.1 hy with rfl|hy
   ·exact h1
   ·exact ih.1 y hy
  ·rw[List.flatMap_cons]at hj
   match j,hj with
   |0,hj=>simp[cCVa]at hj;subst hj;exact h2
   |1,hj=>simp[cCVa]at hj;subst hj;exact h3
   |j+2,hj=>
    have:=ih.2 j u (by simpa[cCVa]using hj)
    rw[show o+(j+2)=o+2+j from by omega]
    exact this
theorem ArR.cells {w:World} {S:Nat→Prop} {Z:Prop}:∀ {xs:List Arr} {b o:Nat},ArR w S Z xs b o→(∀x∈xs,okCAr x)∧∀j u,(xs.flatMap cCAr)[j]?=some u→w.cell? ⟨b,o+j,none⟩=some u
 | [],_,_,_=>⟨fun _ h=>by simp at h,fun j u h=>by simp at h⟩
 |x::r,b,o,h=>by
  obtain⟨⟨_,_,h0,h1,h2,h3,h4⟩,hr⟩:=h
  have ih:=ArR.cells hr
  refine⟨fun y hy=>?_,fun j u hj=>?_⟩
  ·rcases List.mem_cons.1 hy with rfl|hy
   ·exact⟨h0,h1⟩
   ·exact ih.1 y hy
  ·rw[List.flatMap_cons]at hj
   match j,hj with
   |0,hj=>simp[cCAr]at hj;subst hj;exact h2
   |1,hj=>simp[cCAr]at hj;subst hj;exact h3
   |2,hj=>simp[cCAr]at hj;subst hj;exact h4
   |j+3,hj=>
    have:=ih.2 j u (by simpa[cCAr]using hj)
    rw[show o+(j+3)=o+3+j from by omega]
    exact this
theorem one_flat2 (xs:List Va):∀u∈xs.flatMap cCVa,u.oneCell'=true:=fun u hu=>by
 obtain⟨x,_,hx⟩:=List.mem_flatMap.1 hu
 simp only[cCVa,List.mem_cons,List.not_mem_nil,or_false]at hx
 rcases hx with rfl|rfl<;>rfl
theorem one_flat3 (xs:List Arr):∀u∈xs.flatMap cCAr,u.oneCell'=true:=fun u hu=>by
 obtain⟨x,_,hx⟩:=List.mem_flatMap.1 hu
 simp only[cCAr,List.mem_cons,List.not_mem_nil,or_false]at hx
 rcases hx with rfl|rfl|rfl<;>rfl
theorem someF_pos {α:Type} {one:List Tk→PR α} {s:List UInt8}:∀(f:Nat) {acc:List α} {l:List Tk} {xs:List α} {r:List Tk},0 < f→someF one s f acc l= .ok xs r→0 < xs.length
 |f+1,acc,l,xs,r,_,h=>by
  unfold someF at h
  obtain⟨x,q,h1,h2⟩:=PR.then_ok h
  split at h2
  ·cases f with
   |zero=>
    unfold someF at h2
    simp only[PR.ok.injEq]at h2
    rw[←h2.1];simp
   |succ f=>exact someF_pos (f+1) (by omega) h2
  ·obtain⟨u,q2,h3,h4⟩:=PR.then_ok h2
   simp only[PR.ok.injEq]at h4
   rw[←h4.1];simp
theorem someP_pos {α:Type} {one:List Tk→PR α} {s:List UInt8} {l:List Tk} {xs:List α} {r:List Tk} (hl:l≠ []) (h:someP one s false l= .ok xs r):0 < xs.length:=by
 unfold someP at h
 simp only[Bool.false_and]at h
 exact someF_pos _ (List.length_pos_iff.2 hl) h
theorem someP_few {α:Type} {one:List Tk→PR α} (hs:Shr one) {s:List UInt8}:∀(f:Nat) {acc:List α} {l:List Tk} {xs:List α} {r:List Tk},someF one s f acc l= .ok xs r→xs.length+r.length≤acc.length+l.length+1
 |0,acc,l,xs,r,h=>by
  unfold someF at h
  simp only[PR.ok.injEq]at h
  rw[←h.1,←h.2];omega
 |f+1,acc,l,xs,r,h=>by
  unfold someF at h
  obtain⟨x,q,h1,h2⟩:=PR.then_ok h
  have hq:=hs _ _ _ h1
  split at h2
  ·rename_i hm
   have hp:=live_pos (mayB_live hm (by decide))
   have:=someP_few hs f h2
   rw[List.length_append,List.length_tail]at this
   simp at this
   omega
  ·obtain⟨u,q2,h3,h4⟩:=PR.then_ok h2
   simp only[PR.ok.injEq]at h4
   have:=takeP_shr h3
   rw[←h4.1,←h4.2,this,List.length_tail]
   simp
   omega
theorem someP_few2 {α:Type} {one:List Tk→PR α} (hs:Shr one) {s:List UInt8} {l:List Tk} {xs:List α} {r:List Tk} (h:someP one s false l= .ok xs r):xs.length+r.length≤l.length+1:=by
 unfold someP at h
 simp only[Bool.false_and]at h
 have:=someP_few hs _ h
 simpa using this
def pcC (x:Prc) (A:Option Addr) (c:Nat) (D:Option Addr) (e:Nat):List Value:= [.string x.nm,.slice A x.params.length c,.slice D x.body.len e,.int .i64 x.at_]
def PcRow (w:World) (S:Nat→Prop):List Prc→List Value→Prop
 | [],cs=>cs= []
 |x::xs,cs=>∃A c D e cs',cs=pcC x A c D e++cs'∧in64 x.at_∧SlR (VaR w S False x.params) x.params.length 24 A c∧SlR (StR w S False x.body) x.body.len 128 D e∧PcRow w S xs cs'
theorem PcRow.imp {w w':World} {S S':Nat→Prop} (hf:SameS S w w') (hs:∀b,S b→S' b):∀ {xs:List Prc} {cs:List Value},PcRow w S xs cs→PcRow w' S' xs cs
 | [],_,h=>h
 |x::xs,cs,h=>by
  obtain⟨A,c,D,e,cs',h0,h1,h2,h3,h5⟩:=h
  exact⟨A,c,D,e,cs',h0,h1,h2.imp fun _ _ h=>VaR.more hs (VaR.keep hf h),h3.imp fun _ _ h=>StR.more hs (StR.keep hf h),PcRow.imp hf hs h5⟩
theorem PcRow.snoc {w:World} {S:Nat→Prop} {y:Prc} {A:Option Addr} {c:Nat} {D:Option Addr} {e:Nat} (hy:in64 y.at_∧SlR (VaR w S False y.params) y.params.length 24 A c∧SlR (StR w S False y.body) y.body.len 128 D e):∀ {xs:List Prc} {cs:List Value},PcRow w S xs cs→PcRow w S (xs++ [y]) (cs++pcC y A c D e)
 | [],cs,h=>by
  have h:cs= []:=h
  subst h
  exact⟨A,c,D,e, [],by simp,hy.1,hy.2.1,hy.2.2,rfl⟩
 |x::xs,cs,h=>by
  obtain⟨A',c',D',e',cs',h0,h1,h2,h3,h5⟩:=h
  exact⟨A',c',D',e',cs'++pcC y A c D e,by rw[h0,List.append_assoc],h1,h2,h3,PcRow.snoc hy h5⟩
theorem PcRow.prR {w:World} {S:Nat→Prop} {g:Nat} (hg:S g):∀ {xs:List Prc} {cs:List Value} {o:Nat},PcRow w S xs cs→(∀j u,cs[j]?=some u→w.cell? ⟨g,o+j,none⟩=some u)→PrR w S False xs g o
 | [],_,_,_,_=>trivial
 |x::xs,cs,o,h,hc=>by
  obtain⟨A,c,D,e,cs',h0,h1,h2,h3,h5⟩:=h
  subst h0
  refine⟨⟨hg,fun h=>absurd h id,h1,hc 0 _ rfl,hc 3 _ rfl⟩,⟨_,_,hc 1 _ rfl,h2⟩,⟨_,_,hc 2 _ rfl,h3⟩,?_⟩
  refine PcRow.prR hg h5 fun j u hj=>?_
  have:=hc (4+j) u (by rw[List.getElem?_append_right (by simp[pcC])];simpa[pcC]using hj)
  rw[Nat.add_assoc]
  exact this

def treeK (vx:List Va×List Arr) (r:List Tk):PR Tre:=
 (procsF r.length [] r).then fun ps r=>(takeP [109,97,105,110] r).then fun _ r=>(blockP 24 r).then fun b r=>if 1 < r.length then .err 90 (hdT r).at_ else .ok ⟨vx.1,vx.2,ps,stsOf b⟩ r
theorem treeP_k (l:List Tk):treeP l=(headF l.length [] [] l).then treeK:=rfl
structure TrX (C:Pcx) (w:World) (R:PR Tre) (vs:List Va) (xs:List Arr) (vV vA:Value) (l:List Tk) (W:World):Prop where
 eq:∃f,R=(headF f vs xs l).then treeK∧l.length≤f
 box:Bk W w.heap.size 27 #[vV,vA,.slice none 0 0,.slice none 0 0]
 rowV:W.ownsRow (w.heap.size+1) 77 2 vV vs.length (vs.flatMap cCVa)
 rowA:W.ownsRow (w.heap.size+1) 61 3 vA xs.length (xs.flatMap cCAr)
 okV:∀x∈vs,okCVa x
 okA:∀x∈xs,okCAr x
 apart:∀b,vV.ownBlock=some b→vA.ownBlock=some b→False
 few:vs.length+xs.length+l.length≤5000
 pa:PaAt C W l 0
 fr:Fr (PT C w.heap.size) w W
theorem TrX.next {C:Pcx} {w wr w2:World} {R:PR Tre} {vs:List Va} {xs:List Arr} {vV vA:Value} {l:List Tk} (hL:C.P < w.heap.size∧C.TB < w.heap.size∧C.W0.heap.size≤w.heap.size) (hx:TrX C w R vs xs vV vA l wr) (hf:Fr C.T wr w2) (hp:PaAt C w2 l 0):TrX C w R vs xs vV vA l w2:=
 ⟨hx.eq,hx.box.fr hf fun e=>by have e:w.heap.size=C.P:=e;omega,row_keep hx.rowV hf (by omega),row_keep hx.rowA hf (by omega),hx.okV,hx.okA,hx.apart,hx.few,hp,hx.fr.trans (PT.l hf)⟩

theorem TrX.stepV {C:Pcx} {w wr w7 w9:World} {R:PR Tre} {vs:List Va} {xs:List Arr} {vV vA:Value} {l r:List Tk} {ps:List Va} {A:Option Addr} {q g cap f:Nat}
  (hL:C.P < w.heap.size∧C.TB < w.heap.size∧C.W0.heap.size≤w.heap.size) (hx:TrX C w R vs xs vV vA l wr)
  (hR:R=(headF f (vs++ps) xs r).then treeK) (hrf:r.length≤f) (hfew:ps.length+r.length≤l.length)
  (hok:∀x∈ps,okCVa x) (hp:PaAt C w7 r 0) (hf:Fr C.T wr w7)
  (hown:w9.ownsRow (w.heap.size+1) 77 2 (.slice (some ⟨g,0,none⟩) (vs.length+ps.length) cap) (vs.length+ps.length) (vs.flatMap cCVa++ps.flatMap cCVa))
  (hg:w7.grownBy w9 vV.ownBlock) (hsp:vV.ownBlock=some g∨g=w7.heap.size) (w10:World)
  (hw10:w10=w9.setCell ⟨w.heap.size,0,none⟩ (.slice (some ⟨g,0,none⟩) (vs.length+ps.length) cap)):
  TrX C w R (vs++ps) xs (.slice (some ⟨g,0,none⟩) (vs.length+ps.length) cap) vA r w10:=by
 have hltV:=hx.rowV.lt
 have hltA:=hx.rowA.lt
 have hbl:=hx.box.lt
 have hsf:=hf.size
 have hsg:=hg.size
 have hgl:=hown.lt g rfl
 have hz:w10.heap.size=w9.heap.size:=by rw[hw10];simp
 have h79:Fr (fun b=>vV.ownBlock=some b) w7 w9:=Fr.grown hg fun g e _=>e
 have h90:Fr (fun b=>b=w.heap.size) w9 w10:=by rw[hw10];exact Fr.own (Fr.refl _ _) _ _
 have hrx:Fr (fun b=>b=C.P∨vV.ownBlock=some b∨b=w.heap.size) wr w10:=((hf.mono fun i _ h=>Or.inl h).trans (h79.mono fun i _ h=>Or.inr (Or.inl h))).trans (h90.mono fun i _ h=>Or.inr (Or.inr h))
 have hne:vA.ownBlock=none∨vA.ownBlock≠some g:=by
  rcases Option.eq_none_or_eq_some vA.ownBlock with h|⟨b,h⟩
  ·exact .inl h
  ·refine .inr fun e=>?_
   rw[h]at e
   have e:b=g:=Option.some.inj e
   subst e
   rcases hsp with h2|h2
   ·exact hx.apart b h2 h
   ·have:=(hltA b h).2;omega
 have hb9:Bk w9 w.heap.size 27 #[vV,vA,.slice none 0 0,.slice none 0 0]:=(hx.box.fr hf fun e=>by have e:w.heap.size=C.P:=e;omega).fr h79 fun e=>by have:=(hltV _ e).1;omega
 have hrowO:w10.ownsRow (w.heap.size+1) 61 3 vA xs.length (xs.flatMap cCAr):=by
  have h1:=row_keep hx.rowA hf (by omega)
  have h2:=h1.kept hg (by
   rcases Option.eq_none_or_eq_some vA.ownBlock with h|⟨b,h⟩
   ·exact .inl h
   ·refine .inr fun e=>?_
    rw[h]at e
    exact hx.apart b e.symm h)
  rw[hw10]
  exact ownsRow_setCell_below h2 (by show w.heap.size < w.heap.size+1;omega) _
 have hrow:w10.ownsRow (w.heap.size+1) 77 2 (.slice (some ⟨g,0,none⟩) (vs.length+ps.length) cap) (vs++ps).length ((vs++ps).flatMap cCVa):=by
  rw[List.length_append,List.flatMap_append,hw10]
  exact ownsRow_setCell_below hown (by show w.heap.size < w.heap.size+1;omega) _
 refine⟨⟨f,hR,hrf⟩,?_,hrow,hrowO,?_,?_,?_,?_,?_,?_⟩
 ·rw[hw10]
  have:=hb9.set_ 0 (.slice (some ⟨g,0,none⟩) (vs.length+ps.length) cap)
  simpa using this
 ·exact fun y hy=>(List.mem_append.1 hy).elim (hx.okV y) (hok y)
 ·exact hx.okA
 ·intro b e1 e2
  have e1:g=b:=by simpa[Value.ownBlock]using e1
  rcases hne with h|h
  ·rw[h]at e2;cases e2
  ·exact h (by rw[e1];exact e2)
 ·have:=hx.few
  simp only[List.length_append]
  omega
 ·exact hp.fr ((h79.mono (T':=fun b=>vV.ownBlock=some b∨b=w.heap.size) fun i _ h=>Or.inl h).trans (h90.mono fun i _ h=>Or.inr h)) (fun e=>by rcases e with e|e;(have:=(hltV _ e).1;omega);omega) (fun e=>by rcases e with e|e;(have:=(hltV _ e).1;omega);omega) (fun i hi e=>by rcases e with e|e;(have:=(hltV _ e).1;omega);omega)
 ·refine((hx.fr.mono (T':=fun b=>b=C.P∨vV.ownBlock=some b∨b=w.heap.size) fun i _ h=>?_).trans hrx).mono fun i hi e=>?_
  ·rcases h with h|h
   ·exact .inl h
   ·exact .inr (.inr h)
  ·rcases e with e|e|e
   ·exact .inl e
   ·have:=(hltV _ e).1;omega
   ·exact .inr e

theorem TrX.stepA {C:Pcx} {w wr w7 w9:World} {R:PR Tre} {vs:List Va} {xs:List Arr} {vV vA:Value} {l r:List Tk} {ps:List Arr} {A:Option Addr} {q g cap f:Nat}
  (hL:C.P < w.heap.size∧C.TB < w.heap.size∧C.W0.heap.size≤w.heap.size) (hx:TrX C w R vs xs vV vA l wr)
  (hR:R=(headF f vs (xs++ps) r).then treeK) (hrf:r.length≤f) (hfew:ps.length+r.length≤l.length)
  (hok:∀x∈ps,okCAr x) (hp:PaAt C w7 r 0) (hf:Fr C.T wr w7)
  (hown:w9.ownsRow (w.heap.size+1) 61 3 (.slice (some ⟨g,0,none⟩) (xs.length+ps.length) cap) (xs.length+ps.length) (xs.flatMap cCAr++ps.flatMap cCAr))
  (hg:w7.grownBy w9 vA.ownBlock) (hsp:vA.ownBlock=some g∨g=w7.heap.size) (w10:World)
  (hw10:w10=w9.setCell ⟨w.heap.size,1,none⟩ (.slice (some ⟨g,0,none⟩) (xs.length+ps.length) cap)):
  TrX C w R vs (xs++ps) vV (.slice (some ⟨g,0,none⟩) (xs.length+ps.length) cap) r w10:=by
 have hltV:=hx.rowV.lt
 have hltA:=hx.rowA.lt
 have hbl:=hx.box.lt
 have hsf:=hf.size
 have hsg:=hg.size
 have hgl:=hown.lt g rfl
 have hz:w10.heap.size=w9.heap.size:=by rw[hw10];simp
 have h79:Fr (fun b=>vA.ownBlock=some b) w7 w9:=Fr.grown hg fun g e _=>e
 have h90:Fr (fun b=>b=w.heap.size) w9 w10:=by rw[hw10];exact Fr.own (Fr.refl _ _) _ _
 have hrx:Fr (fun b=>b=C.P∨vA.ownBlock=some b∨b=w.heap.size) wr w10:=((hf.mono fun i _ h=>Or.inl h).trans (h79.mono fun i _ h=>Or.inr (Or.inl h))).trans (h90.mono fun i _ h=>Or.inr (Or.inr h))
 have hne:vV.ownBlock=none∨vV.ownBlock≠some g:=by
  rcases Option.eq_none_or_eq_some vV.ownBlock with h|⟨b,h⟩
  ·exact .inl h
  ·refine .inr fun e=>?_
   rw[h]at e
   have e:b=g:=Option.some.inj e
   subst e
   rcases hsp with h2|h2
   ·exact hx.apart b h h2
   ·have:=(hltV b h).2;omega
 have hb9:Bk w9 w.heap.size 27 #[vV,vA,.slice none 0 0,.slice none 0 0]:=(hx.box.fr hf fun e=>by have e:w.heap.size=C.P:=e;omega).fr h79 fun e=>by have:=(hltA _ e).1;omega
 have hrowO:w10.ownsRow (w.heap.size+1) 77 2 vV vs.length (vs.flatMap cCVa):=by
  have h1:=row_keep hx.rowV hf (by omega)
  have h2:=h1.kept hg (by
   rcases Option.eq_none_or_eq_some vV.ownBlock with h|⟨b,h⟩
   ·exact .inl h
   ·refine .inr fun e=>?_
    rw[h]at e
    exact hx.apart b h e.symm)
  rw[hw10]
  exact ownsRow_setCell_below h2 (by show w.heap.size < w.heap.size+1;omega) _
 have hrow:w10.ownsRow (w.heap.size+1) 61 3 (.slice (some ⟨g,0,none⟩) (xs.length+ps.length) cap) (xs++ps).length ((xs++ps).flatMap cCAr):=by
  rw[List.length_append,List.flatMap_append,hw10]
  exact ownsRow_setCell_below hown (by show w.heap.size < w.heap.size+1;omega) _
 refine⟨⟨f,hR,hrf⟩,?_,hrowO,hrow,?_,?_,?_,?_,?_,?_⟩
 ·rw[hw10]
  have:=hb9.set_ 1 (.slice (some ⟨g,0,none⟩) (xs.length+ps.length) cap)
  simpa using this
 ·exact hx.okV
 ·exact fun y hy=>(List.mem_append.1 hy).elim (hx.okA y) (hok y)
 ·intro b e1 e2
  have e2:g=b:=by simpa[Value.ownBlock]using e2
  rcases hne with h|h
  ·rw[h]at e1;cases e1
  ·exact h (by rw[e2];exact e1)
 ·have:=hx.few
  simp only[List.length_append]
  omega
 ·exact hp.fr ((h79.mono (T':=fun b=>vA.ownBlock=some b∨b=w.heap.size) fun i _ h=>Or.inl h).trans (h90.mono fun i _ h=>Or.inr h)) (fun e=>by rcases e with e|e;(have:=(hltA _ e).1;omega);omega) (fun e=>by rcases e with e|e;(have:=(hltA _ e).1;omega);omega) (fun i hi e=>by rcases e with e|e;(have:=(hltA _ e).1;omega);omega)
 ·refine((hx.fr.mono (T':=fun b=>b=C.P∨vA.ownBlock=some b∨b=w.heap.size) fun i _ h=>?_).trans hrx).mono fun i hi e=>?_
  ·rcases h with h|h
   ·exact .inl h
   ·exact .inr (.inr h)
  ·rcases e with e|e|e
   ·exact .inl e
   ·have:=(hltA _ e).1;omega
   ·exact .inr e

def treeM (vx:List Va×List Arr) (ps:List Prc) (r:List Tk):PR Tre:=
 (takeP [109,97,105,110] r).then fun _ r=>(blockP 24 r).then fun b r=>if 1 < r.length then .err 90 (hdT r).at_ else .ok ⟨vx.1,vx.2,ps,stsOf b⟩ r
theorem treeK_m (vx:List Va×List Arr) (r:List Tk):treeK vx r=(procsF r.length [] r).then (treeM vx):=rfl
theorem PcRow.len {w:World} {S:Nat→Prop}:∀ {xs:List Prc} {cs:List Value},PcRow w S xs cs→cs.length=xs.length*4
 | [],cs,h=>by
  have h:cs= []:=h
  subst h;rfl
 |x::xs,cs,h=>by
  obtain⟨A,c,D,e,cs',h0,h1,h2,h3,h5⟩:=h
  rw[h0,List.length_append,PcRow.len h5]
  simp[pcC];omega
structure TrY (C:Pcx) (w:World) (R:PR Tre) (vx:List Va×List Arr) (Av:Option Addr) (cv:Nat) (Aa:Option Addr) (ca:Nat) (vP:Value) (ps:List Prc) (cs:List Value) (l:List Tk) (W:World):Prop where
 eq:∃f,R=(procsF f ps l).then (treeM vx)∧l.length≤f
 box:Bk W w.heap.size 27 #[.slice Av vx.1.length cv,.slice Aa vx.2.length ca,vP,.slice none 0 0]
 vars:SlR (VaR W (NewR (w.heap.size+1) vP W) False vx.1) vx.1.length 24 Av cv
 arrs:SlR (ArR W (NewR (w.heap.size+1) vP W) False vx.2) vx.2.length 32 Aa ca
 row:W.ownsRow (w.heap.size+1) 63 4 vP ps.length cs
 rows:PcRow W (NewR (w.heap.size+1) vP W) ps cs
 few:ps.length+l.length≤5000
 pa:PaAt C W l 0
 fr:Fr (PT C w.heap.size) w W
theorem TrY.start {C:Pcx} {w W:World} {R:PR Tre} {vs:List Va} {xs:List Arr} {vV vA:Value} {l:List Tk} (hx:TrX C w R vs xs vV vA l W) (hR:R=treeK (vs,xs) l):
  ∃Av cv Aa ca,vV= .slice Av vs.length cv∧vA= .slice Aa xs.length ca∧TrY C w R (vs,xs) Av cv Aa ca (.slice none 0 0) [] [] l W:=by
 have hfw:=hx.few
 obtain⟨Av,cv,hv,hsv⟩:=someVa_end hx.rowV hx.okV (by omega)
 obtain⟨Aa,ca,ha,hsa⟩:=someAr_end hx.rowA hx.okA (by omega)
 have hbox:=hx.box
 rw[hv,ha]at hbox
 have hS:∀b,New (w.heap.size+1) W b→NewR (w.heap.size+1) (.slice none 0 0) W b:=fun b hb=>⟨hb.1,hb.2,by simp[Value.ownBlock]⟩
 rw[treeK_m]at hR
 exact⟨Av,cv,Aa,ca,hv,ha,⟨_,hR,lrq _⟩,hbox,hsv.imp fun _ _ h=>VaR.more hS h,hsa.imp fun _ _ h=>ArR.more hS h,World.ownsRow_nil _ _ _ _,rfl,by simpa using (by omega:l.length≤5000),hx.pa,hx.fr⟩
theorem TrY.next {C:Pcx} {w wr w2:World} {R:PR Tre} {vx:List Va×List Arr} {Av Aa:Option Addr} {cv ca:Nat} {vP:Value} {ps:List Prc} {cs:List Value} {l:List Tk} (hL:C.P < w.heap.size∧C.TB < w.heap.size∧C.W0.heap.size≤w.heap.size) (hx:TrY C w R vx Av cv Aa ca vP ps cs l wr) (hf:Fr C.T wr w2) (hp:PaAt C w2 l 0):
  TrY C w R vx Av cv Aa ca vP ps cs l w2:=by
 have hs:=hf.size
 have hsame:SameS (NewR (w.heap.size+1) vP wr) wr w2:=hf.same fun b hb=>⟨hb.2.1,fun e=>by have e:b=C.P:=e;have:=hb.1;omega⟩
 have hmore:∀b,NewR (w.heap.size+1) vP wr b→NewR (w.heap.size+1) vP w2 b:=fun b hb=>⟨hb.1,ltq hb.2.1 hs,hb.2.2⟩
 exact⟨hx.eq,hx.box.fr hf fun e=>by have e:w.heap.size=C.P:=e;omega,hx.vars.imp fun _ _ h=>VaR.more hmore (VaR.keep hsame h),hx.arrs.imp fun _ _ h=>ArR.more hmore (ArR.keep hsame h),row_keep hx.row hf (by omega),hx.rows.imp hsame hmore,hx.few,hp,hx.fr.trans (PT.l hf)⟩
theorem TrY.step {C:Pcx} {w wr w7 w9:World} {R:PR Tre} {vx:List Va×List Arr} {Av Aa:Option Addr} {cv ca:Nat} {vP:Value} {ps:List Prc} {cs:List Value} {l r2:List Tk} {x:Prc} {A D:Option Addr} {c e g cap f m:Nat} (hm:m=ps.length)
  (hL:C.P < w.heap.size∧C.TB < w.heap.size∧C.W0.heap.size≤w.heap.size) (hx:TrY C w R vx Av cv Aa ca vP ps cs l wr)
  (hR:R=(procsF f (ps++ [x]) r2).then (treeM vx)) (hrf:r2.length≤f) (hr2:r2.length < l.length)
  (hv:in64 x.at_∧SlR (VaR w7 (New wr.heap.size w7) False x.params) x.params.length 24 A c∧SlR (StR w7 (New wr.heap.size w7) False x.body) x.body.len 128 D e)
  (hp:PaAt C w7 r2 0) (hf:Fr C.T wr w7) (W:World) (hwa:Fr NoT w7 W)
  (hown:w9.ownsRow (w.heap.size+1) 63 4 (.slice (some ⟨g,0,none⟩) (m+1) cap) (m+1) (cs++pcC x A c D e))
  (hg:W.grownBy w9 vP.ownBlock) (hsp:vP.ownBlock=some g∨g=W.heap.size) (w10:World)
  (hw10:w10=w9.setCell ⟨w.heap.size,2,none⟩ (.slice (some ⟨g,0,none⟩) (m+1) cap)):
  TrY C w R vx Av cv Aa ca (.slice (some ⟨g,0,none⟩) (ps.length+1) cap) (ps++ [x]) (cs++pcC x A c D e) r2 w10:=by
 subst hm
 have hlt:=hx.row.lt
 have hbl:=hx.box.lt
 have hsF:=hx.fr.size
 have hsf:=hf.size
 have hsw:=hwa.size
 have hsg:=hg.size
 have hcl:=hx.rows.len
 have hgl:=hown.lt g rfl
 have hglb:g≠w.heap.size:=by omega
 have hgP:g≠C.P:=by omega
 have hz10:w10.heap.size=w9.heap.size:=by rw[hw10];simp
 have hf90:Fr (fun b=>b=w.heap.size) w9 w10:=by rw[hw10];exact Fr.own (Fr.refl _ _) _ _
 have hW9:Fr (fun b=>vP.ownBlock=some b) W w9:=Fr.grown hg fun g e _=>e
 have h79:Fr (fun b=>vP.ownBlock=some b) w7 w9:=hwa.any.trans hW9
 have h7x:Fr (fun b=>vP.ownBlock=some b∨b=g∨b=w.heap.size) w7 w10:=(h79.mono fun i _ h=>Or.inl h).trans (hf90.mono fun i _ h=>Or.inr (Or.inr h))
 have hrx:Fr (fun b=>b=C.P∨vP.ownBlock=some b∨b=g∨b=w.heap.size) wr w10:=(hf.mono fun i _ h=>Or.inl h).trans (h7x.mono fun i _ h=>Or.inr h)
 have hgn:∀b,b < w7.heap.size→vP.ownBlock≠some b→b≠g:=fun b hb hn e=>by
  subst e
  rcases hsp with h|h
  ·exact hn h
  ·omega
 have hvl:vP.ownBlock≠some w.heap.size:=fun e=>by have:=(hlt _ e).1;omega
 have hvP:vP.ownBlock≠some C.P:=fun e=>by have:=(hlt _ e).1;omega
 have hvT:vP.ownBlock≠some C.TB:=fun e=>by have:=(hlt _ e).1;omega
 have hsame:SameS (NewR (w.heap.size+1) vP wr) wr w10:=hrx.same fun b hb=>⟨hb.2.1,fun e=>by
  have h1:=hb.1
  have h2:=hb.2.1
  have h3:=hb.2.2
  rcases e with e|e|e|e
  ·omega
  ·exact h3 e
  ·exact hgn b (by omega) h3 e
  ·omega⟩
 have hmore:∀b,NewR (w.heap.size+1) vP wr b→NewR (w.heap.size+1) (.slice (some ⟨g,0,none⟩) (ps.length+1) cap) w10 b:=fun b hb=>⟨hb.1,by have:=hb.2.1;omega,fun e=>by
  have h2:=hb.2.1
  have e:g=b:=by simpa[Value.ownBlock]using e
  exact hgn b (by omega) hb.2.2 e.symm⟩
 have hsame7:SameS (New wr.heap.size w7) w7 w10:=h7x.same fun b hb=>⟨hb.2,fun e=>by
  have h1:=hb.1
  have h2:=hb.2
  rcases e with e|e|e
  ·have:=(hlt _ e).2;omega
  ·exact hgn b h2 (fun e=>by have:=(hlt _ e).2;omega) e
  ·omega⟩
 have hmore7:∀b,New wr.heap.size w7 b→NewR (w.heap.size+1) (.slice (some ⟨g,0,none⟩) (ps.length+1) cap) w10 b:=fun b hb=>⟨by have:=hb.1;omega,by have:=hb.2;omega,fun e=>by
  have h1:=hb.1
  have h2:=hb.2
  have e:g=b:=by simpa[Value.ownBlock]using e
  exact hgn b h2 (fun e=>by have:=(hlt _ e).2;omega) e.symm⟩
 refine⟨⟨f,hR,hrf⟩,?_,hx.vars.imp fun _ _ h=>VaR.more hmore (VaR.keep hsame h),hx.arrs.imp fun _ _ h=>ArR.more hmore (ArR.keep hsame h),?_,?_,?_,?_,?_⟩
 ·have h1:Bk w9 w.heap.size 27 #[.slice Av vx.1.length cv,.slice Aa vx.2.length ca,vP,.slice none 0 0]:=(hx.box.fr hf (fun e=>by have e:w.heap.size=C.P:=e;omega)).fr h79 hvl
  rw[hw10]
  simpa using h1.set_ 2 (.slice (some ⟨g,0,none⟩) (ps.length+1) cap)
 ·rw[hw10]
  have:=ownsRow_setCell_below hown (a:=⟨w.heap.size,2,none⟩) (by show w.heap.size < w.heap.size+1;omega) (.slice (some ⟨g,0,none⟩) (ps.length+1) cap)
  simpa using this
 ·exact PcRow.snoc ⟨hv.1,hv.2.1.imp fun _ _ h=>VaR.more hmore7 (VaR.keep hsame7 h),hv.2.2.imp fun _ _ h=>StR.more hmore7 (StR.keep hsame7 h)⟩ (hx.rows.imp hsame hmore)
 ·have:=hx.few
  rw[List.length_append,List.length_cons,List.length_nil]
  omega
 ·refine hp.fr h7x (fun e=>?_) (fun e=>?_) (fun i hi e=>?_)
  ·rcases e with e|e|e
   ·exact hvP e
   ·exact hgP e.symm
   ·omega
  ·rcases e with e|e|e
   ·exact hvT e
   ·omega
   ·omega
  ·rcases e with e|e|e
   ·have:=(hlt _ e).1;omega
   ·omega
   ·omega
 ·refine((hx.fr.mono (T':=fun b=>b=C.P∨vP.ownBlock=some b∨b=g∨b=w.heap.size) fun i _ h=>?_).trans hrx).mono fun i hi e=>?_
  ·rcases h with h|h
   ·exact .inl h
   ·exact .inr (.inr (.inr h))
  ·rcases e with e|e|e|e
   ·exact .inl e
   ·have:=(hlt _ e).1;omega
   ·omega
   ·exact .inr e
theorem pc_end {L:Nat} {w:World} {v:Value} {ps:List Prc} {cs:List Value} {S:Nat→Prop} (hr:w.ownsRow L 63 4 v ps.length cs) (hx:PcRow w S ps cs) (hs:∀b,S b→L≤b∧b < w.heap.size) (hf:ps.length≤5001):∃Ap cp,v= .slice Ap ps.length cp∧SlR (PrR w (New L w) False ps) ps.length 72 Ap cp:=by
 rcases hr.2 with⟨rfl,h0⟩|⟨g,cap,cur,rfl,hb,hg,hn,hc,hcs,ht⟩
 ·exact⟨none,0,by rw[h0],by rw[h0];exact⟨lrq _,⟨by decide,by omega⟩,fun h=>absurd h (Nat.lt_irrefl 0)⟩⟩
 ·have hl:g < w.heap.size:=(Array.getElem?_eq_some_iff.1 hg).1
  have hcc:cap≤9223372036854775807:=by unfold maxLen at hc;omega
  suffices hx2:PrR w (New L w) False ps g 0 by
   exact⟨some ⟨g,0,none⟩,cap,rfl,hn,⟨hcc,by omega⟩,fun _=>⟨g,0,rfl,hx2⟩⟩
  refine PcRow.prR ⟨hb,hl⟩ (PcRow.imp (SameS.refl _ _) hs hx) fun j u hj=>?_
  have:=hr.cells (g:=g) rfl j u hj
  have hadd:(⟨g,0,none⟩:Addr).add j=⟨g,0+j,none⟩:=by
   rw[Nat.zero_add];unfold Addr.add;split<;>simp_all
  rw[hadd]at this
  exact this
def TrV (C:Pcx) (r:PR Tre) (W:World) (e:Ending) (w':World):Prop:=
 match r with
 | .err c a=>e=wrongE c a∧Fr C.T W w'
 | .ok t l=>∃Av Aa Ap Am cv ca cp cm,e= .returned (trV t Av Aa Ap Am cv ca cp cm)∧TrR w' (New W.heap.size w') False t Av Aa Ap Am cv ca cp cm∧Fr C.T W w'
theorem PT.drop {C:Pcx} {w w7:World} (hf:Fr (PT C w.heap.size) w w7):Fr C.T w w7:=
 hf.mono fun i hi e=>by
  rcases e with e|e
  ·exact e
  ·omega
theorem tree_bad {C:Pcx} {w w7:World} {c a:Int} (hf:Fr (PT C w.heap.size) w w7):TrV C (.err c a) w (wrongE c a) w7:=⟨rfl,PT.drop hf⟩
theorem tree_fin {C:Pcx} {w wr w7 w10:World} {R:PR Tre} {vx:List Va×List Arr} {Av Aa:Option Addr} {cv ca:Nat} {vP:Value} {ps:List Prc} {cs:List Value} {l r:List Tk} {b:List St} {Am:Option Addr} {cm:Nat}
  (hL:C.P < w.heap.size∧C.TB < w.heap.size∧C.W0.heap.size≤w.heap.size) (hx:TrY C w R vx Av cv Aa ca vP ps cs l wr) (hf:Fr C.T wr w7)
  (hv:SlR (StR w7 (New wr.heap.size w7) False (stsOf b)) (stsOf b).len 128 Am cm) (hw10:w10=w7.setCell ⟨w.heap.size,3,none⟩ (.slice Am (stsOf b).len cm)):
  ∃Ap cp,vP= .slice Ap ps.length cp∧Bk w10 w.heap.size 27 #[.slice Av vx.1.length cv,.slice Aa vx.2.length ca,.slice Ap ps.length cp,.slice Am (stsOf b).len cm]∧TrV C (.ok ⟨vx.1,vx.2,ps,stsOf b⟩ r) w (.returned (.agg #[.slice Av vx.1.length cv,.slice Aa vx.2.length ca,.slice Ap ps.length cp,.slice Am (stsOf b).len cm])) w10:=by
 have hfw:=hx.few
 have hsF:=hx.fr.size
 have hsf:=hf.size
 have hbl:=hx.box.lt
 have hz:w10.heap.size=w7.heap.size:=by rw[hw10];simp
 have h70:Fr (fun b=>b=w.heap.size) w7 w10:=by rw[hw10];exact Fr.own (Fr.refl _ _) _ _
 obtain⟨Ap,cp,hvP,hsp⟩:=pc_end (L:=w.heap.size+1) hx.row hx.rows (fun b hb=>⟨hb.1,hb.2.1⟩) (by omega)
 have hall:Fr (fun b=>b=C.P∨b=w.heap.size) wr w10:=(hf.mono fun i _ h=>Or.inl h).trans (h70.mono fun i _ h=>Or.inr h)
 have hsame:SameS (NewR (w.heap.size+1) vP wr) wr w10:=hall.same fun b hb=>⟨hb.2.1,fun e=>by have:=hb.1;rcases e with e|e<;>omega⟩
 have hsamP:SameS (New (w.heap.size+1) wr) wr w10:=hall.same fun b hb=>⟨hb.2,fun e=>by have:=hb.1;rcases e with e|e<;>omega⟩
 have hsam7:SameS (New wr.heap.size w7) w7 w10:=h70.same fun b hb=>⟨hb.2,fun e=>by have e:b=w.heap.size:=e;have:=hb.1;omega⟩
 have hm1:∀b,NewR (w.heap.size+1) vP wr b→New w.heap.size w10 b:=fun b hb=>⟨by have:=hb.1;omega,by have:=hb.2.1;omega⟩
 have hm2:∀b,New (w.heap.size+1) wr b→New w.heap.size w10 b:=fun b hb=>⟨by have:=hb.1;omega,by have:=hb.2;omega⟩
 have hm3:∀b,New wr.heap.size w7 b→New w.heap.size w10 b:=fun b hb=>⟨by have:=hb.1;omega,by have:=hb.2;omega⟩
 refine⟨Ap,cp,hvP,?_,Av,Aa,Ap,Am,cv,ca,cp,cm,rfl,⟨hx.vars.imp fun _ _ h=>VaR.more hm1 (VaR.keep hsame h),hx.arrs.imp fun _ _ h=>ArR.more hm1 (ArR.keep hsame h),hsp.imp fun _ _ h=>PrR.more hm2 (PrR.keep hsamP h),hv.imp fun _ _ h=>StR.more hm3 (StR.keep hsam7 h)⟩,?_⟩
 ·have h1:=hx.box.fr hf (fun e=>by have e:w.heap.size=C.P:=e;omega)
  rw[hvP]at h1
  rw[hw10]
  simpa using h1.set_ 3 (.slice Am (stsOf b).len cm)
 ·exact PT.drop ((hx.fr.trans (hall.mono fun i _ h=>h)))

theorem add_none (b o j:Nat):(⟨b,o,none⟩:Addr).add j=⟨b,o+j,none⟩:=by unfold Addr.add;split<;>simp_all
theorem lsA_ways {C:Pcx} {d:Nat} {r:PR (List Arr)} {W w':World} {e:Ending} (h:EndV C d lsVAr r W e w'):
  (∃(xs:List Arr) (l:List Tk) (A:Option Addr) (c:Nat),r= .ok xs l∧e= .returned (.slice A xs.length c)∧SlR (ArR w' (New W.heap.size w') False xs) xs.length 32 A c∧PaAt C w' l d∧Fr C.T W w')∨
   ∃c a,r= .err c a∧e= .panicked [{v:= .iface 161 (.agg #[.int .i64 c,.int .i64 a]),recovered:=false}]∧Fr C.T W w':=by
 unfold EndV at h
 cases r with
 |err c a=>exact .inr ⟨c,a,rfl,h⟩
 |ok x l=>
  obtain⟨v,rfl,⟨A,c,rfl,hs⟩,hp,hf⟩:=h
  exact .inl ⟨x,l,A,c,rfl,rfl,hs,hp,hf⟩
theorem sizedP_shr:Shr sizedP:=fun l y r e=>by
 obtain⟨x,q,h1,h2⟩:=PR.then_ok e
 obtain⟨u,q2,h3,h4⟩:=PR.then_ok h2
 obtain⟨n,q3,h5,h6⟩:=PR.then_ok h4
 obtain⟨u2,q4,h7,h8⟩:=PR.then_ok h6
 simp only[PR.ok.injEq]at h8
 have e1:=nameP_shr h1
 have e2:=takeP_shr h3
 have e4:=takeP_shr h7
 have e3:q3=q2.tail:=by
  unfold numberP at h5
  split at h5
  ·simp only[PR.ok.injEq]at h5;exact h5.2.symm
  ·simp at h5
 rw[←h8.2,e4,e3,e2,e1]
 simp only[List.length_tail]
 omega
theorem pcV_ways {C:Pcx} {d:Nat} {r:PR Prc} {W w':World} {e:Ending} (h:EndV C d PcV r W e w'):
  (∃(x:Prc) (l:List Tk) (A:Option Addr) (c:Nat) (D:Option Addr) (q:Nat),r= .ok x l∧e= .returned (.agg #[.string x.nm,.slice A x.params.length c,.slice D x.body.len q,.int .i64 x.at_])∧
   (in64 x.at_∧SlR (VaR w' (New W.heap.size w') False x.params) x.params.length 24 A c∧SlR (StR w' (New W.heap.size w') False x.body) x.body.len 128 D q)∧PaAt C w' l d∧Fr C.T W w')∨
   ∃c a,r= .err c a∧e= .panicked [{v:= .iface 161 (.agg #[.int .i64 c,.int .i64 a]),recovered:=false}]∧Fr C.T W w':=by
 unfold EndV at h
 cases r with
 |err c a=>exact .inr ⟨c,a,rfl,h⟩
 |ok x l=>
  obtain⟨v,rfl,⟨A,c,D,q,rfl,hs⟩,hp,hf⟩:=h
  exact .inl ⟨x,l,A,c,D,q,rfl,rfl,hs,hp,hf⟩
set_option maxRecDepth 100000 in
set_option maxHeartbeats 3200000 in
theorem tree_any (C:Pcx) (l:List Tk) (w:World) (hk:C.Ok) (h:PaAt C w l 0):
  Calls Tryz.prog 63 #[.pointer (some ⟨C.P,0,none⟩)] w (TrV C (treeP l) w):=by
 have hmf:= @makeF Tryz.prog
 obtain⟨iV,hi,hz0,hz1,hz2⟩:=info_parts infoVa
 have HIV:=hdq (aiq hi (aiq hz0 (aiq hz1 hz2)))
 clear hi hz0 hz1 hz2
 obtain⟨iA,hi,hz0,hz1,hz2⟩:=info_parts infoAr
 have HIA:=hdq (aiq hi (aiq hz0 (aiq hz1 hz2)))
 clear hi hz0 hz1 hz2
 obtain⟨iP,hi,hz0,hz1,hz2⟩:=info_parts infoPc
 have HIP:=hdq (aiq hi (aiq hz0 (aiq hz1 hz2)))
 clear hi hz0 hz1 hz2
 obtain⟨R,hR⟩:=nmq (treeP l)
 rw[←hR]
 rw[treeP_k]at hR
 have hL:=h.lts
 have hfl:l.length≤5000:=by
  obtain⟨j,q,e,_⟩:=h.at_
  have:=hk.few
  rw[e,List.length_drop];omega
 obtain⟨w1,hw1⟩:=nmq (w.alloc (.cells #[.slice none 0 0,.slice none 0 0,.slice none 0 0,.slice none 0 0] 27))
 have hstart:TrX C w R [] [] (.slice none 0 0) (.slice none 0 0) l w1:=by
  rw[hw1]
  exact⟨⟨_,hR,lrq _⟩,Bk.new _ _ _,World.ownsRow_nil _ _ _ _,World.ownsRow_nil _ _ _ _,fun _ h=>by simp at h,fun _ h=>by simp at h,fun b h=>by simp[Value.ownBlock]at h,by simpa using hfl,h.alloc _,(Fr.refl _ _).alloc _⟩
 have HST:=hdq hstart
 have HK:=hdq hk
 have HL:=hdq hL
 have HW1:=hdq hw1
 clear hR h hk hL hfl hstart hw1
 go_enter Tryz.func63,Tryz.ntmps63
 go_wp2_with fail
 rw[show w.alloc (.cells #[.slice none 0 0,.slice none 0 0,.slice none 0 0,.slice none 0 0] 27)=w1 from HW1.out.symm]
 go_step3
 go_wp2_with fail
 go_step3
 go_wp2_with fail
 go_loopw [3,14] (fun _ _ wr=>∃(vs:List Va) (xs:List Arr) (vV vA:Value) (r:List Tk),Hid (TrX C w R vs xs vV vA r wr)) (fun _ _ wr=>lenP C wr)
 case atStart=>exact⟨[], [],_,_,l,HST⟩
 case round=>
  obtain⟨vs,xs,vV,vA,r,hx⟩:=hrel
  have HM:=hdq (may_any C [118,97,114] r 0 wr HK.out hx.out.pa (by decide))
  go_wp2_with fail
  refine HM.out.mono ?_
  rintro _ w2 ⟨rfl,hp,hf⟩
  obtain⟨f,hRf,hfr⟩:=hx.out.eq
  have hrl:0 < r.length:=List.length_pos_iff.2 hx.out.pa.ne
  obtain⟨f,rfl⟩:∃f',f=f'+1:=⟨f - 1,by omega⟩
  unfold headF at hRf
  cases hm:mayB [118,97,114] r
  rotate_left
  ·rw[hm]at hRf hp
   replace hp:PaAt C w2 r.tail 0:=hp
   replace hRf:R=((someP nameP [59] false r.tail).then fun v r=>headF f (vs++v) xs r).then treeK:=hRf
   have HRF:=hdq hRf
   have HFR:=hdq hfr
   have HNE:=hdq hp.ne
   have HLN:=hdq (show r.length=r.tail.length+1 by rw[List.length_tail];omega)
   have HF2:=hdq hf
   have hbx:=hx.out.box.fr hf (fun e=>by have e:w.heap.size=C.P:=e;have:=HL.out;omega)
   have t02:=hbx.cell 0
   have f02:=hbx.frozen 0
   simp only[getsL]at t02
   have HSM:=hdq (someVa_any C nameP [59] false 131 #[.pointer (some ⟨C.P,0,none⟩)] #[] r.tail 0 w2.drew HK.out (hp.fr (T:=NoT) (Fr.drew (Fr.refl _ _)) id id fun _ _=>id) (fun l x r e=>by rw[nameP_shr e,List.length_tail];omega) (by decide) (enters_of Tryz.func131 (by kernel_rfl) rfl) fun W _ l' hp'=>by
    simpa using pname_any C l' 0 W HK.out hp')
   clear hp hf hRf hfr hm hbx hrl
   go_wp2_with fail
   go_region_law
    (first
     |(refine at_value _ _ _ (by rfl) ?_
       go_simp
       go_at_call 130
       with_reducible refine HSM.out.mono ?_
       intro e w7 hE
       rcases lsV_ways hE with⟨ps,r2,B,q,hX,rfl,hv,hp,hf⟩|⟨c,a2,hX,rfl,hf⟩
       case inr=>
        have hbad:TrV C R w (wrongE c a2) w7:=by rw[HRF.out,hX];exact tree_bad (hx.out.fr.trans (PT.l (HF2.out.trans ((Fr.drew (Fr.refl C.T w2)).trans hf))))
        exact aiq rfl hbad
       have hf7:Fr C.T wr w7:=HF2.out.trans ((Fr.drew (Fr.refl C.T w2)).trans hf)
       have hpos:=someP_pos HNE.out hX
       obtain⟨bb,oo,rfl,hat⟩:=hv.2.2 hpos
       have hcl:=hat.cells
       have hL:=HL.out
       have hbx7:=hx.out.box.fr hf7 (fun e=>by have e:w.heap.size=C.P:=e;omega)
       have t07:=hbx7.cell 0
       have f07:=hbx7.frozen 0
       simp only[getsL]at t07
       have hfw:ps.length+r2.length≤r.length:=by
        have h1:=someP_few2 (fun l x r e=>by rw[nameP_shr e,List.length_tail];omega) hX
        have h2:=HLN.out
        omega
       have HX:=hdq hX
       have HP:=hdq hp
       have HF7:=hdq hf7
       have HCL:=hdq hcl
       have HROW:=hdq (row_keep hx.out.rowV hf7 (by omega))
       have hsz7:=hf7.size
       have hwr:=hx.out.fr.size
       have hbxl:=hx.out.box.lt
       have hqm:=hv.1
       have hqb:=hv.2.1
       have hfq:=hx.out.few
       have hrn:=hx.out.rowV.lt
       clear hX hv hp hf hf7 hat hcl hbx7 hL
       dsimp only)
     |(refine step_append_lies _ (by rfl) _ _ _ (by rfl) (w.heap.size+1) 77 iV (.agg #[.string ⟨#[]⟩,.int .i64 0]) 2 24 Tryz.underlying22 HIV.out.1 HIV.out.2.1 HIV.out.2.2.1 HIV.out.2.2.2 rfl (by decide) vV vs.length (vs.flatMap cCVa) (by rfl) HROW.out ⟨bb,oo,none⟩ ps.length q (ps.flatMap cCVa) (by rfl) (flat2_len ps) (fun j u hu=>by rw[add_none];exact HCL.out.2 j u hu) (one_flat2 ps) hpos (by unfold maxLen;omega) (by omega) (by omega) w7.heap.size rfl ?_
       intro gg cap w9 hown hgrow hsp hlt
       have hl9:=(hgrow.cell_far ⟨w.heap.size,0,none⟩ (by show w.heap.size < _;omega) (fun e=>by have:=(hrn w.heap.size e.symm).1;omega)).trans t07
       have hlf9:=(hgrow.frozen_far ⟨w.heap.size,0,none⟩ (by show w.heap.size < _;omega) (fun e=>by have:=(hrn w.heap.size e.symm).1;omega)).trans f07
       have HE:=hdq (fun w10 h10=>TrX.stepV (A:=none) (q:=0) (w10:=w10) (f:=f) HL.out hx.out (by rw[HRF.out,HX.out];rfl) (by have:=HFR.out;omega) hfw HCL.out.1 HP.out HF7.out hown hgrow hsp h10)
       clear hown hgrow hsp hlt))
   all_goals
    have hbx:=HE.out _ (by with_reducible rfl)
    have HBX:=hdq hbx
    have HLM:=hdq (show lenP C _ < lenP C wr from by rw[hbx.pa.lenP,hx.out.pa.lenP];have:=HLN.out;omega)
    clear hbx HE hl9 hlf9 t07 f07
    go_wp2_with fail
    go_roundw
    case rel=>exact⟨_,_,_,_,_,HBX⟩
    case measure=>exact HLM.out
  ·rw[hm]at hRf hp
   replace hp:PaAt C w2 r 0:=hp
   have HF1:=hdq hf
   have HM2:=hdq (may_any C [97,114,114,97,121] r 0 w2 HK.out hp (by decide))
   have HFR:=hdq hfr
   have HRF0:=hdq hRf
   clear hp hf hRf hfr hm
   go_wp2_with fail
   refine HM2.out.mono ?_
   rintro _ w3 ⟨rfl,hp,hf⟩
   have hRf:=HRF0.out
   cases hm:mayB [97,114,114,97,121] r
   rotate_left
   ·rw[hm]at hRf hp
    replace hp:PaAt C w3 r.tail 0:=hp
    replace hRf:R=((someP sizedP [59] false r.tail).then fun x r=>headF f vs (xs++x) r).then treeK:=hRf
    have HRF:=hdq hRf
    have HNE:=hdq hp.ne
    have HLN:=hdq (show r.length=r.tail.length+1 by rw[List.length_tail];omega)
    have HF2:=hdq (HF1.out.trans hf)
    obtain⟨w2,hw2⟩:=nmq w3
    rw[←hw2]at HF2 hp ⊢
    clear hw2 hf
    have hbx:=hx.out.box.fr HF2.out (fun e=>by have e:w.heap.size=C.P:=e;have:=HL.out;omega)
    have t02:=hbx.cell 1
    have f02:=hbx.frozen 1
    simp only[getsL]at t02
    have HSM:=hdq (someAr_any C sizedP [59] false 133 #[.pointer (some ⟨C.P,0,none⟩)] #[] r.tail 0 w2.drew HK.out (hp.fr (T:=NoT) (Fr.drew (Fr.refl _ _)) id id fun _ _=>id) sizedP_shr (by decide) (enters_of Tryz.func133 (by kernel_rfl) rfl) fun W _ l' hp'=>by
     simpa using sized_any C l' 0 W HK.out hp')
    clear hp hRf hm hbx hrl HRF0
    go_wp2_with fail
    go_region_law
     (first
      |(refine at_value _ _ _ (by rfl) ?_
        go_simp
        go_at_call 132
        with_reducible refine HSM.out.mono ?_
        intro e w7 hE
        rcases lsA_ways hE with⟨ps,r2,B,q,hX,rfl,hv,hp,hf⟩|⟨c,a2,hX,rfl,hf⟩
        case inr=>
         have hbad:TrV C R w (wrongE c a2) w7:=by rw[HRF.out,hX];exact tree_bad (hx.out.fr.trans (PT.l (HF2.out.trans ((Fr.drew (Fr.refl C.T w2)).trans hf))))
         exact aiq rfl hbad
        have hf7:Fr C.T wr w7:=HF2.out.trans ((Fr.drew (Fr.refl C.T w2)).trans hf)
        have hpos:=someP_pos HNE.out hX
        obtain⟨bb,oo,rfl,hat⟩:=hv.2.2 hpos
        have hcl:=hat.cells
        have hL:=HL.out
        have hbx7:=hx.out.box.fr hf7 (fun e=>by have e:w.heap.size=C.P:=e;omega)
        have t07:=hbx7.cell 1
        have f07:=hbx7.frozen 1
        simp only[getsL]at t07
        have hfw:ps.length+r2.length≤r.length:=by
         have h1:=someP_few2 sizedP_shr hX
         have h2:=HLN.out
         omega
        have HX:=hdq hX
        have HP:=hdq hp
        have HF7:=hdq hf7
        have HCL:=hdq hcl
        have HROW:=hdq (row_keep hx.out.rowA hf7 (by omega))
        have hsz7:=hf7.size
        have hwr:=hx.out.fr.size
        have hbxl:=hx.out.box.lt
        have hqm:=hv.1
        have hqb:=hv.2.1
        have hfq:=hx.out.few
        have hrn:=hx.out.rowA.lt
        clear hX hv hp hf hf7 hat hcl hbx7 hL
        dsimp only)
      |(refine step_append_lies _ (by rfl) _ _ _ (by rfl) (w.heap.size+1) 61 iA (.agg #[.string ⟨#[]⟩,.int .i64 0,.int .i64 0]) 3 32 Tryz.underlying23 HIA.out.1 HIA.out.2.1 HIA.out.2.2.1 HIA.out.2.2.2 rfl (by decide) vA xs.length (xs.flatMap cCAr) (by rfl) HROW.out ⟨bb,oo,none⟩ ps.length q (ps.flatMap cCAr) (by rfl) (flat3_len ps) (fun j u hu=>by rw[add_none];exact HCL.out.2 j u hu) (one_flat3 ps) hpos (by unfold maxLen;omega) (by omega) (by omega) w7.heap.size rfl ?_
        intro gg cap w9 hown hgrow hsp hlt
        have hl9:=(hgrow.cell_far ⟨w.heap.size,1,none⟩ (by show w.heap.size < _;omega) (fun e=>by have:=(hrn w.heap.size e.symm).1;omega)).trans t07
        have hlf9:=(hgrow.frozen_far ⟨w.heap.size,1,none⟩ (by show w.heap.size < _;omega) (fun e=>by have:=(hrn w.heap.size e.symm).1;omega)).trans f07
        have HE:=hdq (fun w10 h10=>TrX.stepA (A:=none) (q:=0) (w10:=w10) (f:=f) HL.out hx.out (by rw[HRF.out,HX.out];rfl) (by have:=HFR.out;omega) hfw HCL.out.1 HP.out HF7.out hown hgrow hsp h10)
        clear hown hgrow hsp hlt))
    all_goals
     have hbx:=HE.out _ (by with_reducible rfl)
     have HBX:=hdq hbx
     have HLM:=hdq (show lenP C _ < lenP C wr from by rw[hbx.pa.lenP,hx.out.pa.lenP];have:=HLN.out;omega)
     clear hbx HE hl9 hlf9 t07 f07
     go_wp2_with fail
     go_roundw
     case rel=>exact⟨_,_,_,_,_,HBX⟩
     case measure=>exact HLM.out
   ·rw[hm]at hRf hp
    replace hp:PaAt C w3 r 0:=hp
    replace hRf:R=treeK (vs,xs) r:=hRf
    obtain⟨Av,cv,Aa,ca,hvV,hvA,hy⟩:=TrY.start (TrX.next HL.out hx.out (HF1.out.trans hf) hp) hRf
    have HST2:=hdq hy
    clear hp hf hRf hm hvV hvA hy HRF0 HFR HM2 HF1 HM HST hrl hx
    go_wp2_with fail
    try go_step3
    try go_wp2_with fail
    go_loopw [25] (fun _ wr=>∃(vP:Value) (ps:List Prc) (cs:List Value) (r:List Tk),Hid (TrY C w R (vs,xs) Av cv Aa ca vP ps cs r wr)) (fun _ wr=>lenP C wr)
    case atStart=>exact⟨_,_,_,_,HST2⟩
    case round=>
     clear HST2
     obtain⟨vP,ps,cs,r,hy⟩:=hrel
     have HM:=hdq (may_any C [112,114,111,99] r 0 wr HK.out hy.out.pa (by decide))
     go_wp2_with fail
     refine HM.out.mono ?_
     rintro _ w2 ⟨rfl,hp,hf⟩
     obtain⟨f,hRf,hfr⟩:=hy.out.eq
     have hrl:0 < r.length:=List.length_pos_iff.2 hy.out.pa.ne
     obtain⟨f,rfl⟩:∃f',f=f'+1:=⟨f - 1,by omega⟩
     unfold procsF at hRf
     cases hm:mayB [112,114,111,99] r
     rotate_left
     ·rw[hm]at hRf hp
      replace hp:PaAt C w2 r.tail 0:=hp
      replace hRf:R=((procP r.tail).then fun p r=>procsF f (ps++ [p]) r).then (treeM (vs,xs)):=hRf
      have HRF:=hdq hRf
      have HFR:=hdq hfr
      have HLN:=hdq (show r.length=r.tail.length+1 by rw[List.length_tail];omega)
      have HF2:=hdq hf
      have HEND:=hdq (hp.ended HK.out)
      have hbx:=hy.out.box.fr hf (fun e=>by have e:w.heap.size=C.P:=e;have:=HL.out;omega)
      have t02:=hbx.cell 2
      have f02:=hbx.frozen 2
      simp only[getsL]at t02
      have HSE:=hdq (proc_any C r.tail w2.drew HK.out (hp.fr (T:=NoT) (Fr.drew (Fr.refl _ _)) id id fun _ _=>id))
      obtain⟨m,hmm⟩:=nmq ps.length
      have HMM:=hdq hmm
      have HROW0:=hdq (show wr.ownsRow (w.heap.size+1) 63 4 vP m cs from by rw[hmm];exact hy.out.row)
      clear hp hf hRf hfr hm hbx hrl HM hmm
      go_wp2_with fail
      go_region_law
       (first
        |(refine at_value _ _ _ (by rfl) ?_
          go_simp
          go_at_call 134
          with_reducible refine HSE.out.mono ?_
          intro e w7 hE
          rcases pcV_ways hE with⟨x,r3,A,c,D,q,hX,rfl,hv,hp,hf⟩|⟨c,a2,hX,rfl,hf⟩
          case inr=>
           have hbad:TrV C R w (wrongE c a2) w7:=by rw[HRF.out,hX];exact tree_bad (hy.out.fr.trans (PT.l (HF2.out.trans ((Fr.drew (Fr.refl C.T w2)).trans hf))))
           exact aiq rfl hbad
          have hf7:Fr C.T wr w7:=HF2.out.trans ((Fr.drew (Fr.refl C.T w2)).trans hf)
          have hL:=HL.out
          have hbx7:=hy.out.box.fr hf7 (fun e=>by have e:w.heap.size=C.P:=e;omega)
          have t07:=hbx7.cell 2
          have f07:=hbx7.frozen 2
          have hb7:w.heap.size < w7.heap.size:=hbx7.lt
          have f07a:=(hbx7.alloc (.cells #[.string x.nm,.slice A x.params.length c,.slice D x.body.len q,.int .i64 x.at_] 63)).frozen 2
          simp only[getsL]at t07
          have hr3:r3.length < r.length:=by
           have h1:=(procP_loc.shr1 HEND.out hX).1
           have h2:=HLN.out
           omega
          have HR3:=hdq hr3
          have HX:=hdq hX
          have HV:=hdq (⟨hv.1,hv.2.1.imp fun _ _ h=>VaR.more (fun b hb=>⟨leq9 HF2.out.size hb.1,hb.2⟩) h,hv.2.2.imp fun _ _ h=>StR.more (fun b hb=>⟨leq9 HF2.out.size hb.1,hb.2⟩) h⟩:in64 x.at_∧SlR (VaR w7 (New wr.heap.size w7) False x.params) x.params.length 24 A c∧SlR (StR w7 (New wr.heap.size w7) False x.body) x.body.len 128 D q)
          have HP:=hdq hp
          have HF7:=hdq hf7
          have HR7:=hdq ((row_keep HROW0.out hf7 (by omega)).alloc (.cells #[.string x.nm,.slice A x.params.length c,.slice D x.body.len q,.int .i64 x.at_] 63))
          have HNB:=hdq (Bk.new w7 63 #[.string x.nm,.slice A x.params.length c,.slice D x.body.len q,.int .i64 x.at_]).news
          have HW:=hdq (show Fr NoT w7 (w7.alloc (.cells #[.string x.nm,.slice A x.params.length c,.slice D x.body.len q,.int .i64 x.at_] 63))from(Fr.refl _ _).alloc _)
          have hsz7:=hf7.size
          have hwr:=hy.out.fr.size
          have hbxl:=hy.out.box.lt
          have hfew:m≤5000:=by have:=hy.out.few;have:=HMM.out;omega
          have hrn:=HR7.out.lt
          have hone:∀u∈pcC x A c D q,u.oneCell'=true:=by simp[pcC,Value.oneCell']
          clear hX hv hp hf hf7 hbx7 hL hr3
          dsimp only)
        |(refine step_append_lies _ (by rfl) _ _ _ (by rfl) (w.heap.size+1) 63 iP (.agg #[.string ⟨#[]⟩,.slice none 0 0,.slice none 0 0,.int .i64 0]) 4 72 Tryz.underlying24 HIP.out.1 HIP.out.2.1 HIP.out.2.2.1 HIP.out.2.2.2 rfl (by decide) vP m cs (by rfl) HR7.out ⟨w7.heap.size,0,none⟩ 1 1 (pcC x A c D q) (by rfl) (by rfl) HNB.out hone (by omega) (by unfold maxLen;omega) (by omega) (by rw[World.size_alloc];omega) (w7.heap.size+1) (World.size_alloc _ _) ?_
          intro gg cap w9 hown hgrow hsp hlt
          have hl9:=(hgrow.cell_far ⟨w.heap.size,2,none⟩ (by show w.heap.size < _;rw[World.size_alloc];omega) (fun e=>by have:=(hrn w.heap.size e.symm).1;omega)).trans ((World.cell?_alloc_lt w7 _ ⟨w.heap.size,2,none⟩ (by show w.heap.size < _;omega)).trans t07)
          have hlf9:=(hgrow.frozen_far ⟨w.heap.size,2,none⟩ (by show w.heap.size < _;rw[World.size_alloc];omega) (fun e=>by have:=(hrn w.heap.size e.symm).1;omega)).trans f07a
          have HE:=hdq (fun w10 h10=>TrY.step (w10:=w10) (f:=f) HMM.out HL.out hy.out (by rw[HRF.out,HX.out];rfl) (by have:=HFR.out;have:=HR3.out;omega) HR3.out HV.out HP.out HF7.out _ HW.out hown hgrow (hsp.imp id fun e=>by rw[World.size_alloc];exact e) h10)
          clear hown hgrow hsp hrn))
      all_goals
       have hby:=HE.out _ (by with_reducible rfl)
       have HBY:=hdq hby
       have HLM:=hdq (show lenP C _ < lenP C wr from by rw[hby.pa.lenP,hy.out.pa.lenP];exact HR3.out)
       clear hby HE hl9 hlf9 t07 f07
       go_wp2_with fail
       go_roundw
       case rel=>exact⟨_,_,_,_,HBY⟩
       case measure=>exact HLM.out
     ·rw[hm]at hRf hp
      replace hp:PaAt C w2 r 0:=hp
      replace hRf:R=treeM (vs,xs) ps r:=hRf
      have hy2:=TrY.next HL.out hy.out hf hp
      have HY2:=hdq hy2
      have HRF:=hdq hRf
      have HT:=hdq (take_any C [109,97,105,110] r 0 w2.heap.size _ HK.out (hp.alloc (.cells #[.string ⟨#[109,97,105,110]⟩] 9)) (by decide) (by simp))
      clear hp hf hRf hfr hm hrl HM hy2 hy
      go_wp2_with fail
      refine HT.out.mono ?_
      intro e w4 hE
      rcases hE with⟨ht,rfl,hp,hf⟩|⟨ht,rfl,hf⟩
      rotate_left
      ·go_wp2_with fail
       have hbad:TrV C R w (wrongE 90 (hdT r).at_) w4:=by
        rw[HRF.out]
        unfold treeM
        rw[ht]
        exact tree_bad (HY2.out.fr.trans (PT.l (((Fr.refl C.T w2).alloc _).trans hf)))
       exact aiq rfl hbad
      have hR3:=HRF.out
      unfold treeM at hR3
      rw[ht]at hR3
      replace hR3:R=(blockP 24 r.tail).then fun b r=>if 1 < r.length then .err 90 (hdT r).at_ else .ok ⟨vs,xs,ps,stsOf b⟩ r:=hR3
      have HR3:=hdq hR3
      have HBK:=hdq (blkC_all C HK.out 24 r.tail 0 w4 (by omega) hp)
      have HF4:=hdq (((Fr.refl C.T w2).alloc (.cells #[.string ⟨#[109,97,105,110]⟩] 9)).trans hf)
      clear ht hp hf hR3 HT HRF
      go_wp2_with (first|fail "x")
      refine HBK.out.mono ?_
      intro e w7 hE
      rcases stlV_ways hE with⟨b,r3,D,q,hX,rfl,hv,hp,hf⟩|⟨c,a2,hX,rfl,hf⟩
      case inr=>
       have hbad:TrV C R w (wrongE c a2) w7:=by rw[HR3.out,hX];exact tree_bad (HY2.out.fr.trans (PT.l (HF4.out.trans hf)))
       go_wp2_with fail
       exact aiq rfl hbad
      have hR4:=HR3.out
      rw[hX]at hR4
      replace hR4:R=if 1 < r3.length then .err 90 (hdT r3).at_ else .ok ⟨vs,xs,ps,stsOf b⟩ r3:=hR4
      have hf7:=HF4.out.trans hf
      have hL:=HL.out
      obtain⟨w10,hw10⟩:=nmq (w7.setCell ⟨w.heap.size,3,none⟩ (.slice D (stsOf b).len q))
      obtain⟨Ap,cp,hvP,hbk,hfin⟩:=tree_fin (r:=r3) hL HY2.out hf7 (hv.imp fun _ _ h=>StR.more (fun b hb=>⟨leq9 HF4.out.size hb.1,hb.2⟩) h) hw10
      have hbx7:=HY2.out.box.fr hf7 (fun e=>by have e:w.heap.size=C.P:=e;omega)
      have t7:=hbx7.cell 3
      have f7:=hbx7.frozen 3
      simp only[getsL]at t7
      have hp10:PaAt C w10 r3 0:=hp.fr (T:=fun b=>b=w.heap.size) (by rw[hw10];exact Fr.own (Fr.refl _ _) _ _) (fun e=>by have e:C.P=w.heap.size:=e;omega) (fun e=>by have e:C.TB=w.heap.size:=e;omega) (fun i hi e=>by have e:i=w.heap.size:=e;omega)
      have hfb:Fr (PT C w.heap.size) w w10:=by rw[hw10];exact(HY2.out.fr.trans (PT.l hf7)).trans ((Fr.own (Fr.refl _ _) 3 _).mono fun i _ h=> .inr h)
      obtain⟨j,cap,m,hm0,hm1,hle,hmc,hcm,hbb,p0,p1,g0,g1,_,_,_,ltP,ltT⟩:=hp.cells
      have hne1:¬C.P=w.heap.size:=by omega
      have hne2:¬w.heap.size=C.P:=by omega
      have hm2:m≤9223372036854775807:=by omega
      have HFA:=hdq (fail_any C 90 r3 0 (w7.setCell ⟨w.heap.size,3,none⟩ (.slice D (stsOf b).len q)) (by rw[←hw10];exact hp10))
      have b0:=hbk.cell 0
      have b1:=hbk.cell 1
      have b2:=hbk.cell 2
      have b3:=hbk.cell 3
      have hbl:=hbk.lt
      simp only[getsL]at b0 b1 b2 b3
      have HFIN:=hdq hfin
      have HFB:=hdq hfb
      have HR4:=hdq hR4
      have HW10:=hdq hw10
      clear hfin hfb hR4 hX hv hp hf hf7 hbx7 hp10 hL hvP hbk hle hbb
      by_cases h1:1 < r3.length
      ·have hlm:(1:Int) < (m:Int):=by omega
       have e1:decide ((1:Int) < (m:Int))=true:=by simpa using hlm
       have hR5:=HR4.out
       rw[if_pos h1]at hR5
       have HR5:=hdq hR5
       clear hR5 HFIN h1 hm0
       go_wp2_with fail
       refine HFA.out.mono ?_
       rintro _ w11 ⟨rfl,hf⟩
       have hbad:TrV C R w (wrongE 90 (hdT r3).at_) w11:=by
        rw[HR5.out]
        rw[←HW10.out]at hf
        exact tree_bad (HFB.out.trans (PT.l hf))
       exact aiq rfl hbad
      ·have hlm:¬(1:Int) < (m:Int):=by omega
       have e1:decide ((1:Int) < (m:Int))=false:=by simpa using hlm
       have hR5:=HR4.out
       rw[if_neg h1]at hR5
       have HR5:=hdq hR5
       clear hR5 h1 hm0
       go_wp2_with fail
       simp only[Exit.noGoto]
       refine bodyPost_ret (v:= .agg #[.slice Av vs.length cv,.slice Aa xs.length ca,.slice Ap ps.length cp,.slice D (stsOf b).len q]) ?_ rfl ?_
       ·rw[←HW10.out]
        simp[results,Tryz.results63,go_sem,b0,b1,b2,b3,hbl]
       ·rw[←HW10.out,HR5.out]
        exact HFIN.out
end Go.Proofs.YtfomomaomggpbaaGreatDoor
