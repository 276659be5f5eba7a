/-
  pack.Packs: the rows it hands out. No program of its own.
-/
import Derived.Test.YtphlnpaikpjakaaPkRow
import Derived.Maps.AppendAt
set_option linter.unusedVariables false
set_option linter.unusedSimpArgs false
namespace Go.Proofs.Ytphlnpaikpjakaa
open Go.RowKit Go.Shelf

def RowAt (w:World) (l:List Int) (r:Value):Prop:=∃b c,r= .slice (some ⟨b,0,none⟩) l.length c∧l.length≤c∧c≤9223372036854775807∧(∃cs,w.heap[b]?=some (.cells cs 3 (0,0)))∧∀(j:Nat) (x:Int),l[j]?=some x→w.cell? ⟨b,j,none⟩=some (.int .i64 x)∧in64 x
theorem RowAt.fr {T:Nat→Prop} {w w':World} {l:List Int} {r:Value} (h:RowAt w l r) (hf:Fr T w w') (ht:∀b cs,T b→w.heap[b]?≠some (.cells cs 3 (0,0))):RowAt w' l r:=by
 obtain⟨b,c,e,h1,h2,⟨cs,hb⟩,h3⟩:=h
 have hl:=(Array.getElem?_eq_some_iff.1 hb).1
 have hn:¬T b:=fun h=>ht b cs h hb
 exact⟨b,c,e,h1,h2,⟨cs,(hf.block b hl hn).trans hb⟩,fun j x hj=>⟨(hf.cell (p:=⟨b,j,none⟩) hl hn).trans (h3 j x hj).1,(h3 j x hj).2⟩⟩
def RowsR (w:World) (H:Nat) (y:Value) (ls:List (List Int)):Prop:=∃rows,w.ownsRow H 22 1 y ls.length rows∧∀(i:Nat) (l:List Int),ls[i]?=some l→∃r,rows[i]?=some r∧RowAt w l r
theorem RowsR.nil (w:World) (H:Nat):RowsR w H (.slice none 0 0) []:=⟨[],World.ownsRow_nil _ _ _ _,fun i l h=>by simp at h⟩
theorem RowsR.below {w w':World} {H:Nat} {y:Value} {ls:List (List Int)} (h:RowsR w H y ls) (hb:Below w.heap.size w w'):RowsR w' H y ls:=by
 obtain⟨rows,ho,hr⟩:=h
 refine⟨rows,⟨ho.1,?_⟩,fun i l hi=>?_⟩
 ·rcases ho.2 with h1|⟨g,cap,cur,e,h1,h2,h3⟩
  ·exact .inl h1
  ·exact .inr ⟨g,cap,cur,e,h1,(hb.block g (Array.getElem?_eq_some_iff.1 h2).1).trans h2,h3⟩
 ·obtain⟨r,h1,h2⟩:=hr i l hi
  exact⟨r,h1,h2.fr (T:=NoT) (Fr.below hb) fun _ _ h=>h.elim⟩
theorem RowsR.push {w w':World} {H:Nat} {y y' r:Value} {ls:List (List Int)} {rows:List Value} {l:List Int} (hr:∀(i:Nat) (l:List Int),ls[i]?=some l→∃r,rows[i]?=some r∧RowAt w l r) (ho:w.ownsRow H 22 1 y ls.length rows) (hl:RowAt w l r)
  (hg:w.grownBy w' y.ownBlock) (ho':w'.ownsRow H 22 1 y' (ls.length+1) (rows++ [r])):RowsR w' H y' (ls++ [l]):=by
 have ht:∀b cs,some b=y.ownBlock→w.heap[b]?≠some (.cells cs 3 (0,0)):=fun b cs e hb=>by
  rcases ho.2 with⟨rfl,_⟩|⟨g,cap,cur,rfl,_,h2,_⟩
  ·simp[Value.ownBlock]at e
  ·obtain rfl:b=g:=by simpa[Value.ownBlock]using e
   rw[h2]at hb
   simp at hb
 have hf:Fr (fun b=>some b=y.ownBlock) w w':=Fr.grown hg fun g e _=>e.symm
 have hlen:rows.length=ls.length:=by have:=ho.1;omega
 refine⟨rows++ [r],by rw[List.length_append];exact ho',fun i l' hi=>?_⟩
 by_cases hil:i < ls.length
 ·rw[List.getElem?_append_left hil]at hi
  obtain⟨r',h1,h2⟩:=hr i l' hi
  exact⟨r',by rw[List.getElem?_append_left (by omega)];exact h1,h2.fr hf ht⟩
 ·have h0:=(List.getElem?_eq_some_iff.1 hi).1
  simp at h0
  obtain rfl:i=ls.length:=by omega
  simp at hi
  subst hi
  exact⟨r,by rw[List.getElem?_append_right (by omega),hlen];simp,hl.fr hf ht⟩
theorem RowsR.out {w:World} {H:Nat} {y:Value} {ls:List (List Int)} (h:RowsR w H y ls):LsM w w.heap.size ls y:=by
 obtain⟨rows,ho,hr⟩:=h
 have hl:=ho.1
 rcases ho.2 with⟨rfl,h0⟩|⟨g,cap,cur,rfl,hb,hg,hn,hc,hsz,ht⟩
 ·exact⟨none,0,by rw[h0],by omega,by omega,fun hp=>by omega⟩
 ·refine⟨_,cap,rfl,hn,by unfold maxLen at hc;omega,fun hp=>⟨g,0,rfl,(Array.getElem?_eq_some_iff.1 hg).1,fun i l hi=>?_⟩⟩
  obtain⟨r,h1,b,c,rfl,h3,h4,⟨cs,h5⟩,h6⟩:=hr i l hi
  have hil:=(List.getElem?_eq_some_iff.1 hi).1
  refine⟨some ⟨b,0,none⟩,c,?_,h3,h4,fun hp=>⟨b,0,rfl,(Array.getElem?_eq_some_iff.1 h5).1,fun j x hj=>?_⟩⟩
  ·rw[Nat.zero_add,ho.cellAt i (by omega)]
   exact h1
  ·rw[Nat.zero_add]
   exact h6 j x hj
theorem RowAt.of_owns {w:World} {H:Nat} {v':Value} {l:List Int} (h:w.ownsRow H 3 1 v' l.length (intZ l)) (h0:0 < l.length) (hl:∀x∈l,in64 x):RowAt w l v':=by
 obtain⟨g,cap,rfl,h1,h2,h3,h4,h5⟩:=rowZ_open h h0
 exact⟨g,cap,rfl,h4,h5,h3,fun j x hj=>⟨rowZ_cell h j x hj,hl x (List.mem_of_getElem? hj)⟩⟩
theorem pkOut_succ (P:List (List Int)) (q:Nat):pkOut P (q+1)=pkOut P q++(if pkHd P q then [P.getD q []]else []):=by
 unfold pkOut
 rw[List.range_succ,List.filter_append,List.map_append]
 by_cases h:pkHd P q=true
 ·simp[h]
 ·simp[h]
theorem pkOut_len (P:List (List Int)):∀q,(pkOut P q).length ≤q
 |0=>by simp[pkOut]
 |q+1=>by
  have:=pkOut_len P q
  rw[pkOut_succ,List.length_append]
  split<;>simp<;>omega
theorem pkHd_iff {P:List (List Int)} {q:Nat} {l:List Int} {z:Int} (h:P[q]?=some l) (hz:l[0]?=some z):pkHd P q=(z==(q:Int)):=by
 unfold pkHd
 rw[List.getD_eq_getElem?_getD,h]
 cases l with
 |nil=>simp at hz
 |cons a l=>simp at hz;subst hz;rfl
end Go.Proofs.Ytphlnpaikpjakaa
