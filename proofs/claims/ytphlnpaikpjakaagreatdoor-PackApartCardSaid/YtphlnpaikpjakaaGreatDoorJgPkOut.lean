/-
  pack.Packs: rows of numbers, and the numbers in them. No program of its own.
-/
import Derived.Test.YtphlnpaikpjakaaGreatDoorJgPkState
import Derived.Sort.OwnSortedInts
import Derived.Laws.OwnMore
import Derived.Lib.RowBridge
import Derived.Maps.AppendAt
set_option linter.unusedVariables false
set_option linter.unusedSimpArgs false
namespace Go.Proofs.YtphlnpaikpjakaaGreatDoor
open Go.RowKit Go.Shelf

theorem rowZ_open {w:World} {L n:Nat} {y:Value} {l:List Int} (h:w.ownsRow L 3 1 y n (intZ l)) (h0:0 < n):
  ∃g cap,y= .slice (some ⟨g,0,none⟩) n cap∧L≤g∧g < w.heap.size∧(∃cs,w.heap[g]?=some (.cells cs 3 (0,0)))∧n≤cap∧cap≤9223372036854775807:=by
 rcases h.2 with⟨_,h1⟩|⟨g,cap,cur,rfl,hb,hg,hn,hc,_⟩
 ·omega
 ·exact⟨g,cap,rfl,hb,(Array.getElem?_eq_some_iff.1 hg).1,⟨cur,hg⟩,hn,by unfold maxLen at hc;omega⟩
theorem rowZ_cell {w:World} {L gg n cap:Nat} {l:List Int} (h:w.ownsRow L 3 1 (.slice (some ⟨gg,0,none⟩) n cap) n (intZ l)) (j:Nat) (x:Int) (hj:l[j]?=some x):w.cell? ⟨gg,j,none⟩=some (.int .i64 x):=by
 have hl:=h.1
 simp only[intZ,List.length_map]at hl
 have:=(List.getElem?_eq_some_iff.1 hj).1
 rw[h.cellAt j (by omega),intZ,List.getElem?_map,hj]
 rfl
theorem pkAll_in {v:Nat} {most:Int} {P:List (List Int)} (h:PkI v most P) {sc:List Int} (hsc:∀n∈sc,0≤n∧n < v):∀x∈pkAll P sc,0≤x∧x < v:=fun x hx=>by
 obtain⟨n,hn,hxl⟩:=List.mem_flatMap.1 hx
 have hnv:=hsc n hn
 obtain⟨l,hl⟩:∃l,P[n.toNat]?=some l:=⟨_,List.getElem?_eq_getElem (by rw[h.len];omega)⟩
 have hxl:x∈l:=by rw[List.getD_eq_getElem?_getD,hl]at hxl;exact hxl
 exact⟨(h.mem _ l hl x hxl).1,(h.mem _ l hl x hxl).2.1⟩
theorem pkSet_snoc (P:List (List Int)) (ns:List Int) (n:Int) (a:List Int):pkSet P (ns++ [n]) a=(pkSet P ns a).set n.toNat a:=by simp[pkSet]
theorem sdup_pos {A:List Int} (h:0 < A.length):0 < (sdup A).length :=by
 obtain⟨x,hx⟩:=List.exists_mem_of_length_pos h
 exact List.length_pos_of_mem (((sdup_spec A).2 x).2 hx)
theorem put_q {P:List (List Int)} {n:Nat} {a:List Int}:∀(j:Nat) (l':List Int),(P.set n a)[j]?=some l'→(j=n∧l'=a)∨(j≠n∧P[j]?=some l'):=fun j l' h=>by
 by_cases hj:j=n
 ·subst hj
  obtain⟨h1,h2⟩:=List.getElem?_eq_some_iff.1 h
  simp at h2
  exact .inl ⟨rfl,h2.symm⟩
 ·rw[List.getElem?_set_ne (Ne.symm hj)]at h
  exact .inr ⟨hj,h⟩
theorem take_snoc {l:List Int} {q:Nat} {x:Int} (h:l[q]?=some x):l.take (q+1)=l.take q++ [x]:=by
 rw[List.take_add_one,h];rfl
theorem readX_in {vars arrs:Int}:∀ {xs:Exs},mayX vars arrs xs=true→∀x∈readX xs,0≤x∧x < vars
 | .nil,_,x,hx=>by simp[readX]at hx
 | .cons k nm n args at_ rest,h,x,hx=>by
  unfold mayX at h
  simp only[Bool.and_eq_true]at h
  unfold readX at hx
  rcases List.mem_append.1 hx with hx|hx
  ·split at hx
   ·rename_i hk
    obtain rfl:x=n:=by simpa using hx
    have h1:=h.1.1
    unfold mayK rightN at h1
    simp[hk]at h1
    omega
   ·simp at hx
  ·rcases List.mem_append.1 hx with hx|hx
   ·exact readX_in h.1.2 x hx
   ·exact readX_in h.2 x hx
theorem scalE_in {g:Gr} (h:mayG g=true):∀e∈g.edges,∀x∈scalE e,0≤x∧x < g.vars:=fun e he x hx=>by
 unfold mayG at h
 simp only[Bool.and_eq_true]at h
 have h1:=h.1.2
 have h2:edBad g.vars g.arrays.length g.nodes e=false:=by
  cases hb:edBad g.vars g.arrays.length g.nodes e
  ·rfl
  ·rw[List.any_eq_true.2 ⟨e,he,hb⟩]at h1
   cases h1
 unfold edBad mayD at h2
 simp only[Bool.or_eq_false_iff,Bool.not_eq_false',Bool.and_eq_true]at h2
 unfold scalE at hx
 rcases List.mem_append.1 hx with hx|hx
 ·exact readX_in h2.2.2 x hx
 ·split at hx
  ·rename_i hk
   obtain rfl:x=e.n:=by simpa using hx
   have h3:=h2.2.1.1
   unfold headD mostD at h3
   rcases hk with hk|hk<;>simp[hk]at h3<;>omega
  ·simp at hx

def RowAt (w:World) (l:List Int) (r:Value):Prop:=∃b c,r= .slice (some ⟨b,0,none⟩) l.length c∧l.length≤c∧c≤9223372036854775807∧(∃cs,w.heap[b]?=some (.cells cs 3 (0,0)))∧∀(j:Nat) (x:Int),l[j]?=some x→w.cell? ⟨b,j,none⟩=some (.int .i64 x)∧in64 x
theorem RowAt.fr {T:Nat→Prop} {w w':World} {l:List Int} {r:Value} (h:RowAt w l r) (hf:Fr T w w') (ht:∀b cs,T b→w.heap[b]?≠some (.cells cs 3 (0,0))):RowAt w' l r:=by
 obtain⟨b,c,e,h1,h2,⟨cs,hb⟩,h3⟩:=h
 have hl:=(Array.getElem?_eq_some_iff.1 hb).1
 have hn:¬T b:=fun h=>ht b cs h hb
 exact⟨b,c,e,h1,h2,⟨cs,(hf.block b hl hn).trans hb⟩,fun j x hj=>⟨(hf.cell (p:=⟨b,j,none⟩) hl hn).trans (h3 j x hj).1,(h3 j x hj).2⟩⟩
def RowsR (w:World) (H:Nat) (y:Value) (ls:List (List Int)):Prop:=∃rows,w.ownsRow H 29 1 y ls.length rows∧∀(i:Nat) (l:List Int),ls[i]?=some l→∃r,rows[i]?=some r∧RowAt w l r
theorem RowsR.nil (w:World) (H:Nat):RowsR w H (.slice none 0 0) []:=⟨[],World.ownsRow_nil _ _ _ _,fun i l h=>by simp at h⟩
theorem RowsR.below {w w':World} {H:Nat} {y:Value} {ls:List (List Int)} (h:RowsR w H y ls) (hb:Below w.heap.size w w'):RowsR w' H y ls:=by
 obtain⟨rows,ho,hr⟩:=h
 refine⟨rows,⟨ho.1,?_⟩,fun i l hi=>?_⟩
 ·rcases ho.2 with h1|⟨g,cap,cur,e,h1,h2,h3⟩
  ·exact .inl h1
  ·exact .inr ⟨g,cap,cur,e,h1,(hb.block g (Array.getElem?_eq_some_iff.1 h2).1).trans h2,h3⟩
 ·obtain⟨r,h1,h2⟩:=hr i l hi
  exact⟨r,h1,h2.fr (T:=NoT) (Fr.below hb) fun _ _ h=>h.elim⟩
theorem RowsR.push {w w':World} {H:Nat} {y y' r:Value} {ls:List (List Int)} {rows:List Value} {l:List Int} (hr:∀(i:Nat) (l:List Int),ls[i]?=some l→∃r,rows[i]?=some r∧RowAt w l r) (ho:w.ownsRow H 29 1 y ls.length rows) (hl:RowAt w l r)
  (hg:w.grownBy w' y.ownBlock) (ho':w'.ownsRow H 29 1 y' (ls.length+1) (rows++ [r])):RowsR w' H y' (ls++ [l]):=by
 have ht:∀b cs,some b=y.ownBlock→w.heap[b]?≠some (.cells cs 3 (0,0)):=fun b cs e hb=>by
  rcases ho.2 with⟨rfl,_⟩|⟨g,cap,cur,rfl,_,h2,_⟩
  ·simp[Value.ownBlock]at e
  ·obtain rfl:b=g:=by simpa[Value.ownBlock]using e
   rw[h2]at hb
   simp at hb
 have hf:Fr (fun b=>some b=y.ownBlock) w w':=Fr.grown hg fun g e _=>e.symm
 have hlen:rows.length=ls.length:=by have:=ho.1;omega
 refine⟨rows++ [r],by rw[List.length_append];exact ho',fun i l' hi=>?_⟩
 by_cases hil:i < ls.length
 ·rw[List.getElem?_append_left hil]at hi
  obtain⟨r',h1,h2⟩:=hr i l' hi
  exact⟨r',by rw[List.getElem?_append_left (by omega)];exact h1,h2.fr hf ht⟩
 ·have h0:=(List.getElem?_eq_some_iff.1 hi).1
  simp at h0
  obtain rfl:i=ls.length:=by omega
  simp at hi
  subst hi
  exact⟨r,by rw[List.getElem?_append_right (by omega),hlen];simp,hl.fr hf ht⟩
theorem RowsR.out {w:World} {H:Nat} {y:Value} {ls:List (List Int)} (h:RowsR w H y ls):LsM w w.heap.size ls y:=by
 obtain⟨rows,ho,hr⟩:=h
 have hl:=ho.1
 rcases ho.2 with⟨rfl,h0⟩|⟨g,cap,cur,rfl,hb,hg,hn,hc,hsz,ht⟩
 ·exact⟨none,0,by rw[h0],by omega,by omega,fun hp=>by omega⟩
 ·refine⟨_,cap,rfl,hn,by unfold maxLen at hc;omega,fun hp=>⟨g,0,rfl,(Array.getElem?_eq_some_iff.1 hg).1,fun i l hi=>?_⟩⟩
  obtain⟨r,h1,b,c,rfl,h3,h4,⟨cs,h5⟩,h6⟩:=hr i l hi
  have hil:=(List.getElem?_eq_some_iff.1 hi).1
  refine⟨some ⟨b,0,none⟩,c,?_,h3,h4,fun hp=>⟨b,0,rfl,(Array.getElem?_eq_some_iff.1 h5).1,fun j x hj=>?_⟩⟩
  ·rw[Nat.zero_add,ho.cellAt i (by omega)]
   exact h1
  ·rw[Nat.zero_add]
   exact h6 j x hj
theorem RowAt.of_owns {w:World} {H:Nat} {v':Value} {l:List Int} (h:w.ownsRow H 3 1 v' l.length (intZ l)) (h0:0 < l.length) (hl:∀x∈l,in64 x):RowAt w l v':=by
 obtain⟨g,cap,rfl,h1,h2,h3,h4,h5⟩:=rowZ_open h h0
 exact⟨g,cap,rfl,h4,h5,h3,fun j x hj=>⟨rowZ_cell h j x hj,hl x (List.mem_of_getElem? hj)⟩⟩
theorem pkOut_succ (P:List (List Int)) (q:Nat):pkOut P (q+1)=pkOut P q++(if pkHd P q then [P.getD q []]else []):=by
 unfold pkOut
 rw[List.range_succ,List.filter_append,List.map_append]
 by_cases h:pkHd P q=true
 ·simp[h]
 ·simp[h]
theorem pkOut_len (P:List (List Int)):∀q,(pkOut P q).length ≤q
 |0=>by simp[pkOut]
 |q+1=>by
  have:=pkOut_len P q
  rw[pkOut_succ,List.length_append]
  split<;>simp<;>omega
theorem pkHd_iff {P:List (List Int)} {q:Nat} {l:List Int} {z:Int} (h:P[q]?=some l) (hz:l[0]?=some z):pkHd P q=(z==(q:Int)):=by
 unfold pkHd
 rw[List.getD_eq_getElem?_getD,h]
 cases l with
 |nil=>simp at hz
 |cons a l=>simp at hz;subst hz;rfl
end Go.Proofs.YtphlnpaikpjakaaGreatDoor
