/-
  pack.Packs: rows of numbers, and the numbers in them. No program of its own.
-/
import Derived.Test.YtphlnpaikpjakaaJgPkHold
import Derived.Sort.OwnSortedInts
import Derived.Laws.OwnMore
import Derived.Lib.RowBridge
set_option linter.unusedVariables false
set_option linter.unusedSimpArgs false
namespace Go.Proofs.Ytphlnpaikpjakaa
open Go.RowKit Go.Shelf

theorem rowZ_open {w:World} {L n:Nat} {y:Value} {l:List Int} (h:w.ownsRow L 3 1 y n (intZ l)) (h0:0 < n):
  ∃g cap,y= .slice (some ⟨g,0,none⟩) n cap∧L≤g∧g < w.heap.size∧(∃cs,w.heap[g]?=some (.cells cs 3 (0,0)))∧n≤cap∧cap≤9223372036854775807:=by
 rcases h.2 with⟨_,h1⟩|⟨g,cap,cur,rfl,hb,hg,hn,hc,_⟩
 ·omega
 ·exact⟨g,cap,rfl,hb,(Array.getElem?_eq_some_iff.1 hg).1,⟨cur,hg⟩,hn,by unfold maxLen at hc;omega⟩
theorem rowZ_cell {w:World} {L gg n cap:Nat} {l:List Int} (h:w.ownsRow L 3 1 (.slice (some ⟨gg,0,none⟩) n cap) n (intZ l)) (j:Nat) (x:Int) (hj:l[j]?=some x):w.cell? ⟨gg,j,none⟩=some (.int .i64 x):=by
 have hl:=h.1
 simp only[intZ,List.length_map]at hl
 have:=(List.getElem?_eq_some_iff.1 hj).1
 rw[h.cellAt j (by omega),intZ,List.getElem?_map,hj]
 rfl
theorem pkAll_in {v:Nat} {most:Int} {P:List (List Int)} (h:PkI v most P) {sc:List Int} (hsc:∀n∈sc,0≤n∧n < v):∀x∈pkAll P sc,0≤x∧x < v:=fun x hx=>by
 obtain⟨n,hn,hxl⟩:=List.mem_flatMap.1 hx
 have hnv:=hsc n hn
 obtain⟨l,hl⟩:∃l,P[n.toNat]?=some l:=⟨_,List.getElem?_eq_getElem (by rw[h.len];omega)⟩
 have hxl:x∈l:=by rw[List.getD_eq_getElem?_getD,hl]at hxl;exact hxl
 exact⟨(h.mem _ l hl x hxl).1,(h.mem _ l hl x hxl).2.1⟩
theorem pkSet_snoc (P:List (List Int)) (ns:List Int) (n:Int) (a:List Int):pkSet P (ns++ [n]) a=(pkSet P ns a).set n.toNat a:=by simp[pkSet]
theorem sdup_pos {A:List Int} (h:0 < A.length):0 < (sdup A).length :=by
 obtain⟨x,hx⟩:=List.exists_mem_of_length_pos h
 exact List.length_pos_of_mem (((sdup_spec A).2 x).2 hx)
theorem put_q {P:List (List Int)} {n:Nat} {a:List Int}:∀(j:Nat) (l':List Int),(P.set n a)[j]?=some l'→(j=n∧l'=a)∨(j≠n∧P[j]?=some l'):=fun j l' h=>by
 by_cases hj:j=n
 ·subst hj
  obtain⟨h1,h2⟩:=List.getElem?_eq_some_iff.1 h
  simp at h2
  exact .inl ⟨rfl,h2.symm⟩
 ·rw[List.getElem?_set_ne (Ne.symm hj)]at h
  exact .inr ⟨hj,h⟩
theorem take_snoc {l:List Int} {q:Nat} {x:Int} (h:l[q]?=some x):l.take (q+1)=l.take q++ [x]:=by
 rw[List.take_add_one,h];rfl
theorem readX_in {vars arrs:Int}:∀ {xs:Exs},mayX vars arrs xs=true→∀x∈readX xs,0≤x∧x < vars
 | .nil,_,x,hx=>by simp[readX]at hx
 | .cons k nm n args at_ rest,h,x,hx=>by
  unfold mayX at h
  simp only[Bool.and_eq_true]at h
  unfold readX at hx
  rcases List.mem_append.1 hx with hx|hx
  ·split at hx
   ·rename_i hk
    obtain rfl:x=n:=by simpa using hx
    have h1:=h.1.1
    unfold mayK rightN at h1
    simp[hk]at h1
    omega
   ·simp at hx
  ·rcases List.mem_append.1 hx with hx|hx
   ·exact readX_in h.1.2 x hx
   ·exact readX_in h.2 x hx
theorem scalE_in {g:Gr} (h:mayG g=true):∀e∈g.edges,∀x∈scalE e,0≤x∧x < g.vars:=fun e he x hx=>by
 unfold mayG at h
 simp only[Bool.and_eq_true]at h
 have h1:=h.1.2
 have h2:edBad g.vars g.arrays.length g.nodes e=false:=by
  cases hb:edBad g.vars g.arrays.length g.nodes e
  ·rfl
  ·rw[List.any_eq_true.2 ⟨e,he,hb⟩]at h1
   cases h1
 unfold edBad mayD at h2
 simp only[Bool.or_eq_false_iff,Bool.not_eq_false',Bool.and_eq_true]at h2
 unfold scalE at hx
 rcases List.mem_append.1 hx with hx|hx
 ·exact readX_in h2.2.2 x hx
 ·split at hx
  ·rename_i hk
   obtain rfl:x=e.n:=by simpa using hx
   have h3:=h2.2.1.1
   unfold headD mostD at h3
   rcases hk with hk|hk<;>simp[hk]at h3<;>omega
  ·simp at hx
end Go.Proofs.Ytphlnpaikpjakaa
