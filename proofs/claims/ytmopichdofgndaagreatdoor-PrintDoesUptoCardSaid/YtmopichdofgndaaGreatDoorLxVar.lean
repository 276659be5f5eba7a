/-
  A variable of the library stays what it is. No program.
-/
import Derived.Below
import Derived.WalkKit
import Derived.Lib.SmallJoins
import Derived.Laws.Rows
import Derived.Laws.Tables
set_option linter.unusedVariables false
set_option linter.unusedSimpArgs false
namespace Go.Proofs.YtmopichdofgndaaGreatDoor
open Go.RowKit

theorem var_keep {P:Program} {w w':World} {n:String} {cs:Array Value} (h:Below w.heap.size w w') (hv:w.var? P n=some cs):w'.var? P n=some cs:=by
 unfold World.var? at hv ⊢
 cases hg:P.globalNamed n with
 |none=>rw[hg]at hv;cases hv
 |some g=>
  rw[hg]at hv
  simp only[Option.bind_some]at hv ⊢
  have hlt:g < w.heap.size:=by
   rcases Nat.lt_or_ge g w.heap.size with hlt|hge
   ·exact hlt
   ·rw[Array.getElem?_eq_none hge]at hv;cases hv
  rw[h.block g hlt]
  exact hv
theorem below_setRow {B:Nat} {a w:World} (h:Below B a w) {g:Nat} (hg:B≤g) (cs:Array Value):Below B a (w.setRow g cs):=
 ⟨h.os,h.tape,h.output,by rw[setRow_size];exact h.size,fun i hi=>(setRow_other _ _ i _ (by omega)).trans (h.block i hi)⟩
end Go.Proofs.YtmopichdofgndaaGreatDoor
