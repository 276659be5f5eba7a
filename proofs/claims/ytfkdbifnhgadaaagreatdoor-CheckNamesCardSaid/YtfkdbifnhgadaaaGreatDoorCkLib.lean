/-
  Small words that the walks over trees share. No program.
-/
import Derived.Test.YtfkdbifnhgadaaaGreatDoorJnData
import Derived.Test.YtfkdbifnhgadaaaGreatDoorJnTok
import Derived.Test.YtfkdbifnhgadaaaGreatDoorJnBase
import Derived.Deep.DeepCutAuto
import Derived.BigQuiet
import Derived.BigRegion
import Derived.WalkMore
namespace Go.Proofs.YtfkdbifnhgadaaaGreatDoor
open Go.RowKit Go.Shelf
set_option linter.unusedVariables false
set_option linter.unusedSimpArgs false

/-- how a comparison ends -/
def EqPost (b : Bool) (W : World) (e : Ending) (w' : World) : Prop := e = .returned (.bool b) ∧ Fr NoT W w'
theorem drop_head1 {α : Type} {l : List α} {k : Nat} (h : k < l.length) : ∃ x r, l.drop k = x :: r ∧ l.drop (k + 1) = r :=
  ⟨_, _, List.drop_eq_getElem_cons h, rfl⟩
theorem bk4 {w : World} {g : Nat} {t : TypeId} {a b c d : Value} (h : Bk w g t #[a, b, c, d]) : w.cell? ⟨g, 0, none⟩ = some a ∧ w.cell? ⟨g, 1, none⟩ = some b ∧ w.cell? ⟨g, 2, none⟩ = some c ∧ w.cell? ⟨g, 3, none⟩ = some d ∧ g < w.heap.size :=
  ⟨h.cell 0, h.cell 1, h.cell 2, h.cell 3, h.lt⟩
end Go.Proofs.YtfkdbifnhgadaaaGreatDoor
