/-
  law09: the closed facts of the row of ParseWrong, one by one.
-/
import Derived.Test.YtknckiblofochaaGreatDoorRows
import Derived.Test.YtknckiblofochaaGreatDoorTie
import Derived.Test.YtknckiblofochaaGreatDoorCards
import Derived.WalkKit
import Derived.ProofKit
import Derived.OpenShut
import Derived.Carry
import Derived.Stop.Joined
namespace Go.Proofs.YtknckiblofochaaGreatDoor
open Go.ChangeShapes Go.WideShapes Go.ChangeAt Go.RowKit

set_option maxRecDepth 100000 in
set_option maxHeartbeats 8000000 in
theorem closedWrong : joinedFacts Tryz.pinned.checked.prog 8 Tryz.f8 Rows.parseWrongSpec Rows.parseWrongRow = true := by
  unfold joinedFacts
  simp only [Bool.and_eq_true]
  repeat' apply And.intro
  all_goals (as_aux_lemma => kernel_rfl)
end Go.Proofs.YtknckiblofochaaGreatDoor
