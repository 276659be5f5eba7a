/-
  law09: the closed facts of the row of ParseDeep, one by one.
-/
import Derived.Test.YtknckiblofochaaGreatDoorRows
import Derived.Test.YtknckiblofochaaGreatDoorTie
import Derived.Test.YtknckiblofochaaGreatDoorCards
import Derived.WalkKit
import Derived.ProofKit
import Derived.OpenShut
import Derived.Carry
import Derived.Stop.Joined
namespace Go.Proofs.YtknckiblofochaaGreatDoor
open Go.ChangeShapes Go.WideShapes Go.ChangeAt Go.RowKit

set_option maxRecDepth 100000 in
set_option maxHeartbeats 8000000 in
theorem closedDeep : joinedFacts Tryz.pinned.checked.prog 10 Tryz.f10 Rows.parseDeepSpec Rows.parseDeepRow = true := by
  unfold joinedFacts
  simp only [Bool.and_eq_true]
  repeat' apply And.intro
  all_goals (as_aux_lemma => kernel_rfl)
end Go.Proofs.YtknckiblofochaaGreatDoor
