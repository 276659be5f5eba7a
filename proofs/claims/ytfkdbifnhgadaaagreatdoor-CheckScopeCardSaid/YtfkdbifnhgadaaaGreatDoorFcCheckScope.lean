/-
  The closed facts of the row of CheckScope, one by one.
-/
import Derived.Test.YtfkdbifnhgadaaaGreatDoorRows
import Derived.Test.YtfkdbifnhgadaaaGreatDoorTie
import Derived.Test.YtfkdbifnhgadaaaGreatDoorCards
import Derived.WalkKit
import Derived.ProofKit
import Derived.OpenShut
import Derived.Carry
import Derived.Stop.Joined
namespace Go.Proofs.YtfkdbifnhgadaaaGreatDoor
open Go.ChangeShapes Go.WideShapes Go.ChangeAt Go.RowKit

set_option maxRecDepth 100000 in
set_option maxHeartbeats 8000000 in
theorem closedCheckScope : joinedFacts Tryz.pinned.checked.prog 7 Tryz.f7 Rows.checkScopeSpec Rows.checkScopeRow = true := by
  unfold joinedFacts
  simp only [Bool.and_eq_true]
  repeat' apply And.intro
  all_goals (as_aux_lemma => kernel_rfl)
end Go.Proofs.YtfkdbifnhgadaaaGreatDoor
