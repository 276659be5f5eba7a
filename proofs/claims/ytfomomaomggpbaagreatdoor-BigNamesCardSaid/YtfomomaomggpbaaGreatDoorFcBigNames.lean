/-
  The closed facts of the row of BigNames, one by one.
-/
import Derived.Test.YtfomomaomggpbaaGreatDoorRows
import Derived.Test.YtfomomaomggpbaaGreatDoorTie
import Derived.Test.YtfomomaomggpbaaGreatDoorCards
import Derived.WalkKit
import Derived.ProofKit
import Derived.OpenShut
import Derived.Carry
import Derived.Stop.Joined
namespace Go.Proofs.YtfomomaomggpbaaGreatDoor
open Go.ChangeShapes Go.WideShapes Go.ChangeAt Go.RowKit

set_option maxRecDepth 100000 in
set_option maxHeartbeats 8000000 in
theorem closedBigNames:joinedFacts Tryz.pinned.checked.prog 4 Tryz.f4 Rows.bigNamesSpec Rows.bigNamesRow=true:=by
 unfold joinedFacts
 simp only[Bool.and_eq_true]
 repeat' apply And.intro
 all_goals(as_aux_lemma=>kernel_rfl)
end Go.Proofs.YtfomomaomggpbaaGreatDoor
