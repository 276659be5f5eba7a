/- The closed facts of the row of BigSteps, one by one. -/
import Derived.Test.YtfomomaomggpbaaGreatDoorRows
import Derived.Test.YtfomomaomggpbaaGreatDoorTie
import Derived.Test.YtfomomaomggpbaaGreatDoorCards
import Derived.WalkKit
import Derived.ProofKit
import Derived.OpenShut
import Derived.Carry
import Derived.Stop.Joined
namespace Go.Proofs.YtfomomaomggpbaaGreatDoor
open Go.ChangeShapes Go.WideShapes Go.ChangeAt Go.RowKit
set_option maxRecDepth 100000 in
set_option maxHeartbeats 8000000 in
theorem zey:joinedFacts Tryz.pinned.checked.prog 5 Tryz.f5 Rows.bigStepsSpec Rows.bigStepsRow=true:=by
 unfold joinedFacts;simp only[Bool.and_eq_true]
 repeat' apply And.intro
 all_goals(as_aux_lemma=>kernel_rfl)
