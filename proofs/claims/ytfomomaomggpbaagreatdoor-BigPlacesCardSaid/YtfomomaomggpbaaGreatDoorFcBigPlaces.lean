/- The cl. -/
import Derived.Test.YtfomomaomggpbaaGreatDoorTie
import Derived.Test.YtfomomaomggpbaaGreatDoorCards
import Derived.WalkKit
import Derived.ProofKit
import Derived.OpenShut
namespace Go.Proofs.YtfomomaomggpbaaGreatDoor
open Go.ChangeShapes Go.WideShapes Go.ChangeAt Go.RowKit
set_option maxRecDepth 100000 in
set_option maxHeartbeats 8000000 in
theorem zeP:joinedFacts Tryz.pinned.checked.prog 6 Tryz.f6 Rows.bigPlacesSpec Rows.bigPlacesRow=true:=by
 unfold joinedFacts;simp only[Bool.and_eq_true]
 repeat' apply And.intro
 all_goals(as_aux_lemma=>kernel_rfl)
