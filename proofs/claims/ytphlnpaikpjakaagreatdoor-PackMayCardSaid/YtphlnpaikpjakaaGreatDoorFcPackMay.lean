/-
  The closed facts of the row of PackMay, one by one.
-/
import Derived.Test.YtphlnpaikpjakaaGreatDoorRows
import Derived.Test.YtphlnpaikpjakaaGreatDoorTie
import Derived.Test.YtphlnpaikpjakaaGreatDoorCards
import Derived.WalkKit
import Derived.ProofKit
import Derived.OpenShut
import Derived.Carry
import Derived.Stop.Joined
namespace Go.Proofs.YtphlnpaikpjakaaGreatDoor
open Go.ChangeShapes Go.WideShapes Go.ChangeAt Go.RowKit

set_option maxRecDepth 100000 in
set_option maxHeartbeats 8000000 in
theorem closedPackMay:joinedFacts Tryz.pinned.checked.prog 5 Tryz.f5 Rows.packMaySpec Rows.packMayRow=true:=by
 unfold joinedFacts
 simp only[Bool.and_eq_true]
 repeat' apply And.intro
 all_goals(as_aux_lemma=>kernel_rfl)
end Go.Proofs.YtphlnpaikpjakaaGreatDoor
