/-
  The closed facts of the row of PackApart, one by one.
-/
import Derived.Test.YtphlnpaikpjakaaGreatDoorRows
import Derived.Test.YtphlnpaikpjakaaGreatDoorTie
import Derived.Test.YtphlnpaikpjakaaGreatDoorCards
import Derived.WalkKit
import Derived.ProofKit
import Derived.OpenShut
import Derived.Carry
import Derived.Stop.Joined
namespace Go.Proofs.YtphlnpaikpjakaaGreatDoor
open Go.ChangeShapes Go.WideShapes Go.ChangeAt Go.RowKit

set_option maxRecDepth 100000 in
set_option maxHeartbeats 8000000 in
theorem closedPackApart:joinedFacts Tryz.pinned.checked.prog 4 Tryz.f4 Rows.packApartSpec Rows.packApartRow=true:=by
 unfold joinedFacts
 simp only[Bool.and_eq_true]
 repeat' apply And.intro
 all_goals(as_aux_lemma=>kernel_rfl)
end Go.Proofs.YtphlnpaikpjakaaGreatDoor
