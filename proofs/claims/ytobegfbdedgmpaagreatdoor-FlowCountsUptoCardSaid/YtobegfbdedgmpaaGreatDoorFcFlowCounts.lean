/-
  The closed facts of the row of FlowCounts, one by one.
-/
import Derived.Test.YtobegfbdedgmpaaGreatDoorRows
import Derived.Test.YtobegfbdedgmpaaGreatDoorTie
import Derived.Test.YtobegfbdedgmpaaGreatDoorCards
import Derived.WalkKit
import Derived.ProofKit
import Derived.OpenShut
import Derived.Carry
import Derived.Stop.Joined
namespace Go.Proofs.YtobegfbdedgmpaaGreatDoor
open Go.ChangeShapes Go.WideShapes Go.ChangeAt Go.RowKit

set_option maxRecDepth 100000 in
set_option maxHeartbeats 8000000 in
theorem closedFlowCounts:joinedFacts Tryz.pinned.checked.prog 6 Tryz.f6 (Rows.OpenSpec.upto Rows.flowCountsSpec).bare Rows.flowCountsUptoRow=true:=by
 unfold joinedFacts
 simp only[Bool.and_eq_true]
 repeat' apply And.intro
 all_goals(as_aux_lemma=>kernel_rfl)
end Go.Proofs.YtobegfbdedgmpaaGreatDoor
