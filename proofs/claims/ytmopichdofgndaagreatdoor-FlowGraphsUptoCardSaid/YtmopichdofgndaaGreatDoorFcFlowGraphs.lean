/- The closed facts of the row of FlowGraphs, one by one. -/
import Derived.Test.YtmopichdofgndaaGreatDoorRows
import Derived.Test.YtmopichdofgndaaGreatDoorTie
import Derived.Test.YtmopichdofgndaaGreatDoorCards
import Derived.WalkKit
import Derived.ProofKit
import Derived.OpenShut
import Derived.Carry
import Derived.Stop.Joined
namespace Go.Proofs.YtmopichdofgndaaGreatDoor
open Go.ChangeShapes Go.WideShapes Go.ChangeAt Go.RowKit
set_option maxRecDepth 100000 in
set_option maxHeartbeats 8000000 in
theorem zc5:joinedFacts Tryz.pinned.checked.prog 5 Tryz.f5 (Rows.OpenSpec.upto Rows.flowGraphsSpec).bare Rows.flowGraphsUptoRow=true:=by
 unfold joinedFacts;simp only[Bool.and_eq_true]
 repeat' apply And.intro
 all_goals(as_aux_lemma=>kernel_rfl)
