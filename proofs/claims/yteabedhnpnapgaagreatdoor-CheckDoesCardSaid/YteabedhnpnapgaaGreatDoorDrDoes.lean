/-
  Closed facts of the program and of the start that all rows share.
-/
import Derived.Test.YteabedhnpnapgaaGreatDoorRows
import Derived.Test.YteabedhnpnapgaaGreatDoorTie
import Derived.Test.YteabedhnpnapgaaGreatDoorCards
import Derived.WalkKit
import Derived.ProofKit
import Derived.OpenShut
import Derived.Carry
import Derived.Stop.Joined
import Derived.Test.YteabedhnpnapgaaGreatDoorSpLaid
namespace Go.Proofs.YteabedhnpnapgaaGreatDoor
open Go.ChangeShapes Go.WideShapes Go.ChangeAt Go.RowKit

theorem prOwn : ownKnob Tryz.prog.godebug = none := by kernel_rfl
theorem prLaidOut : laidOutB Tryz.prog = true := by kernel_rfl
set_option maxHeartbeats 4000000 in
theorem prDoor (os : Os) (args : Array Value) : laidMetH Tryz.prog Rows.checkDoesRow.laid ((World.doorLaid Tryz.prog 86 os).forCall (fun _ _ => 0) ⟨#[], args, []⟩).memory :=
  laidMetH_of_parts3 (fuel := 8) (laidMet_of_run' 8 (by as_aux_lemma => kernel_rfl) (by as_aux_lemma => kernel_rfl)) (by as_aux_lemma => kernel_rfl) (by as_aux_lemma => kernel_rfl)
set_option maxHeartbeats 4000000 in
theorem prShaped (os : Os) (args : Array Value) : ((World.doorLaid Tryz.prog 86 os).forCall (fun _ _ => 0) ⟨#[], args, []⟩).Shaped Tryz.prog :=
  World.shaped_of_RefB (by as_aux_lemma => kernel_rfl) (by as_aux_lemma => kernel_rfl)
set_option maxHeartbeats 4000000 in
theorem prLooks : false = Tryz.pinned.checked.prog.looks [] := by kernel_rfl
theorem prMain : Tryz.pinned.checked.prog.mainIs = some (true, "1c355501ed558ed08b28ddfb7a8c38ea1f18406d3f6eaab945601584248db19d".toList) := by kernel_rfl
theorem prStand (t : TypeId) (h : 9 = t) : Tryz.prog.wantsStandIn t = false := by
  subst h
  kernel_rfl
theorem prStandT (t : TypeId) (h : 27 = t) : Tryz.prog.wantsStandIn t = false := by
  subst h
  kernel_rfl
end Go.Proofs.YteabedhnpnapgaaGreatDoor
