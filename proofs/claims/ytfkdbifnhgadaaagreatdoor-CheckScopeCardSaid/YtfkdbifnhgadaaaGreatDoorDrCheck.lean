/-
  Closed facts of the program and of the start that all rows share.
-/
import Derived.Test.YtfkdbifnhgadaaaGreatDoorRows
import Derived.Test.YtfkdbifnhgadaaaGreatDoorTie
import Derived.Test.YtfkdbifnhgadaaaGreatDoorCards
import Derived.WalkKit
import Derived.ProofKit
import Derived.OpenShut
import Derived.Carry
import Derived.Stop.Joined
import Derived.Test.YtfkdbifnhgadaaaGreatDoorPrLaid
namespace Go.Proofs.YtfkdbifnhgadaaaGreatDoor
open Go.ChangeShapes Go.WideShapes Go.ChangeAt Go.RowKit

theorem prOwn : ownKnob Tryz.prog.godebug = none := by kernel_rfl
theorem prLaidOut : laidOutB Tryz.prog = true := by kernel_rfl
set_option maxHeartbeats 4000000 in
theorem prDoor (os : Os) (args : Array Value) : laidMetH Tryz.prog Rows.checkNamesRow.laid ((World.doorLaid Tryz.prog 86 os).forCall (fun _ _ => 0) ⟨#[], args, []⟩).memory :=
  laidMetH_of_parts3 (fuel := 8) (laidMet_of_run' 8 (by as_aux_lemma => kernel_rfl) (by as_aux_lemma => kernel_rfl)) (by as_aux_lemma => kernel_rfl) (by as_aux_lemma => kernel_rfl)
set_option maxHeartbeats 4000000 in
theorem prShaped (os : Os) (args : Array Value) : ((World.doorLaid Tryz.prog 86 os).forCall (fun _ _ => 0) ⟨#[], args, []⟩).Shaped Tryz.prog :=
  World.shaped_of_RefB (by as_aux_lemma => kernel_rfl) (by as_aux_lemma => kernel_rfl)
set_option maxHeartbeats 4000000 in
theorem prLooks : true = Tryz.pinned.checked.prog.looks [] := by kernel_rfl
theorem prMain : Tryz.pinned.checked.prog.mainIs = some (true, "bbee3464f9a9e81f02a0167c7d35ada8c370aa9f0db27cb9cf299bfc638a8863".toList) := by kernel_rfl
theorem prStand (t : TypeId) (h : 9 = t) : Tryz.prog.wantsStandIn t = false := by
  subst h
  kernel_rfl
theorem prStandT (t : TypeId) (h : 27 = t) : Tryz.prog.wantsStandIn t = false := by
  subst h
  kernel_rfl
end Go.Proofs.YtfkdbifnhgadaaaGreatDoor
