/-
  Closed facts of the program and of the start that all rows share.
-/
import Derived.Test.YtfcegaklbicmfaaGreatDoorRows
import Derived.Test.YtfcegaklbicmfaaGreatDoorTie
import Derived.Test.YtfcegaklbicmfaaGreatDoorCards
import Derived.WalkKit
import Derived.ProofKit
import Derived.OpenShut
import Derived.Carry
import Derived.Stop.Joined
import Derived.Test.YtfcegaklbicmfaaGreatDoorJnPrD
set_option maxHeartbeats 4000000
namespace Go.Proofs.YtfcegaklbicmfaaGreatDoor
open Go.ChangeShapes Go.WideShapes Go.ChangeAt Go.RowKit

theorem prOwn : ownKnob Tryz.prog.godebug = none := by kernel_rfl
theorem prDoor (os : Os) (args : Array Value) : laidMetH Tryz.prog Rows.printNamesRow.laid ((World.doorLaid Tryz.prog 86 os).forCall (fun _ _ => 0) ⟨#[], args, []⟩).memory :=
 laidMetH_of_parts3 (fuel := 8) (laidMet_of_run' 8 (by as_aux_lemma => kernel_rfl) (by as_aux_lemma => kernel_rfl)) (by as_aux_lemma => kernel_rfl) (by as_aux_lemma => kernel_rfl)
theorem prShaped (os : Os) (args : Array Value) : ((World.doorLaid Tryz.prog 86 os).forCall (fun _ _ => 0) ⟨#[], args, []⟩).Shaped Tryz.prog :=
 World.shaped_of_RefB (by as_aux_lemma => kernel_rfl) (by as_aux_lemma => kernel_rfl)
theorem prLooks : true = Tryz.pinned.checked.prog.looks [] := by kernel_rfl
theorem prMain : Tryz.pinned.checked.prog.mainIs = some (true, "29a54f6d9859107dcf69a3e0da25a0e3de96a22d1b7079a71856e1de43d0504f".toList) := by kernel_rfl
theorem prStand (t : TypeId) (h : 9 = t) : Tryz.prog.wantsStandIn t = false := by
 subst h
 kernel_rfl
end Go.Proofs.YtfcegaklbicmfaaGreatDoor
