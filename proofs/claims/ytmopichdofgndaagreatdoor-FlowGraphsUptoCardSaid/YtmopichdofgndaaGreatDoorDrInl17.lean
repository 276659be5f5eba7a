/- Closed facts of the program and of the start that all rows share. -/
import Derived.Test.YtmopichdofgndaaGreatDoorTie
import Derived.Test.YtmopichdofgndaaGreatDoorCards
import Derived.ProofKit
import Derived.Carry
import Derived.Stop.Joined
import Derived.Test.YtmopichdofgndaaGreatDoorJgSoftW
set_option maxHeartbeats 4000000
namespace Go.Proofs.YtmopichdofgndaaGreatDoor
open Go.ChangeShapes Go.WideShapes Go.ChangeAt Go.RowKit
theorem prOwn:ownKnob Tryz.prog.godebug =none:=by kernel_rfl
theorem zjY:laidOutB Tryz.prog =true:=by kernel_rfl
theorem znx (os:Os)(args:Array Value):laidMetH Tryz.prog Rows.inlineDoesRow.laid ((World.doorLaid Tryz.prog 86 os).forCall (λ_ _=>0) ⟨#[],args, []⟩).memory :=
 laidMetH_of_parts3 (fuel:=8) (laidMet_of_run' 8 (by as_aux_lemma=>kernel_rfl) (by as_aux_lemma=>kernel_rfl)) (by as_aux_lemma=>kernel_rfl) (by as_aux_lemma=>kernel_rfl)
theorem zlr (os:Os)(args:Array Value):((World.doorLaid Tryz.prog 86 os).forCall (λ_ _=>0) ⟨#[],args, []⟩).Shaped Tryz.prog :=
 World.shaped_of_RefB (by as_aux_lemma=>kernel_rfl) (by as_aux_lemma=>kernel_rfl)
theorem zmJ:false=Tryz.pinned.checked.prog.looks []:=by kernel_rfl
theorem zny:Tryz.pinned.checked.prog.mainIs =some (true, "51ef406f2d5a0d417f580c0b364799e75fa54428d24acddb007ba4c6a60a1c14".toList):=by kernel_rfl
theorem prStand (t:TypeId)(h:9=t):Tryz.prog.wantsStandIn t=false:=by
 subst h
 kernel_rfl
theorem zls (t:TypeId)(h:27=t):Tryz.prog.wantsStandIn t=false:=by
 subst h
 kernel_rfl
