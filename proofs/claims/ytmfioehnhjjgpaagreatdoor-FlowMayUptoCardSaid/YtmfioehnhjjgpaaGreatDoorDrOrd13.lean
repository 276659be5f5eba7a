/-
  Closed facts of the program and of the start that all rows share.
-/
import Derived.Test.YtmfioehnhjjgpaaGreatDoorTie
import Derived.Test.YtmfioehnhjjgpaaGreatDoorCards
import Derived.ProofKit
import Derived.OpenShut
import Derived.Carry
import Derived.Stop.Joined
import Derived.Test.YtmfioehnhjjgpaaGreatDoorJnPrD
set_option maxHeartbeats 4000000
namespace Go.Proofs.YtmfioehnhjjgpaaGreatDoor
open Go.ChangeShapes Go.WideShapes Go.ChangeAt Go.RowKit

theorem prOwn:ownKnob Tryz.prog.godebug =none:=by kernel_rfl
theorem zkz:laidOutB Tryz.prog =true:=by kernel_rfl
theorem zp9 (os:Os) (args:Array Value):laidMetH Tryz.prog Rows.flowMayRow.laid ((World.doorLaid Tryz.prog 86 os).forCall (fun _ _=>0) ⟨#[],args, []⟩).memory :=
 laidMetH_of_parts3 (fuel:=8) (laidMet_of_run' 8 (by as_aux_lemma=>kernel_rfl) (by as_aux_lemma=>kernel_rfl)) (by as_aux_lemma=>kernel_rfl) (by as_aux_lemma=>kernel_rfl)
theorem zmS (os:Os) (args:Array Value):((World.doorLaid Tryz.prog 86 os).forCall (fun _ _=>0) ⟨#[],args, []⟩).Shaped Tryz.prog :=
 World.shaped_of_RefB (by as_aux_lemma=>kernel_rfl) (by as_aux_lemma=>kernel_rfl)
theorem zo7:true=Tryz.pinned.checked.prog.looks []:=by kernel_rfl
theorem zqa:Tryz.pinned.checked.prog.mainIs =some (true, "7dc9d41ffdfa190047cf5057b23e6950d9402c7d4b3a9bb9b1f96f77d2c2e2d9".toList):=by kernel_rfl
theorem prStand (t:TypeId) (h:9=t):Tryz.prog.wantsStandIn t=false:=by
 subst h
 kernel_rfl
theorem zmT (t:TypeId) (h:27=t):Tryz.prog.wantsStandIn t=false:=by
 subst h
 kernel_rfl
theorem prStandG (t:TypeId) (h:33=t):Tryz.prog.wantsStandIn t=false:=by
 subst h
 kernel_rfl
theorem in64_of {a:Int} (w:(Lit.int .i64 a).wf =true):in64 a:=by simpa[in64,Lit.wf,IntKind.min,IntKind.max,IntKind.signed,IntKind.bits]using w
end Go.Proofs.YtmfioehnhjjgpaaGreatDoor
