/- Closed. -/
import Derived.Test.YtfomomaomggpbaaGreatDoorTie
import Derived.Test.YtfomomaomggpbaaGreatDoorCards
import Derived.Test.YtfomomaomggpbaaGreatDoorJnPrD
set_option maxHeartbeats 4000000
namespace Go.Proofs.YtfomomaomggpbaaGreatDoor
open Go.ChangeShapes Go.WideShapes Go.ChangeAt Go.RowKit
theorem prOwn:ownKnob Tryz.prog.godebug =none:=by kernel_rfl
theorem zgM:laidOutB Tryz.prog =true:=by kernel_rfl
theorem zp0 (os:Os)(args:Array Value):laidMetH Tryz.prog Rows.bigNamesRow.laid ((World.doorLaid Tryz.prog 86 os).forCall (λ_ _=>0) ⟨#[],args, []⟩).memory :=
 laidMetH_of_parts3 (fuel:=8) (laidMet_of_run' 8 (by as_aux_lemma=>kernel_rfl) (by as_aux_lemma=>kernel_rfl)) (by as_aux_lemma=>kernel_rfl) (by as_aux_lemma=>kernel_rfl)
theorem zmX (os:Os)(args:Array Value):((World.doorLaid Tryz.prog 86 os).forCall (λ_ _=>0) ⟨#[],args, []⟩).Shaped Tryz.prog :=
 World.shaped_of_RefB (by as_aux_lemma=>kernel_rfl) (by as_aux_lemma=>kernel_rfl)
theorem zoR:true=Tryz.pinned.checked.prog.looks []:=by kernel_rfl
theorem zp1:Tryz.pinned.checked.prog.mainIs =some (true, "5c31c9d822e83984afe6256ff46db40cb3cdc31348078a8c3f9ed3e38ac137d3".toList):=by kernel_rfl
theorem prStand (t:TypeId)(h:9=t):Tryz.prog.wantsStandIn t=false:=by
 subst h
 kernel_rfl
theorem zmY (t:TypeId)(h:27=t):Tryz.prog.wantsStandIn t=false:=by
 subst h
 kernel_rfl
theorem zmZ (t:TypeId)(h:3=t):Tryz.prog.wantsStandIn t=false:=by
 subst h
 kernel_rfl
theorem zm0 (t:TypeId)(h:28=t):Tryz.prog.wantsStandIn t=false:=by
 subst h
 kernel_rfl
theorem zoS {a:Int}(w:(Lit.int .i64 a).wf =true):in64 a:=by simpa[in64,Lit.wf,IntKind.min,IntKind.max,IntKind.signed,IntKind.bits]using w
