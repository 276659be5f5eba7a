/-
  Plain laws of names: when nothing is wrong with a tree's names. No program.
-/
import Derived.Test.YtobegfbdedgmpaaGreatDoorJnCkC
import Derived.Test.YtobegfbdedgmpaaGreatDoorMpKey
import Derived.BigRegion
import Derived.StillTail
import Derived.StillTailTactics
import Derived.Deep.DeepCutAuto
import Derived.BigQuiet
set_option linter.unusedVariables false
set_option linter.unusedSimpArgs false
namespace Go.Proofs.YtobegfbdedgmpaaGreatDoor
open Go.RowKit Go.Shelf Go.Maps

theorem toList_data (a b:ByteArray):(a.toList=b.toList)↔(a.data.toList=b.data.toList):=by
 simp only[ByteArray.toList_eq]<;>rfl
end Go.Proofs.YtobegfbdedgmpaaGreatDoor
