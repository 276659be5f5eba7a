/-
  Keys of maps that are texts.
-/
import Derived.Test.YtobegfbdedgmpaaGreatDoorRows
import Derived.WalkKit
import Derived.Maps.OwnSet
import Derived.Maps.OwnOps
import Derived.Maps.RangeWalk
set_option linter.unusedVariables false
set_option linter.unusedSimpArgs false
namespace Go.Proofs.YtobegfbdedgmpaaGreatDoor
open Go.RowKit Go.Maps

def heldB (v:Value):Option (DataW Value×List MemPlace):=some (.held v, [])
theorem strKey:Keyed Tryz.prog 9:=string_keyed Tryz.underlying9
theorem keyS {t:List UInt8} (h:t.length≤maxLen):keyOf Tryz.prog 9 (.string ⟨t.toArray⟩)=some (.string t):=by
 have:=WideMaps.keyOf_string_mk (P:=Tryz.prog) Tryz.underlying9 (s:=⟨t.toArray⟩) (by simpa[ByteArray.size]using h)
 simpa using this
end Go.Proofs.YtobegfbdedgmpaaGreatDoor
