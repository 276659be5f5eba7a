/-
  What the library's table of blanks holds, out of the row's condition.
-/
import Derived.Test.YteabedhnpnapgaaGreatDoorLxKey
import Derived.LaidMore
import Derived.Stop.LaidErr
import Derived.MakeChecks
import Derived.Lib.LaidTab
import Derived.LaidLaws
import Derived.RowKitTokens
namespace Go.Proofs.YteabedhnpnapgaaGreatDoor
open Go.RowKit Go.Shelf Go.ChangeShapes Go.WideShapes
set_option linter.unusedVariables false
set_option linter.unusedSimpArgs false

theorem gSpace : Tryz.prog.globalNamed "strings.asciiSpace" = some 0 := by kernel_rfl
theorem tSpace : (Tryz.prog.globals[0]?).map (·.type) = some 129 := by kernel_rfl
theorem cU8 : Tryz.prog.cellsOf 5 = 1 := by kernel_rfl
theorem cSpace : Tryz.prog.cellsOf 129 = 256 := by kernel_rfl
set_option maxRecDepth 100000 in
theorem dSpace {H : Type} : (Rows.laid_strings_asciiSpace : DataW H) = Lib.tabData .u8 Lib.asciiSpaceTab := by rfl
theorem spaces_of_laid {W : World} (hL : laidMet Tryz.prog [("unicode.White_Space", Rows.laid_unicode_White_Space), ("strings.asciiSpace", Rows.laid_strings_asciiSpace)] W) : SpEnv W := by
  have h7 := hL.tail
  rw [dSpace] at h7
  exact ⟨Lib.tabIs_of_head gSpace tSpace Tryz.underlying129 Tryz.underlying5 cU8 cSpace h7⟩
end Go.Proofs.YteabedhnpnapgaaGreatDoor
