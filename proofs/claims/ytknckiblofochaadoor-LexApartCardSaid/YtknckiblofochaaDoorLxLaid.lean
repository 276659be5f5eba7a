/-
  What the listed variables of the library hold, out of the row's condition.
-/
import Derived.Test.YtknckiblofochaaDoorLxAlive
import Derived.LaidMore
import Derived.Stop.LaidErr
import Derived.MakeChecks
import Derived.Lib.LaidTab
import Derived.LaidLaws
import Derived.RowKitTokens
namespace Go.Proofs.YtknckiblofochaaDoor
open Go.RowKit Go.Shelf Go.ChangeShapes Go.WideShapes
set_option linter.unusedVariables false
set_option linter.unusedSimpArgs false

theorem gPow : Tryd.prog.globalNamed "internal/strconv.uint64pow10" = some 4 := by kernel_rfl
theorem gRange : Tryd.prog.globalNamed "strconv.ErrRange" = some 3 := by kernel_rfl
theorem gSpace : Tryd.prog.globalNamed "strings.asciiSpace" = some 0 := by kernel_rfl
theorem tPow : (Tryd.prog.globals[4]?).map (·.type) = some 95 := by kernel_rfl
theorem tRange : (Tryd.prog.globals[3]?).map (·.type) = some 45 := by kernel_rfl
theorem tSpace : (Tryd.prog.globals[0]?).map (·.type) = some 52 := by kernel_rfl
theorem cU64 : Tryd.prog.cellsOf 63 = 1 := by kernel_rfl
theorem cU8 : Tryd.prog.cellsOf 5 = 1 := by kernel_rfl
theorem cPow : Tryd.prog.cellsOf 95 = 20 := by kernel_rfl
theorem cSpace : Tryd.prog.cellsOf 52 = 256 := by kernel_rfl
theorem dPow {H : Type} : (Rows.laid_internal_strconv_uint64pow10 : DataW H) = Lib.tabData .u64 Lib.pow10Tab := by rfl
set_option maxRecDepth 100000 in
theorem dSpace {H : Type} : (Rows.laid_strings_asciiSpace : DataW H) = Lib.tabData .u8 Lib.asciiSpaceTab := by rfl
theorem star : "*" ++ "errors.errorString" = "*errors.errorString" := by decide
theorem oneNamed (u : TypeId) (h : Tryd.prog.typeName? 3 u = some "*errors.errorString") : u = 102 :=
  typeName_ptr_named (nm := "errors.errorString") (by rw [star]; kernel_rfl) (by kernel_rfl) (by decide) u (by rw [star]; exact h)
theorem cErr : Tryd.prog.cellsOf 104 = 1 := by kernel_rfl
theorem cStr : Tryd.prog.cellsOf 9 = 1 := by kernel_rfl
/-- THE LIST of five, and of seven -/
theorem env_of_laid {r : List (String × DataW Unit)} {W : World} (hL : laidMet Tryd.prog (("math/bits.deBruijn32tab", Rows.laid_math_bits_deBruijn32tab) :: ("math/bits.deBruijn64tab", Rows.laid_math_bits_deBruijn64tab) :: ("internal/strconv.uint64pow10", Rows.laid_internal_strconv_uint64pow10) :: ("strconv.ErrRange", Rows.laid_strconv_ErrRange) :: r) W) : LexEnv W := by
  have h2 := hL.tail.tail
  have h3 := h2.tail
  rw [dPow] at h2
  refine ⟨?_, Lib.tabIs_of_head gPow tPow Tryd.underlying95 Tryd.underlying63 cU64 cPow h2⟩
  obtain ⟨a0, s0, hv0, _⟩ := laid_sentinel h3 gRange tRange Tryd.underlying45 oneNamed Tryd.underlying102 Tryd.underlying104 rfl rfl Tryd.underlying9 cErr cStr
  exact ⟨_, _, hv0⟩
theorem names_of_laid {W : World} (hL : laidMet Tryd.prog [("math/bits.deBruijn32tab", Rows.laid_math_bits_deBruijn32tab), ("math/bits.deBruijn64tab", Rows.laid_math_bits_deBruijn64tab), ("internal/strconv.uint64pow10", Rows.laid_internal_strconv_uint64pow10), ("strconv.ErrRange", Rows.laid_strconv_ErrRange), ("strconv.ErrSyntax", Rows.laid_strconv_ErrSyntax), ("unicode.White_Space", Rows.laid_unicode_White_Space), ("strings.asciiSpace", Rows.laid_strings_asciiSpace)] W) : NameEnv W := by
  have h7 := hL.tail.tail.tail.tail.tail.tail
  rw [dSpace] at h7
  exact ⟨env_of_laid hL, Lib.tabIs_of_head gSpace tSpace Tryd.underlying52 Tryd.underlying5 cU8 cSpace h7⟩
end Go.Proofs.YtknckiblofochaaDoor
