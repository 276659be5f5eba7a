/-
  What the library's tables of blanks and of powers of ten hold, out of the row's condition.
-/
import Derived.Test.YtmopichdofgndaaGreatDoorJgLr
import Derived.LaidMore
import Derived.Stop.LaidErr
import Derived.MakeChecks
import Derived.Lib.LaidTab
import Derived.LaidLaws
import Derived.RowKitTokens
set_option linter.unusedVariables false
set_option linter.unusedSimpArgs false
namespace Go.Proofs.YtmopichdofgndaaGreatDoor
open Go.RowKit Go.Shelf Go.ChangeShapes Go.WideShapes

structure TwEnv (w:World):Prop where
 sp:SpEnv w
 tab:Lib.TabIs Tryz.prog w "internal/strconv.uint64pow10" .u64 Lib.pow10Tab
theorem TwEnv.keep {w w':World} (h:TwEnv w) (hb:Below w.heap.size w w'):TwEnv w':=
 ⟨h.sp.keep hb,by have:=h.tab;unfold Lib.TabIs at this ⊢;exact var_keep hb this⟩

theorem gPow:Tryz.prog.globalNamed "internal/strconv.uint64pow10" =some 1:=by kernel_rfl
theorem gSpace:Tryz.prog.globalNamed "strings.asciiSpace" =some 0:=by kernel_rfl
theorem tPow:(Tryz.prog.globals[1]?).map (·.type)=some 274:=by kernel_rfl
theorem tSpace:(Tryz.prog.globals[0]?).map (·.type)=some 267:=by kernel_rfl
theorem cU64:Tryz.prog.cellsOf 254=1:=by kernel_rfl
theorem cU8:Tryz.prog.cellsOf 5=1:=by kernel_rfl
theorem cPow:Tryz.prog.cellsOf 274=20:=by kernel_rfl
theorem cSpace:Tryz.prog.cellsOf 267=256:=by kernel_rfl
theorem dPow {H:Type}:(Rows.laid_internal_strconv_uint64pow10:DataW H)=Lib.tabData .u64 Lib.pow10Tab:=by rfl
set_option maxRecDepth 100000 in
theorem dSpace {H:Type}:(Rows.laid_strings_asciiSpace:DataW H)=Lib.tabData .u8 Lib.asciiSpaceTab:=by rfl
theorem names_of_laid {W:World} (hL:laidMet Tryz.prog [("math/bits.deBruijn32tab",Rows.laid_math_bits_deBruijn32tab),("math/bits.deBruijn64tab",Rows.laid_math_bits_deBruijn64tab),("internal/strconv.uint64pow10",Rows.laid_internal_strconv_uint64pow10),("unicode.White_Space",Rows.laid_unicode_White_Space),("strings.asciiSpace",Rows.laid_strings_asciiSpace)] W):TwEnv W:=by
 have h2:=hL.tail.tail
 have h7:=h2.tail.tail
 rw[dPow]at h2
 rw[dSpace]at h7
 exact⟨⟨Lib.tabIs_of_head gSpace tSpace Tryz.underlying267 Tryz.underlying5 cU8 cSpace h7⟩,Lib.tabIs_of_head gPow tPow Tryz.underlying274 Tryz.underlying254 cU64 cPow h2⟩
end Go.Proofs.YtmopichdofgndaaGreatDoor
