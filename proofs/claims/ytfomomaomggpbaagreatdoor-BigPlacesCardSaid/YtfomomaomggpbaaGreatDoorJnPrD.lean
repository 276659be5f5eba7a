/- What t. -/
import Derived.Test.YtfomomaomggpbaaGreatDoorJnPs
import Derived.LaidMore
import Derived.Stop.LaidErr
set_option linter.all false
namespace Go.Proofs.YtfomomaomggpbaaGreatDoor
open Go.RowKit Go.Shelf Go.ChangeShapes Go.WideShapes
theorem gPow:Tryz.prog.globalNamed "internal/strconv.uint64pow10" =some 4:=by kernel_rfl
theorem zpU:Tryz.prog.globalNamed "strconv.ErrRange" =some 3:=by kernel_rfl
theorem zpV:Tryz.prog.globalNamed "strings.asciiSpace" =some 0:=by kernel_rfl
theorem tPow:(Tryz.prog.globals[4]?).map (·.type)=some 370:=by kernel_rfl
theorem zpW:(Tryz.prog.globals[3]?).map (·.type)=some 288:=by kernel_rfl
theorem zpX:(Tryz.prog.globals[0]?).map (·.type)=some 334:=by kernel_rfl
theorem cU64:Tryz.prog.cellsOf 340=1:=by kernel_rfl
theorem cU8:Tryz.prog.cellsOf 5=1:=by kernel_rfl
theorem cPow:Tryz.prog.cellsOf 370=20:=by kernel_rfl
theorem zpY:Tryz.prog.cellsOf 334=256:=by kernel_rfl
theorem dPow {H:Type}:(Rows.laid_internal_strconv_uint64pow10:DataW H)=Lib.tabData .u64 Lib.pow10Tab:=by rfl
set_option maxRecDepth 100000 in
theorem zpZ {H:Type}:(Rows.laid_strings_asciiSpace:DataW H)=Lib.tabData .u8 Lib.asciiSpaceTab:=by rfl
theorem star: "*" ++ "errors.errorString" = "*errors.errorString" :=by decide
theorem zmW (u:TypeId)(h:Tryz.prog.typeName? 3 u=some "*errors.errorString"):u=387:=
 typeName_ptr_named (nm:= "errors.errorString") (by rw[star];kernel_rfl) (by kernel_rfl) (by decide) u (by rw[star];exact h)
theorem cErr:Tryz.prog.cellsOf 389=1:=by kernel_rfl
theorem cStr:Tryz.prog.cellsOf 9=1:=by kernel_rfl
theorem zhs {r:List (String×DataW Unit)}{W:World}(hL:laidMet Tryz.prog (("math/bits.deBruijn32tab",Rows.laid_math_bits_deBruijn32tab)::("math/bits.deBruijn64tab",Rows.laid_math_bits_deBruijn64tab)::("internal/strconv.uint64pow10",Rows.laid_internal_strconv_uint64pow10)::("strconv.ErrRange",Rows.laid_strconv_ErrRange)::r) W):LexEnv W:=by
 have h2:=hL.tail.tail;have h3:=h2.tail;rw[dPow]at h2;refine⟨?_,Lib.tabIs_of_head gPow tPow Tryz.underlying370 Tryz.underlying340 cU64 cPow h2⟩;obtain⟨a0,s0,Wy,_⟩:=laid_sentinel h3 zpU zpW Tryz.underlying288 zmW Tryz.underlying387 Tryz.underlying389 rfl rfl Tryz.underlying9 cErr cStr;exact⟨_,_,Wy⟩
theorem zfP {W:World}(hL:laidMet Tryz.prog [("math/bits.deBruijn32tab",Rows.laid_math_bits_deBruijn32tab),("math/bits.deBruijn64tab",Rows.laid_math_bits_deBruijn64tab),("internal/strconv.uint64pow10",Rows.laid_internal_strconv_uint64pow10),("strconv.ErrRange",Rows.laid_strconv_ErrRange),("strconv.ErrSyntax",Rows.laid_strconv_ErrSyntax),("unicode.White_Space",Rows.laid_unicode_White_Space),("strings.asciiSpace",Rows.laid_strings_asciiSpace)] W):NameEnv W:=by
 have h7:=hL.tail.tail.tail.tail.tail.tail;rw[zpZ]at h7;exact⟨zhs hL,Lib.tabIs_of_head zpV zpX Tryz.underlying334 Tryz.underlying5 cU8 zpY h7⟩
