/-
  What the library's tables of blanks and of powers of ten hold, out of the row's condition.
-/
import Derived.LaidMore
import Derived.Stop.LaidErr
import Derived.MakeChecks
import Derived.Lib.LaidTab
import Derived.LaidLaws
import Derived.RowKitTokens
import Derived.Test.YtmopichdofgndaaGreatDoorJgTpPut2
set_option linter.unusedVariables false
set_option linter.unusedSimpArgs false
set_option maxRecDepth 100000
namespace Go.Proofs.YtmopichdofgndaaGreatDoor
open Go.RowKit Go.Shelf Go.ChangeShapes Go.WideShapes

structure TwEnv (w:World):Prop where
 sp:SpEnv w
 tab:Lib.TabIs Tryz.prog w "internal/strconv.uint64pow10" .u64 Lib.pow10Tab
theorem TwEnv.keep {w w':World} (h:TwEnv w) (hb:Below w.heap.size w w'):TwEnv w':=
 ⟨h.sp.keep hb,by have:=h.tab;unfold Lib.TabIs at this ⊢;exact var_keep hb this⟩

theorem gPow:Tryz.prog.globalNamed "internal/strconv.uint64pow10" =some 1:=by kernel_rfl
theorem gSpace:Tryz.prog.globalNamed "strings.asciiSpace" =some 0:=by kernel_rfl
theorem tPow:(Tryz.prog.globals[1]?).map (·.type)=some 274:=by kernel_rfl
theorem tSpace:(Tryz.prog.globals[0]?).map (·.type)=some 267:=by kernel_rfl
theorem cU64:Tryz.prog.cellsOf 254=1:=by kernel_rfl
theorem cU8:Tryz.prog.cellsOf 5=1:=by kernel_rfl
theorem cPow:Tryz.prog.cellsOf 274=20:=by kernel_rfl
theorem cSpace:Tryz.prog.cellsOf 267=256:=by kernel_rfl
theorem dPow {H:Type}:(Rows.laid_internal_strconv_uint64pow10:DataW H)=Lib.tabData .u64 Lib.pow10Tab:=by rfl
theorem dSpace {H:Type}:(Rows.laid_strings_asciiSpace:DataW H)=Lib.tabData .u8 Lib.asciiSpaceTab:=by rfl
theorem names_of_laid {W:World} (hL:laidMet Tryz.prog [("math/bits.deBruijn32tab",Rows.laid_math_bits_deBruijn32tab),("math/bits.deBruijn64tab",Rows.laid_math_bits_deBruijn64tab),("internal/strconv.uint64pow10",Rows.laid_internal_strconv_uint64pow10),("unicode.White_Space",Rows.laid_unicode_White_Space),("strings.asciiSpace",Rows.laid_strings_asciiSpace)] W):TwEnv W:=by
 have h2:=hL.tail.tail
 have h7:=h2.tail.tail
 rw[dPow]at h2
 rw[dSpace]at h7
 exact⟨⟨Lib.tabIs_of_head gSpace tSpace Tryz.underlying267 Tryz.underlying5 cU8 cSpace h7⟩,Lib.tabIs_of_head gPow tPow Tryz.underlying274 Tryz.underlying254 cU64 cPow h2⟩

open Go.RowKit Go.Shelf

def TxP (s:ByteArray) (W:World) (e:Ending) (w':World):Prop:=e= .returned (.string s)∧Fr NoT W w'
theorem tlevel_any (k:Int) (h:1≤k∧k≤11) (nm:ByteArray) (n at_:Int) (sl:Value) (w:World):
  Calls Tryz.prog 230 #[.agg #[.int .u8 k,.string nm,.int .i64 n,sl,.int .i64 at_]] w fun e w'=>e= .returned (.int .i64 (lvlE k:Nat))∧Fr NoT w w':=by
 have HF:=hdq (show Fr NoT w (w.alloc (.cells #[.int .u8 k,.string nm,.int .i64 n,sl,.int .i64 at_] 41))from(Fr.refl _ _).alloc _)
 obtain rfl|rfl|rfl|rfl|rfl|rfl|rfl|rfl|rfl|rfl|rfl:k=1∨k=2∨k=3∨k=4∨k=5∨k=6∨k=7∨k=8∨k=9∨k=10∨k=11:=by omega
 all_goals
  clear h
  go_enter Tryz.func230,Tryz.ntmps230
  go_wp2_with fail
  go_ret
  exact⟨rfl,HF.out⟩
theorem tsign_any (k:Int) (h:5≤k∧k≤11) (w:World):
  Calls Tryz.prog 231 #[.int .u8 k] w (TxP (ba (sgnE k)) w):=by
 have HF:=hdq (show Fr NoT w (w.alloc (.cells #[.string ⟨#[43]⟩,.string ⟨#[45]⟩,.string ⟨#[42]⟩,.string ⟨#[47]⟩,.string ⟨#[37]⟩,.string ⟨#[60,60]⟩,.string ⟨#[62,62]⟩] 9))from(Fr.refl _ _).alloc _)
 have wr0:IntKind.u8.wrap 0=0:=by decide
 have wr1:IntKind.u8.wrap 1=1:=by decide
 have wr2:IntKind.u8.wrap 2=2:=by decide
 have wr3:IntKind.u8.wrap 3=3:=by decide
 have wr4:IntKind.u8.wrap 4=4:=by decide
 have wr5:IntKind.u8.wrap 5=5:=by decide
 have wr6:IntKind.u8.wrap 6=6:=by decide
 obtain rfl|rfl|rfl|rfl|rfl|rfl|rfl:k=5∨k=6∨k=7∨k=8∨k=9∨k=10∨k=11:=by omega
 all_goals
  clear h
  go_enter Tryz.func231,Tryz.ntmps231
  go_wp2_with fail
  go_ret
  exact⟨rfl,HF.out⟩
theorem TwEnv.itoa {w:World} (h:TwEnv w) (n:Int) (hn:in64 n):Calls Tryz.prog 39 #[.int .i64 n] w fun e w'=>e= .returned (.string (ba (Lib.itoa n)))∧Fr NoT w w':=by
 refine(Tryz.strconv_Itoa n hn.1 (by have:=hn.2;omega) w h.tab).mono ?_
 rintro e w' ⟨rfl,j,os,rfl⟩
 refine⟨rfl,rfl,rfl,rfl,by simp[Go.Sort.grow],fun i hi _=>?_⟩
 show(w.heap++os)[i]?=w.heap[i]?
 rw[Array.getElem?_append_left hi]
end Go.Proofs.YtmopichdofgndaaGreatDoor
