/-
  Contracts of Go's library at this program, written by the kit's tool lay-plain.
-/
import Derived.Shelf.Sort.Plain
import Derived.Shelf.Slices.Turned
import Derived.Shelf.Slices.Clone
import Derived.Shelf.Slices.CompactI
import Derived.Shelf.Slices.In.SortNone
import Derived.Test.YtphlnpaikpjakaaProg
namespace Go.Proofs
open Go.Shelf
def Try.lays189_ren:Go.Shelf.Ren:=⟨fun|189=>15|125=>39|257=>38|128=>64|129=>65|294=>55|295=>56|296=>57|297=>58|298=>59|299=>60|216=>61|300=>62|301=>63|328=>73|329=>74|330=>75|331=>76|332=>77|215=>78|343=>79|n=>n,fun|28=>22|3=>3|46=>76|0=>0|51=>101|53=>103|4=>4|183=>94|182=>93|131=>98|5=>5|9=>9|218=>109|222=>113|228=>116|229=>117|n=>n,fun|n=>n⟩
theorem Try.lays189:Go.Proofs.Lays.n189 Try.prog Try.lays189_ren:={
 mixed:=by kernel_rfl
 f125:=Try.func39.trans (congrArg some (by kernel_rfl))
 f128:=Try.func64.trans (congrArg some (by kernel_rfl))
 f129:=Try.func65.trans (congrArg some (by kernel_rfl))
 f189:=Try.func15.trans (congrArg some (by kernel_rfl))
 f215:=Try.func78.trans (congrArg some (by kernel_rfl))
 f216:=Try.func61.trans (congrArg some (by kernel_rfl))
 f257:=Try.func38.trans (congrArg some (by kernel_rfl))
 f294:=Try.func55.trans (congrArg some (by kernel_rfl))
 f295:=Try.func56.trans (congrArg some (by kernel_rfl))
 f296:=Try.func57.trans (congrArg some (by kernel_rfl))
 f297:=Try.func58.trans (congrArg some (by kernel_rfl))
 f298:=Try.func59.trans (congrArg some (by kernel_rfl))
 f299:=Try.func60.trans (congrArg some (by kernel_rfl))
 f300:=Try.func62.trans (congrArg some (by kernel_rfl))
 f301:=Try.func63.trans (congrArg some (by kernel_rfl))
 f328:=Try.func73.trans (congrArg some (by kernel_rfl))
 f329:=Try.func74.trans (congrArg some (by kernel_rfl))
 f330:=Try.func75.trans (congrArg some (by kernel_rfl))
 f331:=Try.func76.trans (congrArg some (by kernel_rfl))
 f332:=Try.func77.trans (congrArg some (by kernel_rfl))
 f343:=Try.func79.trans (congrArg some (by kernel_rfl))
 t0:=Try.underlying0
 a0:=Try.isAgg0
 z0:=Try.sizeOf0
 v0:=Try.zeroValue0
 t3:=Try.underlying3
 a3:=Try.isAgg3
 z3:=Try.sizeOf3
 v3:=Try.zeroValue3
 t4:=Try.underlying4
 a4:=Try.isAgg4
 z4:=Try.sizeOf4
 v4:=Try.zeroValue4
 t5:=Try.underlying5
 a5:=Try.isAgg5
 z5:=Try.sizeOf5
 v5:=Try.zeroValue5
 t9:=Try.underlying9
 a9:=Try.isAgg9
 z9:=Try.sizeOf9
 v9:=Try.zeroValue9
 t28:=Try.underlying22
 a28:=Try.isAgg22
 z28:=Try.sizeOf22
 v28:=Try.zeroValue22
 t46:=Try.underlying76
 a46:=Try.isAgg76
 z46:=Try.sizeOf76
 v46:=Try.zeroValue76
 t51:=Try.underlying101
 a51:=Try.isAgg101
 z51:=Try.sizeOf101
 v51:=Try.zeroValue101
 t53:=Try.underlying103
 a53:=Try.isAgg103
 z53:=Try.sizeOf103
 v53:=Try.zeroValue103
 t131:=Try.underlying98
 a131:=Try.isAgg98
 z131:=Try.sizeOf98
 v131:=Try.zeroValue98
 t182:=Try.underlying93
 a182:=Try.isAgg93
 z182:=Try.sizeOf93
 v182:=Try.zeroValue93
 t183:=Try.underlying94
 a183:=Try.isAgg94
 z183:=Try.sizeOf94
 v183:=Try.zeroValue94
 t218:=Try.underlying109
 a218:=Try.isAgg109
 z218:=Try.sizeOf109
 v218:=Try.zeroValue109
 t222:=Try.underlying113
 a222:=Try.isAgg113
 z222:=Try.sizeOf113
 v222:=Try.zeroValue113
 t228:=Try.underlying116
 a228:=Try.isAgg116
 z228:=Try.sizeOf116
 v228:=Try.zeroValue116
 t229:=Try.underlying117
 a229:=Try.isAgg117
 z229:=Try.sizeOf117
 v229:=Try.zeroValue117}
open Go.Sort Go.RowKit in
theorem Try.slices_Sort_int (blk off cap:Nat) (zs:List Int) (w:World) (hH:Holds (Value.int .i64) w blk off zs.toArray) (hblk:blk < w.heap.size) (hsz:zs.length < 4611686018427387904):
  Calls Try.prog 15 #[.slice (some ⟨blk,off,none⟩) zs.length cap] w fun e w'=>
   e= .returned (.tuple #[])∧∃n os,w'=grow (putRow (Value.int .i64) (Sort.ahead w n) blk off (zs.mergeSort fun x y=>decide (x≤y)).toArray) os:=Any.slices_Sort_int Try.lays189 blk off cap zs w hH hblk hsz
def Try.lays108_ren:Go.Shelf.Ren:=⟨fun|108=>24|n=>n,fun|28=>22|3=>3|0=>0|4=>4|n=>n,fun|n=>n⟩
theorem Try.lays108:Go.Proofs.Lays.n108 Try.prog Try.lays108_ren:={
 mixed:=by kernel_rfl
 f108:=Try.func24.trans (congrArg some (by kernel_rfl))
 t0:=Try.underlying0
 a0:=Try.isAgg0
 z0:=Try.sizeOf0
 v0:=Try.zeroValue0
 t3:=Try.underlying3
 a3:=Try.isAgg3
 z3:=Try.sizeOf3
 v3:=Try.zeroValue3
 t4:=Try.underlying4
 a4:=Try.isAgg4
 z4:=Try.sizeOf4
 v4:=Try.zeroValue4
 t28:=Try.underlying22
 a28:=Try.isAgg22
 z28:=Try.sizeOf22
 v28:=Try.zeroValue22}
open Go.Lib in
theorem Try.slices_Index_int (b off n c:Nat) (zs:List Int) (x:Int) (w:World) (hz:n≤zs.length) (hbig:n≤9223372036854775807) (hc:∀j,j < zs.length→w.cell? ⟨b,off+j,none⟩=some (.int .i64 (zs.getD j 0))):
  Calls Try.prog 24 #[.slice (some ⟨b,off,none⟩) n c,.int .i64 x] w fun e w'=>e= .returned (.int .i64 (Lib.idxOf (zs.take n) x))∧w'=w:=Any.slices_Index_int Try.lays108 b off n c zs x w hz hbig hc
open Go.Lib in
theorem Try.slices_Index_int_empty (a:Option Addr) (c:Nat) (x:Int) (w:World):
  Calls Try.prog 24 #[.slice a 0 c,.int .i64 x] w fun e w'=>e= .returned (.int .i64 (Lib.idxOf [] x))∧w'=w:=Any.slices_Index_int_empty Try.lays108 a c x w
def Try.lays107_ren:Go.Shelf.Ren:=⟨fun|107=>23|108=>24|n=>n,fun|28=>22|3=>3|4=>4|0=>0|n=>n,fun|n=>n⟩
theorem Try.lays107:Go.Proofs.Lays.n107 Try.prog Try.lays107_ren:={
 mixed:=by kernel_rfl
 f107:=Try.func23.trans (congrArg some (by kernel_rfl))
 f108:=Try.func24.trans (congrArg some (by kernel_rfl))
 t0:=Try.underlying0
 a0:=Try.isAgg0
 z0:=Try.sizeOf0
 v0:=Try.zeroValue0
 t3:=Try.underlying3
 a3:=Try.isAgg3
 z3:=Try.sizeOf3
 v3:=Try.zeroValue3
 t4:=Try.underlying4
 a4:=Try.isAgg4
 z4:=Try.sizeOf4
 v4:=Try.zeroValue4
 t28:=Try.underlying22
 a28:=Try.isAgg22
 z28:=Try.sizeOf22
 v28:=Try.zeroValue22}
open Go.Lib in
theorem Try.slices_Contains_int (b off n c:Nat) (zs:List Int) (x:Int) (w:World) (hz:n≤zs.length) (hbig:n≤9223372036854775807) (hc:∀j,j < zs.length→w.cell? ⟨b,off+j,none⟩=some (.int .i64 (zs.getD j 0))):
  Calls Try.prog 23 #[.slice (some ⟨b,off,none⟩) n c,.int .i64 x] w fun e w'=>e= .returned (.bool ((zs.take n).contains x))∧w'=w:=Any.slices_Contains_int Try.lays107 b off n c zs x w hz hbig hc
open Go.Lib in
theorem Try.slices_Contains_int_empty (a:Option Addr) (c:Nat) (x:Int) (w:World):
  Calls Try.prog 23 #[.slice a 0 c,.int .i64 x] w fun e w'=>e= .returned (.bool false)∧w'=w:=Any.slices_Contains_int_empty Try.lays107 a c x w
def Try.laysNm215_ren:Go.Shelf.Ren:=⟨fun|15=>18|n=>n,fun|22=>22|3=>3|4=>4|n=>n,fun|n=>n⟩
theorem Try.laysNm215:Go.Proofs.Lays2.n15 Try.prog Try.laysNm215_ren:={
 mixed:=by kernel_rfl
 f15:=Try.func18.trans (congrArg some (by kernel_rfl))
 t3:=Try.underlying3
 a3:=Try.isAgg3
 z3:=Try.sizeOf3
 v3:=Try.zeroValue3
 t4:=Try.underlying4
 a4:=Try.isAgg4
 z4:=Try.sizeOf4
 v4:=Try.zeroValue4
 t22:=Try.underlying22
 a22:=Try.isAgg22
 z22:=Try.sizeOf22
 v22:=Try.zeroValue22
 i3:=by kernel_rfl}
open Go.RowKit Go.Lib in
theorem Try.slices_Clone_int (b off n c:Nat) (zs:List Int) (w:World) (hz:n≤zs.length) (hbig:n*8≤140737488355328) (hc:∀j,j < zs.length→w.cell? ⟨b,off+j,none⟩=some (.int .i64 (zs.getD j 0))):
  Calls Try.prog 18 #[.slice (some ⟨b,off,none⟩) n c] w fun e w'=>∃v',e= .returned v'∧w'.ownsRow w.heap.size 3 1 v' n ((zs.take n).map (Value.int .i64))∧v'≠ .slice none 0 0∧Below w.heap.size w w':=Any.slices_Clone_int Try.laysNm215 b off n c zs w hz hbig hc
def Try.laysNm220_ren:Go.Shelf.Ren:=⟨fun|20=>16|n=>n,fun|22=>22|3=>3|4=>4|0=>0|n=>n,fun|n=>n⟩
theorem Try.laysNm220:Go.Proofs.Lays2.n20 Try.prog Try.laysNm220_ren:={
 mixed:=by kernel_rfl
 f20:=Try.func16.trans (congrArg some (by kernel_rfl))
 t0:=Try.underlying0
 a0:=Try.isAgg0
 z0:=Try.sizeOf0
 v0:=Try.zeroValue0
 t3:=Try.underlying3
 a3:=Try.isAgg3
 z3:=Try.sizeOf3
 v3:=Try.zeroValue3
 t4:=Try.underlying4
 a4:=Try.isAgg4
 z4:=Try.sizeOf4
 v4:=Try.zeroValue4
 t22:=Try.underlying22
 a22:=Try.isAgg22
 z22:=Try.sizeOf22
 v22:=Try.zeroValue22
 i3:=by kernel_rfl}
open Go.RowKit Go.Lib Go.Sort in
theorem Try.slices_Compact_int (blk off cap:Nat) (zs:List Int) (w:World) (hH:Holds (Value.int .i64) w blk off zs.toArray) (hsz:zs.length≤9223372036854775807) (hcap:zs.length≤cap):
  Calls Try.prog 16 #[.slice (some ⟨blk,off,none⟩) zs.length cap] w fun e w'=>e= .returned (.slice (some ⟨blk,off,none⟩) (Lib.compact zs).length cap)∧∃q,w'=putRow (Value.int .i64) (Sort.ahead w q) blk off (Lib.compact zs++List.replicate (zs.length - (Lib.compact zs).length) 0).toArray :=Any.slices_Compact_int Try.laysNm220 blk off cap zs w hH hsz hcap
open Go.RowKit Go.Lib Go.Sort in
theorem Try.slices_Compact_int_empty (a:Option Addr) (cap:Nat) (w:World):
  Calls Try.prog 16 #[.slice a 0 cap] w fun e w'=>e= .returned (.slice a 0 cap)∧w'=w:=Any.slices_Compact_int_empty Try.laysNm220 a cap w
open Go.RowKit Go.Sort in
theorem Try.slices_Sort_int_none (p:Option Addr) (cap:Nat) (w:World):
  Calls Try.prog 15 #[.slice p 0 cap] w fun e w'=>e= .returned (.tuple #[])∧w'=w:=Any.slices_Sort_int_none Try.lays189 p cap w
end Go.Proofs
