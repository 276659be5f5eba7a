/-
  The law of chapter 14's second statement: sem.Value answers as the document says. Printed by wip/gen_svlaw.py.
-/
import Derived.Test.YtjeapacohgfpiaaSvValue
import Derived.Test.YtjeapacohgfpiaaSvRVal
import Derived.Test.YtjeapacohgfpiaaFlGreat
namespace Go.Proofs.Ytjeapacohgfpiaa
open Go.RowKit Go.Shelf
set_option linter.unusedVariables false

/-- six new blocks -/
theorem blk6 (w : World) (c0 c1 c2 c3 c4 c5 : Array Value) (t0 t1 t2 t3 t4 t5 : TypeId) (W : World) (hW : W = ((((((w.alloc (.cells c0 t0)).alloc (.cells c1 t1)).alloc (.cells c2 t2)).alloc (.cells c3 t3)).alloc (.cells c4 t4)).alloc (.cells c5 t5))) :
    Blk W w.heap.size t0 c0 ∧ Blk W (w.heap.size + 1) t1 c1 ∧ Blk W (w.heap.size + 1 + 1) t2 c2 ∧ Blk W (w.heap.size + 1 + 1 + 1) t3 c3 ∧ Blk W (w.heap.size + 1 + 1 + 1 + 1) t4 c4 ∧ Blk W (w.heap.size + 1 + 1 + 1 + 1 + 1) t5 c5 ∧ Below w.heap.size w W := by
  obtain ⟨a0, a1, a2, ha, hb⟩ := blk3 w c0 c1 c2 t0 t1 t2 _ rfl
  obtain ⟨b0, b1, b2, hc, hd⟩ := blk3 (((w.alloc (.cells c0 t0)).alloc (.cells c1 t1)).alloc (.cells c2 t2)) c3 c4 c5 t3 t4 t5 W hW
  simp only [World.size_alloc] at b0 b1 b2 hd
  exact ⟨a0.below hd (by omega), a1.below hd (by omega), a2.below hd (by omega), b0, b1, b2, hb.trans (hd.mono (by omega))⟩
/-- the graph of one edge that asks for the greatness of an expression -/
theorem bigSl {w : World} {B : Nat} (hB : B ≤ w.heap.size) {k : Int} {nm : ByteArray} {n : Int} {args : Exs} {at_ : Int} {A : Option Addr} {c : Nat}
    (hx : ExSl w B args A c) (hk : in8 k) (hn : in64 n) (hat : in64 at_) {b1 b2 : Nat} {t1 t2 : TypeId}
    (h1 : Blk w b1 t1 #[.int .u8 k, .string nm, .int .i64 n, .slice A args.len c, .int .i64 at_])
    (h2 : Blk w b2 t2 #[.int .i64 0, .int .i64 0, .int .u8 0, .int .i64 0, .int .u8 0, .slice (some ⟨b1, 0, none⟩) 1 1, .int .i64 0]) :
    EdSl w w.heap.size [{ from_ := 0, to_ := 0, kind := 0, n := 0, cmp := 0, args := .cons k nm n args at_ .nil, at_ := 0 }] (some ⟨b2, 0, none⟩) 1 := by
  refine ⟨by simp, by simp, fun _ => ⟨b2, 0, rfl, ?_⟩⟩
  refine ⟨h2.lt, h2.cell 0, h2.cell 1, h2.cell 2, h2.cell 3, h2.cell 4, ⟨some ⟨b1, 0, none⟩, 1, h2.cell 5, by simp [Exs.len], by simp, fun _ => ⟨b1, 0, rfl, ?_⟩⟩, h2.cell 6, ?_, trivial⟩
  · exact ⟨h1.lt, h1.cell 0, h1.cell 1, h1.cell 2, ⟨A, c, h1.cell 3, hx.more hB⟩, h1.cell 4, hk, hn, hat, trivial⟩
  · simp [Ed.ok, in64, in8]

set_option maxRecDepth 100000 in
set_option maxHeartbeats 3200000 in
theorem law_walk (vars nodes start last : Int) (Aa Ae Av Al A : Option Addr) (na ca ne ce nv cv nl cl l c : Nat) (k : Int) (nm : ByteArray) (n at_ : Int) (v q1 q2 q3 : Int) (w : World)
    (HG : ∀ W, Below w.heap.size w W → Calls Try.prog 11 #[.agg #[.int .i64 vars, .slice Aa na ca, .int .i64 nodes, .int .i64 start, .int .i64 last, .slice Ae ne ce]] W (SomeBool W))
    (HB : ∀ (W : World) (b1 b2 : Nat) (t1 t2 : TypeId), Below w.heap.size w W → Blk W b1 t1 #[.int .u8 k, .string nm, .int .i64 n, .slice A l c, .int .i64 at_] → Blk W b2 t2 #[.int .i64 0, .int .i64 0, .int .u8 0, .int .i64 0, .int .u8 0, .slice (some ⟨b1, 0, none⟩) 1 1, .int .i64 0] →
      Calls Try.prog 11 #[.agg #[.int .i64 0, .slice none 0 0, .int .i64 0, .int .i64 0, .int .i64 0, .slice (some ⟨b2, 0, none⟩) 1 1]] W (SomeBool W))
    (HV : ∀ W, Below w.heap.size w W → Calls Try.prog 16 #[.agg #[.int .i64 vars, .slice Aa na ca, .int .i64 nodes, .int .i64 start, .int .i64 last, .slice Ae ne ce], .agg #[.slice Av nv cv, .slice Al nl cl], .agg #[.int .u8 k, .string nm, .int .i64 n, .slice A l c, .int .i64 at_]] W (ValPost (v, q1, q2, q3) W))
    (HR : ∀ W, Below w.heap.size w W → Calls Try.prog 17 #[.agg #[.int .i64 vars, .slice Aa na ca, .int .i64 nodes, .int .i64 start, .int .i64 last, .slice Ae ne ce], .agg #[.slice Av nv cv, .slice Al nl cl], .agg #[.int .u8 k, .string nm, .int .i64 n, .slice A l c, .int .i64 at_]] W (ValPost (v, q1, q2, q3) W)) :
    Calls Try.prog 5 #[.agg #[.int .i64 vars, .slice Aa na ca, .int .i64 nodes, .int .i64 start, .int .i64 last, .slice Ae ne ce], .agg #[.slice Av nv cv, .slice Al nl cl], .agg #[.int .u8 k, .string nm, .int .i64 n, .slice A l c, .int .i64 at_]] w (BoolPost true w) := by
  have HG' := Lib.hid HG
  have HB' := Lib.hid HB
  have HV' := Lib.hid HV
  have HR' := Lib.hid HR
  clear HG HB HV HR
  go_enter Try.func5, Try.ntmps5
  go_wp2_with fail
  obtain ⟨W6, hW6⟩ : ∃ W6, W6 = ((((((w.alloc (.cells #[.int .i64 vars, .slice Aa na ca, .int .i64 nodes, .int .i64 start, .int .i64 last, .slice Ae ne ce] 35)).alloc (.cells #[.slice Av nv cv, .slice Al nl cl] 42)).alloc (.cells #[.int .u8 k, .string nm, .int .i64 n, .slice A l c, .int .i64 at_] 45)).alloc (.cells #[.int .u8 k, .string nm, .int .i64 n, .slice A l c, .int .i64 at_] 45)).alloc (.cells #[.int .i64 0, .int .i64 0, .int .u8 0, .int .i64 0, .int .u8 0, .slice (some ⟨w.heap.size + 1 + 1 + 1, 0, none⟩) 1 1, .int .i64 0] 49)).alloc (.cells #[.int .i64 0, .slice none 0 0, .int .i64 0, .int .i64 0, .int .i64 0, .slice (some ⟨w.heap.size + 1 + 1 + 1 + 1, 0, none⟩) 1 1] 35)) := ⟨_, rfl⟩
  obtain ⟨k0, k1, k2, k3, k4, k5, hn⟩ := blk6 w _ _ _ _ _ _ _ _ _ _ _ _ W6 hW6
  rw [← hW6]
  clear hW6
  have hz : w.heap.size + 1 + 1 + 1 + 1 + 1 < W6.heap.size := k5.lt
  refine (HG'.out W6 hn).mono ?_
  rintro _ w1 ⟨r1, rfl, hb⟩
  have k3 := k3.below hb (by omega)
  have k4 := k4.below hb (by omega)
  have k0 := k0.below hb (by omega)
  have k1 := k1.below hb (by omega)
  have k2 := k2.below hb (by omega)
  have k5 := k5.below hb (by omega)
  have hn := hn.trans (hb.mono hn.size)
  have hz : w.heap.size + 1 + 1 + 1 + 1 + 1 < w1.heap.size := k5.lt
  clear hb
  cases r1
  case true =>
    go_wp2_with fail
    go_ret
    exact ⟨rfl, hn⟩
  have k5_0 := k5.cell 0
  have k5_1 := k5.cell 1
  have k5_2 := k5.cell 2
  have k5_3 := k5.cell 3
  have k5_4 := k5.cell 4
  have k5_5 := k5.cell 5
  simp only [List.getElem?_toArray, List.getElem?_cons_succ, List.getElem?_cons_zero] at k5_0 k5_1 k5_2 k5_3 k5_4 k5_5
  go_wp2_with fail
  clear k5_0 k5_1 k5_2 k5_3 k5_4 k5_5
  refine (HB'.out w1 _ _ _ _ hn k3 k4).mono ?_
  rintro _ w2 ⟨r2, rfl, hb⟩
  have k0 := k0.below hb (by omega)
  have k1 := k1.below hb (by omega)
  have k2 := k2.below hb (by omega)
  have k5 := k5.below hb (by omega)
  have hn := hn.trans (hb.mono hn.size)
  have hz : w.heap.size + 1 + 1 + 1 + 1 + 1 < w2.heap.size := k5.lt
  clear hb
  clear k3 k4
  cases r2
  case true =>
    go_wp2_with fail
    go_ret
    exact ⟨rfl, hn⟩
  have k1_0 := k1.cell 0
  have k1_1 := k1.cell 1
  simp only [List.getElem?_toArray, List.getElem?_cons_succ, List.getElem?_cons_zero] at k1_0 k1_1
  by_cases h1 : 100 < (nv : Int)
  · have g1 : decide (100 < (nv : Int)) = true := by simpa using h1
    go_wp2_with fail
    go_ret
    exact ⟨rfl, hn⟩
  have g1 : decide (100 < (nv : Int)) = false := by simpa using h1
  by_cases h2 : 100 < (nl : Int)
  · have g2 : decide (100 < (nl : Int)) = true := by simpa using h2
    go_wp2_with fail
    go_ret
    exact ⟨rfl, hn⟩
  have g2 : decide (100 < (nl : Int)) = false := by simpa using h2
  have k0_0 := k0.cell 0
  have k0_1 := k0.cell 1
  have k0_2 := k0.cell 2
  have k0_3 := k0.cell 3
  have k0_4 := k0.cell 4
  have k0_5 := k0.cell 5
  have k2_0 := k2.cell 0
  have k2_1 := k2.cell 1
  have k2_2 := k2.cell 2
  have k2_3 := k2.cell 3
  have k2_4 := k2.cell 4
  simp only [List.getElem?_toArray, List.getElem?_cons_succ, List.getElem?_cons_zero] at k0_0 k0_1 k0_2 k0_3 k0_4 k0_5 k2_0 k2_1 k2_2 k2_3 k2_4
  go_wp2_with fail
  clear k0_0 k0_1 k0_2 k0_3 k0_4 k0_5 k2_0 k2_1 k2_2 k2_3 k2_4
  clear k1_0 k1_1 g1 g2 h1 h2
  refine (HV'.out w2 hn).mono ?_
  rintro _ w3 ⟨rfl, hb⟩
  have k0 := k0.below hb (by omega)
  have k1 := k1.below hb (by omega)
  have k2 := k2.below hb (by omega)
  have k5 := k5.below hb (by omega)
  have hn := hn.trans (hb.mono hn.size)
  have hz : w.heap.size + 1 + 1 + 1 + 1 + 1 < w3.heap.size := k5.lt
  clear hb
  have k0_0 := k0.cell 0
  have k0_1 := k0.cell 1
  have k0_2 := k0.cell 2
  have k0_3 := k0.cell 3
  have k0_4 := k0.cell 4
  have k0_5 := k0.cell 5
  have k1_0 := k1.cell 0
  have k1_1 := k1.cell 1
  have k2_0 := k2.cell 0
  have k2_1 := k2.cell 1
  have k2_2 := k2.cell 2
  have k2_3 := k2.cell 3
  have k2_4 := k2.cell 4
  simp only [List.getElem?_toArray, List.getElem?_cons_succ, List.getElem?_cons_zero] at k0_0 k0_1 k0_2 k0_3 k0_4 k0_5 k1_0 k1_1 k2_0 k2_1 k2_2 k2_3 k2_4
  go_wp2_with fail
  clear k0_0 k0_1 k0_2 k0_3 k0_4 k0_5 k1_0 k1_1 k2_0 k2_1 k2_2 k2_3 k2_4
  refine (HR'.out w3 hn).mono ?_
  rintro _ w4 ⟨rfl, hb⟩
  have k0 := k0.below hb (by omega)
  have k1 := k1.below hb (by omega)
  have k2 := k2.below hb (by omega)
  have k5 := k5.below hb (by omega)
  have hn := hn.trans (hb.mono hn.size)
  have hz : w.heap.size + 1 + 1 + 1 + 1 + 1 < w4.heap.size := k5.lt
  clear hb
  have e0 : (v == v) = true := by simp
  have e1 : (q1 == q1) = true := by simp
  have e2 : (q2 == q2) = true := by simp
  have e3 : (q3 == q3) = true := by simp
  go_wp2_with fail
  go_ret
  exact ⟨by simp, hn⟩

theorem law_values (g : Gr) (Aa Ae : Option Addr) (ca ce : Nat) (vs : List Int) (ls : List (List Int)) (Av Al : Option Addr) (cv cl : Nat) (k : Int) (nm : ByteArray) (n : Int) (args : Exs) (at_ : Int) (A : Option Addr) (c B : Nat) (w : World) (hB : B ≤ w.heap.size)
    (hg : GrSl w B g Aa ca Ae ce) (hst : StSl w B vs ls Av cv Al cl) (hx : ExSl w B args A c) (hk8 : in8 k) (hn : in64 n) (hat : in64 at_) (h64 : St64 vs ls) (hn64 : Ns64 args) :
    Calls Try.prog 5 #[grV g.vars Aa g.arrays.length ca g.nodes g.start g.last Ae g.edges.length ce, stV Av vs.length cv Al ls.length cl, exV k nm n A args.len c at_] w (BoolPost true w) := by
  have hla := Nat.le_trans hg.arrays.1 hg.arrays.2.1
  refine law_walk g.vars g.nodes g.start g.last Aa Ae Av Al A _ _ _ _ _ _ _ _ _ _ k nm n at_ (valT g vs ls k n args at_).1 (valT g vs ls k n args at_).2.1 (valT g vs ls k n args at_).2.2.1 (valT g vs ls k n args at_).2.2.2 w (fun W h => ?_) (fun W b1 b2 t1 t2 h k1 k2 => ?_) (fun W h => ?_) (fun W h => ?_)
  · exact great_any g.vars Aa g.arrays.length ca g.nodes g.start g.last g.edges Ae ce B W (Nat.le_trans hB h.size) (hg.edges.keep (Same.of h hB)) hla
  · exact great_any 0 none 0 0 0 0 0 [{ from_ := 0, to_ := 0, kind := 0, n := 0, cmp := 0, args := .cons k nm n args at_ .nil, at_ := 0 }] (some ⟨b2, 0, none⟩) 1 W.heap.size W (Nat.le_refl _) (bigSl (Nat.le_trans hB h.size) (hx.keep (Same.of h hB)) hk8 hn hat k1 k2) (by omega)
  · exact value_any g Aa Ae ca ce vs ls Av Al cv cl k nm n args at_ A c B W (Nat.le_trans hB h.size) (hg.keep (Same.of h hB)) (hst.keep (Same.of h hB)) (hx.keep (Same.of h hB)) hk8 hn hat h64 hn64
  · exact rvalue_any g Aa Ae ca ce vs ls Av Al cv cl k nm n args at_ A c B W (Nat.le_trans hB h.size) (hg.keep (Same.of h hB)) (hst.keep (Same.of h hB)) (hx.keep (Same.of h hB)) hk8 h64 hn64
end Go.Proofs.Ytjeapacohgfpiaa
