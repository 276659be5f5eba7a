/-
  sem.Value: what an expression has, in a graph and a store. Printed by wip/gen_svvalue.py.
-/
import Derived.Test.YtjeapacohgfpiaaSvValA
import Derived.StillTailTactics
namespace Go.Proofs.Ytjeapacohgfpiaa
open Go.RowKit Go.Shelf
set_option linter.unusedVariables false

set_option maxRecDepth 100000 in
set_option maxHeartbeats 3200000 in
theorem value_a (vars nodes start last : Int) (Aa Ae Av Al A : Option Addr) (na ca ne ce nv cv nl cl l c : Nat) (k : Int) (nm : ByteArray) (n at_ : Int) (w : World)
    (HC : ∀ W, Below w.heap.size w W → Calls Try.prog 12 #[.agg #[.int .i64 vars, .slice Aa na ca, .int .i64 nodes, .int .i64 start, .int .i64 last, .slice Ae ne ce]] W (ErrPost false W)) :
    Calls Try.prog 16 #[.agg #[.int .i64 vars, .slice Aa na ca, .int .i64 nodes, .int .i64 start, .int .i64 last, .slice Ae ne ce], .agg #[.slice Av nv cv, .slice Al nl cl], .agg #[.int .u8 k, .string nm, .int .i64 n, .slice A l c, .int .i64 at_]] w (ValPost (0, 0, 0, 8) w) := by
  have HC' := Lib.hid HC
  clear HC
  go_enter Try.func16, Try.ntmps16
  go_wp2_with fail
  obtain ⟨W4, hW4⟩ : ∃ W4, W4 = ((((w.alloc (.cells #[.int .i64 vars, .slice Aa na ca, .int .i64 nodes, .int .i64 start, .int .i64 last, .slice Ae ne ce] 35)).alloc (.cells #[.slice Av nv cv, .slice Al nl cl] 42)).alloc (.cells #[.int .u8 k, .string nm, .int .i64 n, .slice A l c, .int .i64 at_] 45)).alloc (.cells #[.int .i64 0] 3)) := ⟨_, rfl⟩
  obtain ⟨k0, k1, k2, k3, hz, hb4⟩ := blk4 w _ _ _ _ _ _ _ _ W4 hW4
  rw [← hW4]
  clear hW4
  have HZ := Lib.hid hz
  clear hz
  refine (HC'.out W4 hb4).mono ?_
  rintro _ w1 ⟨rfl, hb1⟩
  have k0 := k0.below hb1 (by have := HZ.out; omega)
  have k1 := k1.below hb1 (by have := HZ.out; omega)
  have k2 := k2.below hb1 (by have := HZ.out; omega)
  have k3 := k3.below hb1 (by have := HZ.out; omega)
  have hn1 := hb4.trans (hb1.mono hb4.size)
  have hz1 : w.heap.size + 1 + 1 + 1 < w1.heap.size := k3.lt
  clear hb4 hb1
  have k3_0 := k3.cell 0
  simp only [List.getElem?_toArray, List.getElem?_cons_succ, List.getElem?_cons_zero] at k3_0
  go_wp2_with fail
  exact bodyPost_ret (v := .tuple #[.int .i64 0, .int .u8 0, .int .i64 0, .int .i64 8]) (by simp [results, Try.results16, go_sem, k3_0]) rfl ⟨rfl, hn1⟩
set_option maxRecDepth 100000 in
set_option maxHeartbeats 3200000 in
theorem value_b (vars nodes start last : Int) (Aa Ae Av Al A : Option Addr) (na ca ne ce nv cv nl cl l c : Nat) (k : Int) (nm : ByteArray) (n at_ : Int) (w : World)
    (HC : ∀ W, Below w.heap.size w W → Calls Try.prog 12 #[.agg #[.int .i64 vars, .slice Aa na ca, .int .i64 nodes, .int .i64 start, .int .i64 last, .slice Ae ne ce]] W (ErrPost true W))
    (HF : ∀ W, Below w.heap.size w W → Calls Try.prog 42 #[.agg #[.int .i64 vars, .slice Aa na ca, .int .i64 nodes, .int .i64 start, .int .i64 last, .slice Ae ne ce], .agg #[.slice Av nv cv, .slice Al nl cl]] W (BoolPost false W)) :
    Calls Try.prog 16 #[.agg #[.int .i64 vars, .slice Aa na ca, .int .i64 nodes, .int .i64 start, .int .i64 last, .slice Ae ne ce], .agg #[.slice Av nv cv, .slice Al nl cl], .agg #[.int .u8 k, .string nm, .int .i64 n, .slice A l c, .int .i64 at_]] w (ValPost (0, 0, 0, 8) w) := by
  have HC' := Lib.hid HC
  clear HC
  have HF' := Lib.hid HF
  clear HF
  go_enter Try.func16, Try.ntmps16
  go_wp2_with fail
  obtain ⟨W4, hW4⟩ : ∃ W4, W4 = ((((w.alloc (.cells #[.int .i64 vars, .slice Aa na ca, .int .i64 nodes, .int .i64 start, .int .i64 last, .slice Ae ne ce] 35)).alloc (.cells #[.slice Av nv cv, .slice Al nl cl] 42)).alloc (.cells #[.int .u8 k, .string nm, .int .i64 n, .slice A l c, .int .i64 at_] 45)).alloc (.cells #[.int .i64 0] 3)) := ⟨_, rfl⟩
  obtain ⟨k0, k1, k2, k3, hz, hb4⟩ := blk4 w _ _ _ _ _ _ _ _ W4 hW4
  rw [← hW4]
  clear hW4
  have HZ := Lib.hid hz
  clear hz
  refine (HC'.out W4 hb4).mono ?_
  rintro _ w1 ⟨rfl, hb1⟩
  have k0 := k0.below hb1 (by have := HZ.out; omega)
  have k1 := k1.below hb1 (by have := HZ.out; omega)
  have k2 := k2.below hb1 (by have := HZ.out; omega)
  have k3 := k3.below hb1 (by have := HZ.out; omega)
  have hn1 := hb4.trans (hb1.mono hb4.size)
  have hz1 : w.heap.size + 1 + 1 + 1 < w1.heap.size := k3.lt
  clear hb4 hb1
  have k0_0 := k0.cell 0
  have k0_1 := k0.cell 1
  have k0_2 := k0.cell 2
  have k0_3 := k0.cell 3
  have k0_4 := k0.cell 4
  have k0_5 := k0.cell 5
  have k1_0 := k1.cell 0
  have k1_1 := k1.cell 1
  simp only [List.getElem?_toArray, List.getElem?_cons_succ, List.getElem?_cons_zero] at k0_0 k0_1 k0_2 k0_3 k0_4 k0_5 k1_0 k1_1
  go_wp2_with fail
  clear k0_0 k0_1 k0_2 k0_3 k0_4 k0_5 k1_0 k1_1
  refine (HF'.out w1 hn1).mono ?_
  rintro _ w2 ⟨rfl, hb2⟩
  have k0 := k0.below hb2 (by omega)
  have k1 := k1.below hb2 (by omega)
  have k2 := k2.below hb2 (by omega)
  have k3 := k3.below hb2 hz1
  have hn2 := hn1.trans (hb2.mono hn1.size)
  have hz2 : w.heap.size + 1 + 1 + 1 < w2.heap.size := k3.lt
  have hz20 : w.heap.size < w2.heap.size := by omega
  have hz21 : w.heap.size + 1 < w2.heap.size := by omega
  have hz22 : w.heap.size + 1 + 1 < w2.heap.size := by omega
  clear hb2 hn1 hz1
  have k3_0 := k3.cell 0
  simp only [List.getElem?_toArray, List.getElem?_cons_succ, List.getElem?_cons_zero] at k3_0
  have f3 := k3.frozen 0
  go_wp2_with fail
  exact bodyPost_ret (v := .tuple #[.int .i64 0, .int .u8 0, .int .i64 0, .int .i64 8]) (by simp [results, Try.results16, go_sem, k3_0, f3]) rfl ⟨rfl, hn2.setCell (by simp; omega) _⟩
set_option maxRecDepth 100000 in
set_option maxHeartbeats 3200000 in
theorem value_p0 (vars nodes start last : Int) (Aa Ae Av Al A : Option Addr) (na ca ne ce nv cv nl cl l c : Nat) (k : Int) (nm : ByteArray) (n at_ : Int) (w : World) (hv : ¬ vars < 1) (hv2 : ((nv : Int) == 0) = false) 
    (HC : ∀ W, Below w.heap.size w W → Calls Try.prog 12 #[.agg #[.int .i64 vars, .slice Aa na ca, .int .i64 nodes, .int .i64 start, .int .i64 last, .slice Ae ne ce]] W (ErrPost true W))
    (HF : ∀ W, Below w.heap.size w W → Calls Try.prog 42 #[.agg #[.int .i64 vars, .slice Aa na ca, .int .i64 nodes, .int .i64 start, .int .i64 last, .slice Ae ne ce], .agg #[.slice Av nv cv, .slice Al nl cl]] W (BoolPost true W))
    (HW : ∀ (W : World) (b1 b2 : Nat) (t1 t2 : TypeId), Below w.heap.size w W → Blk W b1 t1 #[.int .u8 k, .string nm, .int .i64 n, .slice A l c, .int .i64 at_] → Blk W b2 t2 #[.int .i64 0, .int .i64 1, .int .u8 3, .int .i64 0, .int .u8 0, .slice (some ⟨b1, 0, none⟩) 1 1, .int .i64 0] →
      Calls Try.prog 12 #[.agg #[.int .i64 vars, .slice Aa na ca, .int .i64 2, .int .i64 0, .int .i64 1, .slice (some ⟨b2, 0, none⟩) 1 1]] W (ErrPost false W)) :
    Calls Try.prog 16 #[.agg #[.int .i64 vars, .slice Aa na ca, .int .i64 nodes, .int .i64 start, .int .i64 last, .slice Ae ne ce], .agg #[.slice Av nv cv, .slice Al nl cl], .agg #[.int .u8 k, .string nm, .int .i64 n, .slice A l c, .int .i64 at_]] w (ValPost (0, 0, 0, 2) w) := by
  have HC' := Lib.hid HC
  clear HC
  have HF' := Lib.hid HF
  clear HF
  have HW' := Lib.hid HW
  clear HW
  go_enter Try.func16, Try.ntmps16
  go_wp2_with fail
  obtain ⟨W4, hW4⟩ : ∃ W4, W4 = ((((w.alloc (.cells #[.int .i64 vars, .slice Aa na ca, .int .i64 nodes, .int .i64 start, .int .i64 last, .slice Ae ne ce] 35)).alloc (.cells #[.slice Av nv cv, .slice Al nl cl] 42)).alloc (.cells #[.int .u8 k, .string nm, .int .i64 n, .slice A l c, .int .i64 at_] 45)).alloc (.cells #[.int .i64 0] 3)) := ⟨_, rfl⟩
  obtain ⟨k0, k1, k2, k3, hz, hb4⟩ := blk4 w _ _ _ _ _ _ _ _ W4 hW4
  rw [← hW4]
  clear hW4
  have HZ := Lib.hid hz
  clear hz
  refine (HC'.out W4 hb4).mono ?_
  rintro _ w1 ⟨rfl, hb1⟩
  have k0 := k0.below hb1 (by have := HZ.out; omega)
  have k1 := k1.below hb1 (by have := HZ.out; omega)
  have k2 := k2.below hb1 (by have := HZ.out; omega)
  have k3 := k3.below hb1 (by have := HZ.out; omega)
  have hn1 := hb4.trans (hb1.mono hb4.size)
  have hz1 : w.heap.size + 1 + 1 + 1 < w1.heap.size := k3.lt
  clear hb4 hb1
  have k0_0 := k0.cell 0
  have k0_1 := k0.cell 1
  have k0_2 := k0.cell 2
  have k0_3 := k0.cell 3
  have k0_4 := k0.cell 4
  have k0_5 := k0.cell 5
  have k1_0 := k1.cell 0
  have k1_1 := k1.cell 1
  simp only [List.getElem?_toArray, List.getElem?_cons_succ, List.getElem?_cons_zero] at k0_0 k0_1 k0_2 k0_3 k0_4 k0_5 k1_0 k1_1
  go_wp2_with fail
  clear k0_0 k0_1 k0_2 k0_3 k0_4 k0_5 k1_0 k1_1
  refine (HF'.out w1 hn1).mono ?_
  rintro _ w2 ⟨rfl, hb2⟩
  have k0 := k0.below hb2 (by omega)
  have k1 := k1.below hb2 (by omega)
  have k2 := k2.below hb2 (by omega)
  have k3 := k3.below hb2 hz1
  have hn2 := hn1.trans (hb2.mono hn1.size)
  have hz2 : w.heap.size + 1 + 1 + 1 < w2.heap.size := k3.lt
  have hz20 : w.heap.size < w2.heap.size := by omega
  have hz21 : w.heap.size + 1 < w2.heap.size := by omega
  have hz22 : w.heap.size + 1 + 1 < w2.heap.size := by omega
  clear hb2 hn1 hz1
  have k0_0 := k0.cell 0
  have k0_1 := k0.cell 1
  have k0_2 := k0.cell 2
  have k0_3 := k0.cell 3
  have k0_4 := k0.cell 4
  have k0_5 := k0.cell 5
  have k2_0 := k2.cell 0
  have k2_1 := k2.cell 1
  have k2_2 := k2.cell 2
  have k2_3 := k2.cell 3
  have k2_4 := k2.cell 4
  simp only [List.getElem?_toArray, List.getElem?_cons_succ, List.getElem?_cons_zero] at k0_0 k0_1 k0_2 k0_3 k0_4 k0_5 k2_0 k2_1 k2_2 k2_3 k2_4
  go_wp2_with fail
  clear k0_0 k0_1 k0_2 k0_3 k0_4 k0_5 k2_0 k2_1 k2_2 k2_3 k2_4
  have hc3 := cells3 w2 #[.int .u8 k, .string nm, .int .i64 n, .slice A l c, .int .i64 at_] #[.int .i64 0, .int .i64 1, .int .u8 3, .int .i64 0, .int .u8 0, .slice (some ⟨w2.heap.size, 0, none⟩) 1 1, .int .i64 0] #[.int .i64 vars, .slice Aa na ca, .int .i64 2, .int .i64 0, .int .i64 1, .slice (some ⟨w2.heap.size + 1, 0, none⟩) 1 1] 45 49 35 0
  have m1 := Blk.new w2 45 #[.int .u8 k, .string nm, .int .i64 n, .slice A l c, .int .i64 at_]
  have m2 := Blk.new (w2.alloc (.cells #[.int .u8 k, .string nm, .int .i64 n, .slice A l c, .int .i64 at_] 45)) 49 #[.int .i64 0, .int .i64 1, .int .u8 3, .int .i64 0, .int .u8 0, .slice (some ⟨w2.heap.size, 0, none⟩) 1 1, .int .i64 0]
  rw [World.size_alloc] at m2
  have hb7 : Below w2.heap.size w2 (((w2.alloc (.cells #[.int .u8 k, .string nm, .int .i64 n, .slice A l c, .int .i64 at_] 45)).alloc (.cells #[.int .i64 0, .int .i64 1, .int .u8 3, .int .i64 0, .int .u8 0, .slice (some ⟨w2.heap.size, 0, none⟩) 1 1, .int .i64 0] 49)).alloc (.cells #[.int .i64 vars, .slice Aa na ca, .int .i64 2, .int .i64 0, .int .i64 1, .slice (some ⟨w2.heap.size + 1, 0, none⟩) 1 1] 35)) := (((Below.refl _ _).alloc (Nat.le_refl _) _).alloc (by simp) _).alloc (by simp; omega) _
  refine (HW'.out _ _ _ _ _ (hn2.trans (hb7.mono hn2.size)) ((m1.alloc _).alloc _) (m2.alloc _)).mono ?_
  rintro _ w5 ⟨rfl, hb5⟩
  have hb57 := hb7.trans (hb5.mono hb7.size)
  have k1 := k1.below hb57 (by omega)
  have k2 := k2.below hb57 (by omega)
  have k3 := k3.below hb57 hz2
  have hn5 := hn2.trans (hb57.mono hn2.size)
  have hz5 : w.heap.size + 1 + 1 + 1 < w5.heap.size := k3.lt
  clear hc3 m1 m2 hb7 hb5 hb57 hz2 hn2
  have k3_0 := k3.cell 0
  simp only [List.getElem?_toArray, List.getElem?_cons_succ, List.getElem?_cons_zero] at k3_0
  have f3 := k3.frozen 0
  go_wp2_with fail
  exact bodyPost_ret (v := .tuple #[.int .i64 0, .int .u8 0, .int .i64 0, .int .i64 2]) (by simp [results, Try.results16, go_sem, k3_0, f3]) rfl ⟨rfl, hn5.setCell (by simp; omega) _⟩
set_option maxRecDepth 100000 in
set_option maxHeartbeats 3200000 in
theorem value_p1 (vars nodes start last : Int) (Aa Ae Av Al A : Option Addr) (na ca ne ce nv cv nl cl l c : Nat) (k : Int) (nm : ByteArray) (n at_ : Int) (q1 q2 v : Int) (w : World) (hv : ¬ vars < 1) (hv2 : ((nv : Int) == 0) = false) 
    (HC : ∀ W, Below w.heap.size w W → Calls Try.prog 12 #[.agg #[.int .i64 vars, .slice Aa na ca, .int .i64 nodes, .int .i64 start, .int .i64 last, .slice Ae ne ce]] W (ErrPost true W))
    (HF : ∀ W, Below w.heap.size w W → Calls Try.prog 42 #[.agg #[.int .i64 vars, .slice Aa na ca, .int .i64 nodes, .int .i64 start, .int .i64 last, .slice Ae ne ce], .agg #[.slice Av nv cv, .slice Al nl cl]] W (BoolPost true W))
    (HW : ∀ (W : World) (b1 b2 : Nat) (t1 t2 : TypeId), Below w.heap.size w W → Blk W b1 t1 #[.int .u8 k, .string nm, .int .i64 n, .slice A l c, .int .i64 at_] → Blk W b2 t2 #[.int .i64 0, .int .i64 1, .int .u8 3, .int .i64 0, .int .u8 0, .slice (some ⟨b1, 0, none⟩) 1 1, .int .i64 0] →
      Calls Try.prog 12 #[.agg #[.int .i64 vars, .slice Aa na ca, .int .i64 2, .int .i64 0, .int .i64 1, .slice (some ⟨b2, 0, none⟩) 1 1]] W (ErrPost true W))
    (HT : ∀ (W : World) (P Q N : Nat) (tp tq t : TypeId), Below w.heap.size w W → Blk W P tp #[.slice Av nv cv, .slice Al nl cl] → Blk W Q tq #[.int .u8 k, .string nm, .int .i64 n, .slice A l c, .int .i64 at_] → Blk W N t #[.int .i64 0] →
      Calls Try.prog 44 #[.func (.func 45) #[] #[.pointer (some ⟨P, 0, none⟩), .pointer (some ⟨Q, 0, none⟩), .pointer (some ⟨N, 0, none⟩)]] W fun e w' => e = .returned (.agg #[.int .u8 q1, .int .i64 q2]) ∧ Blk w' N t #[.int .i64 v] ∧ Below N W w') :
    Calls Try.prog 16 #[.agg #[.int .i64 vars, .slice Aa na ca, .int .i64 nodes, .int .i64 start, .int .i64 last, .slice Ae ne ce], .agg #[.slice Av nv cv, .slice Al nl cl], .agg #[.int .u8 k, .string nm, .int .i64 n, .slice A l c, .int .i64 at_]] w (ValPost (v, q1, q2, 0) w) := by
  have HC' := Lib.hid HC
  clear HC
  have HF' := Lib.hid HF
  clear HF
  have HW' := Lib.hid HW
  clear HW
  have HT' := Lib.hid HT
  clear HT
  go_enter Try.func16, Try.ntmps16
  go_wp2_with fail
  obtain ⟨W4, hW4⟩ : ∃ W4, W4 = ((((w.alloc (.cells #[.int .i64 vars, .slice Aa na ca, .int .i64 nodes, .int .i64 start, .int .i64 last, .slice Ae ne ce] 35)).alloc (.cells #[.slice Av nv cv, .slice Al nl cl] 42)).alloc (.cells #[.int .u8 k, .string nm, .int .i64 n, .slice A l c, .int .i64 at_] 45)).alloc (.cells #[.int .i64 0] 3)) := ⟨_, rfl⟩
  obtain ⟨k0, k1, k2, k3, hz, hb4⟩ := blk4 w _ _ _ _ _ _ _ _ W4 hW4
  rw [← hW4]
  clear hW4
  have HZ := Lib.hid hz
  clear hz
  refine (HC'.out W4 hb4).mono ?_
  rintro _ w1 ⟨rfl, hb1⟩
  have k0 := k0.below hb1 (by have := HZ.out; omega)
  have k1 := k1.below hb1 (by have := HZ.out; omega)
  have k2 := k2.below hb1 (by have := HZ.out; omega)
  have k3 := k3.below hb1 (by have := HZ.out; omega)
  have hn1 := hb4.trans (hb1.mono hb4.size)
  have hz1 : w.heap.size + 1 + 1 + 1 < w1.heap.size := k3.lt
  clear hb4 hb1
  have k0_0 := k0.cell 0
  have k0_1 := k0.cell 1
  have k0_2 := k0.cell 2
  have k0_3 := k0.cell 3
  have k0_4 := k0.cell 4
  have k0_5 := k0.cell 5
  have k1_0 := k1.cell 0
  have k1_1 := k1.cell 1
  simp only [List.getElem?_toArray, List.getElem?_cons_succ, List.getElem?_cons_zero] at k0_0 k0_1 k0_2 k0_3 k0_4 k0_5 k1_0 k1_1
  go_wp2_with fail
  clear k0_0 k0_1 k0_2 k0_3 k0_4 k0_5 k1_0 k1_1
  refine (HF'.out w1 hn1).mono ?_
  rintro _ w2 ⟨rfl, hb2⟩
  have k0 := k0.below hb2 (by omega)
  have k1 := k1.below hb2 (by omega)
  have k2 := k2.below hb2 (by omega)
  have k3 := k3.below hb2 hz1
  have hn2 := hn1.trans (hb2.mono hn1.size)
  have hz2 : w.heap.size + 1 + 1 + 1 < w2.heap.size := k3.lt
  have hz20 : w.heap.size < w2.heap.size := by omega
  have hz21 : w.heap.size + 1 < w2.heap.size := by omega
  have hz22 : w.heap.size + 1 + 1 < w2.heap.size := by omega
  clear hb2 hn1 hz1
  have k0_0 := k0.cell 0
  have k0_1 := k0.cell 1
  have k0_2 := k0.cell 2
  have k0_3 := k0.cell 3
  have k0_4 := k0.cell 4
  have k0_5 := k0.cell 5
  have k2_0 := k2.cell 0
  have k2_1 := k2.cell 1
  have k2_2 := k2.cell 2
  have k2_3 := k2.cell 3
  have k2_4 := k2.cell 4
  simp only [List.getElem?_toArray, List.getElem?_cons_succ, List.getElem?_cons_zero] at k0_0 k0_1 k0_2 k0_3 k0_4 k0_5 k2_0 k2_1 k2_2 k2_3 k2_4
  go_wp2_with fail
  clear k0_0 k0_1 k0_2 k0_3 k0_4 k0_5 k2_0 k2_1 k2_2 k2_3 k2_4
  have hc3 := cells3 w2 #[.int .u8 k, .string nm, .int .i64 n, .slice A l c, .int .i64 at_] #[.int .i64 0, .int .i64 1, .int .u8 3, .int .i64 0, .int .u8 0, .slice (some ⟨w2.heap.size, 0, none⟩) 1 1, .int .i64 0] #[.int .i64 vars, .slice Aa na ca, .int .i64 2, .int .i64 0, .int .i64 1, .slice (some ⟨w2.heap.size + 1, 0, none⟩) 1 1] 45 49 35 0
  have m1 := Blk.new w2 45 #[.int .u8 k, .string nm, .int .i64 n, .slice A l c, .int .i64 at_]
  have m2 := Blk.new (w2.alloc (.cells #[.int .u8 k, .string nm, .int .i64 n, .slice A l c, .int .i64 at_] 45)) 49 #[.int .i64 0, .int .i64 1, .int .u8 3, .int .i64 0, .int .u8 0, .slice (some ⟨w2.heap.size, 0, none⟩) 1 1, .int .i64 0]
  rw [World.size_alloc] at m2
  have hb7 : Below w2.heap.size w2 (((w2.alloc (.cells #[.int .u8 k, .string nm, .int .i64 n, .slice A l c, .int .i64 at_] 45)).alloc (.cells #[.int .i64 0, .int .i64 1, .int .u8 3, .int .i64 0, .int .u8 0, .slice (some ⟨w2.heap.size, 0, none⟩) 1 1, .int .i64 0] 49)).alloc (.cells #[.int .i64 vars, .slice Aa na ca, .int .i64 2, .int .i64 0, .int .i64 1, .slice (some ⟨w2.heap.size + 1, 0, none⟩) 1 1] 35)) := (((Below.refl _ _).alloc (Nat.le_refl _) _).alloc (by simp) _).alloc (by simp; omega) _
  refine (HW'.out _ _ _ _ _ (hn2.trans (hb7.mono hn2.size)) ((m1.alloc _).alloc _) (m2.alloc _)).mono ?_
  rintro _ w5 ⟨rfl, hb5⟩
  have hb57 := hb7.trans (hb5.mono hb7.size)
  have k1 := k1.below hb57 (by omega)
  have k2 := k2.below hb57 (by omega)
  have k3 := k3.below hb57 hz2
  have hn5 := hn2.trans (hb57.mono hn2.size)
  have hz5 : w.heap.size + 1 + 1 + 1 < w5.heap.size := k3.lt
  clear hc3 m1 m2 hb7 hb5 hb57 hz2 hn2
  have k1_0 := k1.cell 0
  have k1_1 := k1.cell 1
  have k2_0 := k2.cell 0
  have k2_1 := k2.cell 1
  have k2_2 := k2.cell 2
  have k2_3 := k2.cell 3
  have k2_4 := k2.cell 4
  simp only [List.getElem?_toArray, List.getElem?_cons_succ, List.getElem?_cons_zero] at k1_0 k1_1 k2_0 k2_1 k2_2 k2_3 k2_4
  go_wp2_with fail
  clear k1_0 k1_1 k2_0 k2_1 k2_2 k2_3 k2_4
  refine (HT'.out w5 _ _ _ _ _ _ hn5 k1 k2 k3).mono ?_
  rintro _ w8 ⟨rfl, k3, hb8⟩
  have hn8 := hn5.trans (hb8.mono (by omega))
  have hz8 : w.heap.size + 1 + 1 + 1 < w8.heap.size := k3.lt
  have k3_0 := k3.cell 0
  have f3 := k3.frozen 0
  simp only [List.getElem?_toArray, List.getElem?_cons_succ, List.getElem?_cons_zero] at k3_0
  have hf8 := hn8.setCell (p := ⟨w.heap.size + 1 + 1 + 1, 0, none⟩) (by simp; omega) (.int .i64 v)
  have kf := ((k3.set_ 0 (.int .i64 v)).alloc (.cells #[.int .u8 q1, .int .i64 q2] 88)).cell 0
  simp only [List.setIfInBounds_toArray, List.set_cons_zero, List.getElem?_toArray, List.getElem?_cons_zero] at kf
  clear hb8 k1 k2
  go_wp2_with fail
  go_region
  all_goals
    go_wp2_with fail
    exact bodyPost_ret (v := .tuple #[.int .i64 v, .int .u8 q1, .int .i64 q2, .int .i64 0]) (by simp [results, Try.results16, go_sem, kf]) rfl ⟨rfl, (hf8.alloc hf8.size _).drew⟩
set_option maxRecDepth 100000 in
set_option maxHeartbeats 3200000 in
theorem value_z0 (nodes start last : Int) (Aa Ae Av Al A : Option Addr) (na ca ne ce cv nl cl l c : Nat) (k : Int) (nm : ByteArray) (n at_ : Int) (w : World) 
    (HC : ∀ W, Below w.heap.size w W → Calls Try.prog 12 #[.agg #[.int .i64 0, .slice Aa na ca, .int .i64 nodes, .int .i64 start, .int .i64 last, .slice Ae ne ce]] W (ErrPost true W))
    (HF : ∀ W, Below w.heap.size w W → Calls Try.prog 42 #[.agg #[.int .i64 0, .slice Aa na ca, .int .i64 nodes, .int .i64 start, .int .i64 last, .slice Ae ne ce], .agg #[.slice Av 0 cv, .slice Al nl cl]] W (BoolPost true W))
    (HW : ∀ (W : World) (b1 b2 : Nat) (t1 t2 : TypeId), Below w.heap.size w W → Blk W b1 t1 #[.int .u8 k, .string nm, .int .i64 n, .slice A l c, .int .i64 at_] → Blk W b2 t2 #[.int .i64 0, .int .i64 1, .int .u8 3, .int .i64 0, .int .u8 0, .slice (some ⟨b1, 0, none⟩) 1 1, .int .i64 0] →
      Calls Try.prog 12 #[.agg #[.int .i64 1, .slice Aa na ca, .int .i64 2, .int .i64 0, .int .i64 1, .slice (some ⟨b2, 0, none⟩) 1 1]] W (ErrPost false W)) :
    Calls Try.prog 16 #[.agg #[.int .i64 0, .slice Aa na ca, .int .i64 nodes, .int .i64 start, .int .i64 last, .slice Ae ne ce], .agg #[.slice Av 0 cv, .slice Al nl cl], .agg #[.int .u8 k, .string nm, .int .i64 n, .slice A l c, .int .i64 at_]] w (ValPost (0, 0, 0, 2) w) := by
  have HC' := Lib.hid HC
  clear HC
  have HF' := Lib.hid HF
  clear HF
  have HW' := Lib.hid HW
  clear HW
  go_enter Try.func16, Try.ntmps16
  go_wp2_with fail
  obtain ⟨W4, hW4⟩ : ∃ W4, W4 = ((((w.alloc (.cells #[.int .i64 0, .slice Aa na ca, .int .i64 nodes, .int .i64 start, .int .i64 last, .slice Ae ne ce] 35)).alloc (.cells #[.slice Av 0 cv, .slice Al nl cl] 42)).alloc (.cells #[.int .u8 k, .string nm, .int .i64 n, .slice A l c, .int .i64 at_] 45)).alloc (.cells #[.int .i64 0] 3)) := ⟨_, rfl⟩
  obtain ⟨k0, k1, k2, k3, hz, hb4⟩ := blk4 w _ _ _ _ _ _ _ _ W4 hW4
  rw [← hW4]
  clear hW4
  have HZ := Lib.hid hz
  clear hz
  refine (HC'.out W4 hb4).mono ?_
  rintro _ w1 ⟨rfl, hb1⟩
  have k0 := k0.below hb1 (by have := HZ.out; omega)
  have k1 := k1.below hb1 (by have := HZ.out; omega)
  have k2 := k2.below hb1 (by have := HZ.out; omega)
  have k3 := k3.below hb1 (by have := HZ.out; omega)
  have hn1 := hb4.trans (hb1.mono hb4.size)
  have hz1 : w.heap.size + 1 + 1 + 1 < w1.heap.size := k3.lt
  clear hb4 hb1
  have k0_0 := k0.cell 0
  have k0_1 := k0.cell 1
  have k0_2 := k0.cell 2
  have k0_3 := k0.cell 3
  have k0_4 := k0.cell 4
  have k0_5 := k0.cell 5
  have k1_0 := k1.cell 0
  have k1_1 := k1.cell 1
  simp only [List.getElem?_toArray, List.getElem?_cons_succ, List.getElem?_cons_zero] at k0_0 k0_1 k0_2 k0_3 k0_4 k0_5 k1_0 k1_1
  go_wp2_with fail
  clear k0_0 k0_1 k0_2 k0_3 k0_4 k0_5 k1_0 k1_1
  refine (HF'.out w1 hn1).mono ?_
  rintro _ w2 ⟨rfl, hb2⟩
  have k0 := k0.below hb2 (by omega)
  have k1 := k1.below hb2 (by omega)
  have k2 := k2.below hb2 (by omega)
  have k3 := k3.below hb2 hz1
  have hn2 := hn1.trans (hb2.mono hn1.size)
  have hz2 : w.heap.size + 1 + 1 + 1 < w2.heap.size := k3.lt
  have hz20 : w.heap.size < w2.heap.size := by omega
  have hz21 : w.heap.size + 1 < w2.heap.size := by omega
  have hz22 : w.heap.size + 1 + 1 < w2.heap.size := by omega
  clear hb2 hn1 hz1
  have k0_0 := k0.cell 0
  have k0_1 := k0.cell 1
  have k0_2 := k0.cell 2
  have k0_3 := k0.cell 3
  have k0_4 := k0.cell 4
  have k0_5 := k0.cell 5
  have k2_0 := k2.cell 0
  have k2_1 := k2.cell 1
  have k2_2 := k2.cell 2
  have k2_3 := k2.cell 3
  have k2_4 := k2.cell 4
  simp only [List.getElem?_toArray, List.getElem?_cons_succ, List.getElem?_cons_zero] at k0_0 k0_1 k0_2 k0_3 k0_4 k0_5 k2_0 k2_1 k2_2 k2_3 k2_4
  have f0 := k0.frozen 0
  go_wp2_with fail
  have k0s := k0.set_ 0 (.int .i64 1)
  have k1s := k1.far (p := ⟨w.heap.size, 0, none⟩) (by simp) (.int .i64 1)
  have k2s := k2.far (p := ⟨w.heap.size, 0, none⟩) (by simp <;> omega) (.int .i64 1)
  have k3s := k3.far (p := ⟨w.heap.size, 0, none⟩) (by simp <;> omega) (.int .i64 1)
  have hn2s := hn2.setCell (p := ⟨w.heap.size, 0, none⟩) (by simp) (.int .i64 1)
  obtain ⟨w3, hw3⟩ : ∃ w3, w3 = w2.setCell ⟨w.heap.size, 0, none⟩ (.int .i64 1) := ⟨_, rfl⟩
  have hsz : w2.heap.size = w3.heap.size := by rw [hw3]; simp [World.setCell]
  rw [← hw3] at k0s k1s k2s k3s hn2s ⊢
  rw [hsz]
  have hz2 : w.heap.size + 1 + 1 + 1 < w3.heap.size := k3s.lt
  clear k0_0 k0_1 k0_2 k0_3 k0_4 k0_5 k2_0 k2_1 k2_2 k2_3 k2_4
  clear k0 k1 k2 k3 hn2 f0 hz20 hz21 hz22 hw3 hsz
  have hc3 := cells3 w3 #[.int .u8 k, .string nm, .int .i64 n, .slice A l c, .int .i64 at_] #[.int .i64 0, .int .i64 1, .int .u8 3, .int .i64 0, .int .u8 0, .slice (some ⟨w3.heap.size, 0, none⟩) 1 1, .int .i64 0] #[.int .i64 1, .slice Aa na ca, .int .i64 2, .int .i64 0, .int .i64 1, .slice (some ⟨w3.heap.size + 1, 0, none⟩) 1 1] 45 49 35 0
  have m1 := Blk.new w3 45 #[.int .u8 k, .string nm, .int .i64 n, .slice A l c, .int .i64 at_]
  have m2 := Blk.new (w3.alloc (.cells #[.int .u8 k, .string nm, .int .i64 n, .slice A l c, .int .i64 at_] 45)) 49 #[.int .i64 0, .int .i64 1, .int .u8 3, .int .i64 0, .int .u8 0, .slice (some ⟨w3.heap.size, 0, none⟩) 1 1, .int .i64 0]
  rw [World.size_alloc] at m2
  have hb7 : Below w3.heap.size w3 (((w3.alloc (.cells #[.int .u8 k, .string nm, .int .i64 n, .slice A l c, .int .i64 at_] 45)).alloc (.cells #[.int .i64 0, .int .i64 1, .int .u8 3, .int .i64 0, .int .u8 0, .slice (some ⟨w3.heap.size, 0, none⟩) 1 1, .int .i64 0] 49)).alloc (.cells #[.int .i64 1, .slice Aa na ca, .int .i64 2, .int .i64 0, .int .i64 1, .slice (some ⟨w3.heap.size + 1, 0, none⟩) 1 1] 35)) := (((Below.refl _ _).alloc (Nat.le_refl _) _).alloc (by simp) _).alloc (by simp; omega) _
  refine (HW'.out _ _ _ _ _ (hn2s.trans (hb7.mono hn2s.size)) ((m1.alloc _).alloc _) (m2.alloc _)).mono ?_
  rintro _ w5 ⟨rfl, hb5⟩
  have hb57 := hb7.trans (hb5.mono hb7.size)
  have k1 := k1s.below hb57 (by omega)
  have k2 := k2s.below hb57 (by omega)
  have k3 := k3s.below hb57 hz2
  have hn5 := hn2s.trans (hb57.mono hn2s.size)
  have hz5 : w.heap.size + 1 + 1 + 1 < w5.heap.size := k3.lt
  clear hc3 m1 m2 hb7 hb5 hb57 hz2 hn2s
  have k3_0 := k3.cell 0
  simp only [List.getElem?_toArray, List.getElem?_cons_succ, List.getElem?_cons_zero] at k3_0
  have f3 := k3.frozen 0
  go_wp2_with fail
  exact bodyPost_ret (v := .tuple #[.int .i64 0, .int .u8 0, .int .i64 0, .int .i64 2]) (by simp [results, Try.results16, go_sem, k3_0, f3]) rfl ⟨rfl, hn5.setCell (by simp; omega) _⟩
set_option maxRecDepth 100000 in
set_option maxHeartbeats 3200000 in
theorem value_z1r (nodes start last : Int) (Aa Ae Av Al A : Option Addr) (na ca ne ce cv nl cl l c : Nat) (k : Int) (nm : ByteArray) (n at_ : Int) (w : World) 
    (HC : ∀ W, Below w.heap.size w W → Calls Try.prog 12 #[.agg #[.int .i64 0, .slice Aa na ca, .int .i64 nodes, .int .i64 start, .int .i64 last, .slice Ae ne ce]] W (ErrPost true W))
    (HF : ∀ W, Below w.heap.size w W → Calls Try.prog 42 #[.agg #[.int .i64 0, .slice Aa na ca, .int .i64 nodes, .int .i64 start, .int .i64 last, .slice Ae ne ce], .agg #[.slice Av 0 cv, .slice Al nl cl]] W (BoolPost true W))
    (HW : ∀ (W : World) (b1 b2 : Nat) (t1 t2 : TypeId), Below w.heap.size w W → Blk W b1 t1 #[.int .u8 k, .string nm, .int .i64 n, .slice A l c, .int .i64 at_] → Blk W b2 t2 #[.int .i64 0, .int .i64 1, .int .u8 3, .int .i64 0, .int .u8 0, .slice (some ⟨b1, 0, none⟩) 1 1, .int .i64 0] →
      Calls Try.prog 12 #[.agg #[.int .i64 1, .slice Aa na ca, .int .i64 2, .int .i64 0, .int .i64 1, .slice (some ⟨b2, 0, none⟩) 1 1]] W (ErrPost true W))
    (HR : ∀ W, Below w.heap.size w W → Calls Try.prog 43 #[.agg #[.int .u8 k, .string nm, .int .i64 n, .slice A l c, .int .i64 at_]] W (BoolPost true W)) :
    Calls Try.prog 16 #[.agg #[.int .i64 0, .slice Aa na ca, .int .i64 nodes, .int .i64 start, .int .i64 last, .slice Ae ne ce], .agg #[.slice Av 0 cv, .slice Al nl cl], .agg #[.int .u8 k, .string nm, .int .i64 n, .slice A l c, .int .i64 at_]] w (ValPost (0, 0, 0, 2) w) := by
  have HC' := Lib.hid HC
  clear HC
  have HF' := Lib.hid HF
  clear HF
  have HW' := Lib.hid HW
  clear HW
  have HR' := Lib.hid HR
  clear HR
  go_enter Try.func16, Try.ntmps16
  go_wp2_with fail
  obtain ⟨W4, hW4⟩ : ∃ W4, W4 = ((((w.alloc (.cells #[.int .i64 0, .slice Aa na ca, .int .i64 nodes, .int .i64 start, .int .i64 last, .slice Ae ne ce] 35)).alloc (.cells #[.slice Av 0 cv, .slice Al nl cl] 42)).alloc (.cells #[.int .u8 k, .string nm, .int .i64 n, .slice A l c, .int .i64 at_] 45)).alloc (.cells #[.int .i64 0] 3)) := ⟨_, rfl⟩
  obtain ⟨k0, k1, k2, k3, hz, hb4⟩ := blk4 w _ _ _ _ _ _ _ _ W4 hW4
  rw [← hW4]
  clear hW4
  have HZ := Lib.hid hz
  clear hz
  refine (HC'.out W4 hb4).mono ?_
  rintro _ w1 ⟨rfl, hb1⟩
  have k0 := k0.below hb1 (by have := HZ.out; omega)
  have k1 := k1.below hb1 (by have := HZ.out; omega)
  have k2 := k2.below hb1 (by have := HZ.out; omega)
  have k3 := k3.below hb1 (by have := HZ.out; omega)
  have hn1 := hb4.trans (hb1.mono hb4.size)
  have hz1 : w.heap.size + 1 + 1 + 1 < w1.heap.size := k3.lt
  clear hb4 hb1
  have k0_0 := k0.cell 0
  have k0_1 := k0.cell 1
  have k0_2 := k0.cell 2
  have k0_3 := k0.cell 3
  have k0_4 := k0.cell 4
  have k0_5 := k0.cell 5
  have k1_0 := k1.cell 0
  have k1_1 := k1.cell 1
  simp only [List.getElem?_toArray, List.getElem?_cons_succ, List.getElem?_cons_zero] at k0_0 k0_1 k0_2 k0_3 k0_4 k0_5 k1_0 k1_1
  go_wp2_with fail
  clear k0_0 k0_1 k0_2 k0_3 k0_4 k0_5 k1_0 k1_1
  refine (HF'.out w1 hn1).mono ?_
  rintro _ w2 ⟨rfl, hb2⟩
  have k0 := k0.below hb2 (by omega)
  have k1 := k1.below hb2 (by omega)
  have k2 := k2.below hb2 (by omega)
  have k3 := k3.below hb2 hz1
  have hn2 := hn1.trans (hb2.mono hn1.size)
  have hz2 : w.heap.size + 1 + 1 + 1 < w2.heap.size := k3.lt
  have hz20 : w.heap.size < w2.heap.size := by omega
  have hz21 : w.heap.size + 1 < w2.heap.size := by omega
  have hz22 : w.heap.size + 1 + 1 < w2.heap.size := by omega
  clear hb2 hn1 hz1
  have k0_0 := k0.cell 0
  have k0_1 := k0.cell 1
  have k0_2 := k0.cell 2
  have k0_3 := k0.cell 3
  have k0_4 := k0.cell 4
  have k0_5 := k0.cell 5
  have k2_0 := k2.cell 0
  have k2_1 := k2.cell 1
  have k2_2 := k2.cell 2
  have k2_3 := k2.cell 3
  have k2_4 := k2.cell 4
  simp only [List.getElem?_toArray, List.getElem?_cons_succ, List.getElem?_cons_zero] at k0_0 k0_1 k0_2 k0_3 k0_4 k0_5 k2_0 k2_1 k2_2 k2_3 k2_4
  have f0 := k0.frozen 0
  go_wp2_with fail
  have k0s := k0.set_ 0 (.int .i64 1)
  have k1s := k1.far (p := ⟨w.heap.size, 0, none⟩) (by simp) (.int .i64 1)
  have k2s := k2.far (p := ⟨w.heap.size, 0, none⟩) (by simp <;> omega) (.int .i64 1)
  have k3s := k3.far (p := ⟨w.heap.size, 0, none⟩) (by simp <;> omega) (.int .i64 1)
  have hn2s := hn2.setCell (p := ⟨w.heap.size, 0, none⟩) (by simp) (.int .i64 1)
  obtain ⟨w3, hw3⟩ : ∃ w3, w3 = w2.setCell ⟨w.heap.size, 0, none⟩ (.int .i64 1) := ⟨_, rfl⟩
  have hsz : w2.heap.size = w3.heap.size := by rw [hw3]; simp [World.setCell]
  rw [← hw3] at k0s k1s k2s k3s hn2s ⊢
  rw [hsz]
  have hz2 : w.heap.size + 1 + 1 + 1 < w3.heap.size := k3s.lt
  clear k0_0 k0_1 k0_2 k0_3 k0_4 k0_5 k2_0 k2_1 k2_2 k2_3 k2_4
  clear k0 k1 k2 k3 hn2 f0 hz20 hz21 hz22 hw3 hsz
  have hc3 := cells3 w3 #[.int .u8 k, .string nm, .int .i64 n, .slice A l c, .int .i64 at_] #[.int .i64 0, .int .i64 1, .int .u8 3, .int .i64 0, .int .u8 0, .slice (some ⟨w3.heap.size, 0, none⟩) 1 1, .int .i64 0] #[.int .i64 1, .slice Aa na ca, .int .i64 2, .int .i64 0, .int .i64 1, .slice (some ⟨w3.heap.size + 1, 0, none⟩) 1 1] 45 49 35 0
  have m1 := Blk.new w3 45 #[.int .u8 k, .string nm, .int .i64 n, .slice A l c, .int .i64 at_]
  have m2 := Blk.new (w3.alloc (.cells #[.int .u8 k, .string nm, .int .i64 n, .slice A l c, .int .i64 at_] 45)) 49 #[.int .i64 0, .int .i64 1, .int .u8 3, .int .i64 0, .int .u8 0, .slice (some ⟨w3.heap.size, 0, none⟩) 1 1, .int .i64 0]
  rw [World.size_alloc] at m2
  have hb7 : Below w3.heap.size w3 (((w3.alloc (.cells #[.int .u8 k, .string nm, .int .i64 n, .slice A l c, .int .i64 at_] 45)).alloc (.cells #[.int .i64 0, .int .i64 1, .int .u8 3, .int .i64 0, .int .u8 0, .slice (some ⟨w3.heap.size, 0, none⟩) 1 1, .int .i64 0] 49)).alloc (.cells #[.int .i64 1, .slice Aa na ca, .int .i64 2, .int .i64 0, .int .i64 1, .slice (some ⟨w3.heap.size + 1, 0, none⟩) 1 1] 35)) := (((Below.refl _ _).alloc (Nat.le_refl _) _).alloc (by simp) _).alloc (by simp; omega) _
  refine (HW'.out _ _ _ _ _ (hn2s.trans (hb7.mono hn2s.size)) ((m1.alloc _).alloc _) (m2.alloc _)).mono ?_
  rintro _ w5 ⟨rfl, hb5⟩
  have hb57 := hb7.trans (hb5.mono hb7.size)
  have k1 := k1s.below hb57 (by omega)
  have k2 := k2s.below hb57 (by omega)
  have k3 := k3s.below hb57 hz2
  have hn5 := hn2s.trans (hb57.mono hn2s.size)
  have hz5 : w.heap.size + 1 + 1 + 1 < w5.heap.size := k3.lt
  clear hc3 m1 m2 hb7 hb5 hb57 hz2 hn2s
  have k1_0 := k1.cell 0
  have k1_1 := k1.cell 1
  have k2_0 := k2.cell 0
  have k2_1 := k2.cell 1
  have k2_2 := k2.cell 2
  have k2_3 := k2.cell 3
  have k2_4 := k2.cell 4
  simp only [List.getElem?_toArray, List.getElem?_cons_succ, List.getElem?_cons_zero] at k1_0 k1_1 k2_0 k2_1 k2_2 k2_3 k2_4
  go_wp2_with fail
  clear k1_0 k1_1 k2_0 k2_1 k2_2 k2_3 k2_4
  refine (HR'.out w5 hn5).mono ?_
  rintro _ w6 ⟨rfl, hb6⟩
  have k1 := k1.below hb6 (by omega)
  have k2 := k2.below hb6 (by omega)
  have k3 := k3.below hb6 hz5
  have hn6 := hn5.trans (hb6.mono hn5.size)
  have hz6 : w.heap.size + 1 + 1 + 1 < w6.heap.size := k3.lt
  clear hb6 hn5 hz5
  have k3_0 := k3.cell 0
  simp only [List.getElem?_toArray, List.getElem?_cons_succ, List.getElem?_cons_zero] at k3_0
  have f3 := k3.frozen 0
  go_wp2_with fail
  exact bodyPost_ret (v := .tuple #[.int .i64 0, .int .u8 0, .int .i64 0, .int .i64 2]) (by simp [results, Try.results16, go_sem, k3_0, f3]) rfl ⟨rfl, hn6.setCell (by simp; omega) _⟩
set_option maxRecDepth 100000 in
set_option maxHeartbeats 3200000 in
theorem value_z1n (nodes start last : Int) (Aa Ae Av Al A : Option Addr) (na ca ne ce cv nl cl l c : Nat) (k : Int) (nm : ByteArray) (n at_ : Int) (q1 q2 v : Int) (w : World) 
    (HC : ∀ W, Below w.heap.size w W → Calls Try.prog 12 #[.agg #[.int .i64 0, .slice Aa na ca, .int .i64 nodes, .int .i64 start, .int .i64 last, .slice Ae ne ce]] W (ErrPost true W))
    (HF : ∀ W, Below w.heap.size w W → Calls Try.prog 42 #[.agg #[.int .i64 0, .slice Aa na ca, .int .i64 nodes, .int .i64 start, .int .i64 last, .slice Ae ne ce], .agg #[.slice Av 0 cv, .slice Al nl cl]] W (BoolPost true W))
    (HW : ∀ (W : World) (b1 b2 : Nat) (t1 t2 : TypeId), Below w.heap.size w W → Blk W b1 t1 #[.int .u8 k, .string nm, .int .i64 n, .slice A l c, .int .i64 at_] → Blk W b2 t2 #[.int .i64 0, .int .i64 1, .int .u8 3, .int .i64 0, .int .u8 0, .slice (some ⟨b1, 0, none⟩) 1 1, .int .i64 0] →
      Calls Try.prog 12 #[.agg #[.int .i64 1, .slice Aa na ca, .int .i64 2, .int .i64 0, .int .i64 1, .slice (some ⟨b2, 0, none⟩) 1 1]] W (ErrPost true W))
    (HR : ∀ W, Below w.heap.size w W → Calls Try.prog 43 #[.agg #[.int .u8 k, .string nm, .int .i64 n, .slice A l c, .int .i64 at_]] W (BoolPost false W))
    (HT : ∀ (W : World) (P Q N : Nat) (tp tq t : TypeId), Below w.heap.size w W → Blk W P tp #[.slice Av 0 cv, .slice Al nl cl] → Blk W Q tq #[.int .u8 k, .string nm, .int .i64 n, .slice A l c, .int .i64 at_] → Blk W N t #[.int .i64 0] →
      Calls Try.prog 44 #[.func (.func 45) #[] #[.pointer (some ⟨P, 0, none⟩), .pointer (some ⟨Q, 0, none⟩), .pointer (some ⟨N, 0, none⟩)]] W fun e w' => e = .returned (.agg #[.int .u8 q1, .int .i64 q2]) ∧ Blk w' N t #[.int .i64 v] ∧ Below N W w') :
    Calls Try.prog 16 #[.agg #[.int .i64 0, .slice Aa na ca, .int .i64 nodes, .int .i64 start, .int .i64 last, .slice Ae ne ce], .agg #[.slice Av 0 cv, .slice Al nl cl], .agg #[.int .u8 k, .string nm, .int .i64 n, .slice A l c, .int .i64 at_]] w (ValPost (v, q1, q2, 0) w) := by
  have HC' := Lib.hid HC
  clear HC
  have HF' := Lib.hid HF
  clear HF
  have HW' := Lib.hid HW
  clear HW
  have HR' := Lib.hid HR
  clear HR
  have HT' := Lib.hid HT
  clear HT
  go_enter Try.func16, Try.ntmps16
  go_wp2_with fail
  obtain ⟨W4, hW4⟩ : ∃ W4, W4 = ((((w.alloc (.cells #[.int .i64 0, .slice Aa na ca, .int .i64 nodes, .int .i64 start, .int .i64 last, .slice Ae ne ce] 35)).alloc (.cells #[.slice Av 0 cv, .slice Al nl cl] 42)).alloc (.cells #[.int .u8 k, .string nm, .int .i64 n, .slice A l c, .int .i64 at_] 45)).alloc (.cells #[.int .i64 0] 3)) := ⟨_, rfl⟩
  obtain ⟨k0, k1, k2, k3, hz, hb4⟩ := blk4 w _ _ _ _ _ _ _ _ W4 hW4
  rw [← hW4]
  clear hW4
  have HZ := Lib.hid hz
  clear hz
  refine (HC'.out W4 hb4).mono ?_
  rintro _ w1 ⟨rfl, hb1⟩
  have k0 := k0.below hb1 (by have := HZ.out; omega)
  have k1 := k1.below hb1 (by have := HZ.out; omega)
  have k2 := k2.below hb1 (by have := HZ.out; omega)
  have k3 := k3.below hb1 (by have := HZ.out; omega)
  have hn1 := hb4.trans (hb1.mono hb4.size)
  have hz1 : w.heap.size + 1 + 1 + 1 < w1.heap.size := k3.lt
  clear hb4 hb1
  have k0_0 := k0.cell 0
  have k0_1 := k0.cell 1
  have k0_2 := k0.cell 2
  have k0_3 := k0.cell 3
  have k0_4 := k0.cell 4
  have k0_5 := k0.cell 5
  have k1_0 := k1.cell 0
  have k1_1 := k1.cell 1
  simp only [List.getElem?_toArray, List.getElem?_cons_succ, List.getElem?_cons_zero] at k0_0 k0_1 k0_2 k0_3 k0_4 k0_5 k1_0 k1_1
  go_wp2_with fail
  clear k0_0 k0_1 k0_2 k0_3 k0_4 k0_5 k1_0 k1_1
  refine (HF'.out w1 hn1).mono ?_
  rintro _ w2 ⟨rfl, hb2⟩
  have k0 := k0.below hb2 (by omega)
  have k1 := k1.below hb2 (by omega)
  have k2 := k2.below hb2 (by omega)
  have k3 := k3.below hb2 hz1
  have hn2 := hn1.trans (hb2.mono hn1.size)
  have hz2 : w.heap.size + 1 + 1 + 1 < w2.heap.size := k3.lt
  have hz20 : w.heap.size < w2.heap.size := by omega
  have hz21 : w.heap.size + 1 < w2.heap.size := by omega
  have hz22 : w.heap.size + 1 + 1 < w2.heap.size := by omega
  clear hb2 hn1 hz1
  have k0_0 := k0.cell 0
  have k0_1 := k0.cell 1
  have k0_2 := k0.cell 2
  have k0_3 := k0.cell 3
  have k0_4 := k0.cell 4
  have k0_5 := k0.cell 5
  have k2_0 := k2.cell 0
  have k2_1 := k2.cell 1
  have k2_2 := k2.cell 2
  have k2_3 := k2.cell 3
  have k2_4 := k2.cell 4
  simp only [List.getElem?_toArray, List.getElem?_cons_succ, List.getElem?_cons_zero] at k0_0 k0_1 k0_2 k0_3 k0_4 k0_5 k2_0 k2_1 k2_2 k2_3 k2_4
  have f0 := k0.frozen 0
  go_wp2_with fail
  have k0s := k0.set_ 0 (.int .i64 1)
  have k1s := k1.far (p := ⟨w.heap.size, 0, none⟩) (by simp) (.int .i64 1)
  have k2s := k2.far (p := ⟨w.heap.size, 0, none⟩) (by simp <;> omega) (.int .i64 1)
  have k3s := k3.far (p := ⟨w.heap.size, 0, none⟩) (by simp <;> omega) (.int .i64 1)
  have hn2s := hn2.setCell (p := ⟨w.heap.size, 0, none⟩) (by simp) (.int .i64 1)
  obtain ⟨w3, hw3⟩ : ∃ w3, w3 = w2.setCell ⟨w.heap.size, 0, none⟩ (.int .i64 1) := ⟨_, rfl⟩
  have hsz : w2.heap.size = w3.heap.size := by rw [hw3]; simp [World.setCell]
  rw [← hw3] at k0s k1s k2s k3s hn2s ⊢
  rw [hsz]
  have hz2 : w.heap.size + 1 + 1 + 1 < w3.heap.size := k3s.lt
  clear k0_0 k0_1 k0_2 k0_3 k0_4 k0_5 k2_0 k2_1 k2_2 k2_3 k2_4
  clear k0 k1 k2 k3 hn2 f0 hz20 hz21 hz22 hw3 hsz
  have hc3 := cells3 w3 #[.int .u8 k, .string nm, .int .i64 n, .slice A l c, .int .i64 at_] #[.int .i64 0, .int .i64 1, .int .u8 3, .int .i64 0, .int .u8 0, .slice (some ⟨w3.heap.size, 0, none⟩) 1 1, .int .i64 0] #[.int .i64 1, .slice Aa na ca, .int .i64 2, .int .i64 0, .int .i64 1, .slice (some ⟨w3.heap.size + 1, 0, none⟩) 1 1] 45 49 35 0
  have m1 := Blk.new w3 45 #[.int .u8 k, .string nm, .int .i64 n, .slice A l c, .int .i64 at_]
  have m2 := Blk.new (w3.alloc (.cells #[.int .u8 k, .string nm, .int .i64 n, .slice A l c, .int .i64 at_] 45)) 49 #[.int .i64 0, .int .i64 1, .int .u8 3, .int .i64 0, .int .u8 0, .slice (some ⟨w3.heap.size, 0, none⟩) 1 1, .int .i64 0]
  rw [World.size_alloc] at m2
  have hb7 : Below w3.heap.size w3 (((w3.alloc (.cells #[.int .u8 k, .string nm, .int .i64 n, .slice A l c, .int .i64 at_] 45)).alloc (.cells #[.int .i64 0, .int .i64 1, .int .u8 3, .int .i64 0, .int .u8 0, .slice (some ⟨w3.heap.size, 0, none⟩) 1 1, .int .i64 0] 49)).alloc (.cells #[.int .i64 1, .slice Aa na ca, .int .i64 2, .int .i64 0, .int .i64 1, .slice (some ⟨w3.heap.size + 1, 0, none⟩) 1 1] 35)) := (((Below.refl _ _).alloc (Nat.le_refl _) _).alloc (by simp) _).alloc (by simp; omega) _
  refine (HW'.out _ _ _ _ _ (hn2s.trans (hb7.mono hn2s.size)) ((m1.alloc _).alloc _) (m2.alloc _)).mono ?_
  rintro _ w5 ⟨rfl, hb5⟩
  have hb57 := hb7.trans (hb5.mono hb7.size)
  have k1 := k1s.below hb57 (by omega)
  have k2 := k2s.below hb57 (by omega)
  have k3 := k3s.below hb57 hz2
  have hn5 := hn2s.trans (hb57.mono hn2s.size)
  have hz5 : w.heap.size + 1 + 1 + 1 < w5.heap.size := k3.lt
  clear hc3 m1 m2 hb7 hb5 hb57 hz2 hn2s
  have k1_0 := k1.cell 0
  have k1_1 := k1.cell 1
  have k2_0 := k2.cell 0
  have k2_1 := k2.cell 1
  have k2_2 := k2.cell 2
  have k2_3 := k2.cell 3
  have k2_4 := k2.cell 4
  simp only [List.getElem?_toArray, List.getElem?_cons_succ, List.getElem?_cons_zero] at k1_0 k1_1 k2_0 k2_1 k2_2 k2_3 k2_4
  go_wp2_with fail
  clear k1_0 k1_1 k2_0 k2_1 k2_2 k2_3 k2_4
  refine (HR'.out w5 hn5).mono ?_
  rintro _ w6 ⟨rfl, hb6⟩
  have k1 := k1.below hb6 (by omega)
  have k2 := k2.below hb6 (by omega)
  have k3 := k3.below hb6 hz5
  have hn6 := hn5.trans (hb6.mono hn5.size)
  have hz6 : w.heap.size + 1 + 1 + 1 < w6.heap.size := k3.lt
  clear hb6 hn5 hz5
  go_wp2_with fail
  refine (HT'.out w6 _ _ _ _ _ _ hn6 k1 k2 k3).mono ?_
  rintro _ w8 ⟨rfl, k3, hb8⟩
  have hn8 := hn6.trans (hb8.mono (by omega))
  have hz8 : w.heap.size + 1 + 1 + 1 < w8.heap.size := k3.lt
  have k3_0 := k3.cell 0
  have f3 := k3.frozen 0
  simp only [List.getElem?_toArray, List.getElem?_cons_succ, List.getElem?_cons_zero] at k3_0
  have hf8 := hn8.setCell (p := ⟨w.heap.size + 1 + 1 + 1, 0, none⟩) (by simp; omega) (.int .i64 v)
  have kf := ((k3.set_ 0 (.int .i64 v)).alloc (.cells #[.int .u8 q1, .int .i64 q2] 88)).cell 0
  simp only [List.setIfInBounds_toArray, List.set_cons_zero, List.getElem?_toArray, List.getElem?_cons_zero] at kf
  clear hb8 k1 k2
  go_wp2_with fail
  go_region
  all_goals
    go_wp2_with fail
    exact bodyPost_ret (v := .tuple #[.int .i64 v, .int .u8 q1, .int .i64 q2, .int .i64 0]) (by simp [results, Try.results16, go_sem, kf]) rfl ⟨rfl, (hf8.alloc hf8.size _).drew⟩

/-- THE CONTRACT of sem.Value -/
theorem value_any (g : Gr) (Aa Ae : Option Addr) (ca ce : Nat) (vs : List Int) (ls : List (List Int)) (Av Al : Option Addr) (cv cl : Nat) (k : Int) (nm : ByteArray) (n : Int) (args : Exs) (at_ : Int) (A : Option Addr) (c B : Nat) (w : World) (hB : B ≤ w.heap.size)
    (hg : GrSl w B g Aa ca Ae ce) (hst : StSl w B vs ls Av cv Al cl) (hx : ExSl w B args A c) (hk8 : in8 k) (hn : in64 n) (hat : in64 at_) (h64 : St64 vs ls) (hn64 : Ns64 args) :
    Calls Try.prog 16 #[grV g.vars Aa g.arrays.length ca g.nodes g.start g.last Ae g.edges.length ce, stV Av vs.length cv Al ls.length cl, exV k nm n A args.len c at_] w (ValPost (valT g vs ls k n args at_) w) := by
  have h1 : ∀ W, Below w.heap.size w W → Calls Try.prog 12 #[grV g.vars Aa g.arrays.length ca g.nodes g.start g.last Ae g.edges.length ce] W (ErrPost (mayG g) W) := fun W h =>
    check_any g Aa Ae ca ce B W (Nat.le_trans hB h.size) (hg.keep (Same.of h hB))
  have h2 : ∀ W, Below w.heap.size w W → Calls Try.prog 42 #[grV g.vars Aa g.arrays.length ca g.nodes g.start g.last Ae g.edges.length ce, stV Av vs.length cv Al ls.length cl] W (BoolPost (fitsB g.vars g.arrays vs.length ls) W) := fun W h =>
    fits_any g.vars g.arrays Aa ca g.nodes g.start g.last Ae g.edges.length ce vs ls Av Al cv cl B W (Nat.le_trans hB h.size) (hg.arrays.keep (Same.of h hB)) (hst.keep (Same.of h hB))
  have h3 : ∀ W, Below w.heap.size w W → Calls Try.prog 43 #[exV k nm n A args.len c at_] W (BoolPost (k == 2 || readsX args) W) := fun W h =>
    reads_any k nm n args at_ A c B W (Nat.le_trans hB h.size) (hx.keep (Same.of h hB))
  have h4 : ∀ (W : World) (b1 b2 : Nat) (t1 t2 : TypeId), Below w.heap.size w W → Blk W b1 t1 #[.int .u8 k, .string nm, .int .i64 n, .slice A args.len c, .int .i64 at_] → Blk W b2 t2 #[.int .i64 0, .int .i64 1, .int .u8 3, .int .i64 0, .int .u8 0, .slice (some ⟨b1, 0, none⟩) 1 1, .int .i64 0] →
      Calls Try.prog 12 #[.agg #[.int .i64 (oneV g.vars), .slice Aa g.arrays.length ca, .int .i64 2, .int .i64 0, .int .i64 1, .slice (some ⟨b2, 0, none⟩) 1 1]] W (ErrPost (mayG (withG (oneV g.vars) g.arrays k nm n args at_)) W) := fun W b1 b2 t1 t2 h k1 k2 =>
    check_any (withG (oneV g.vars) g.arrays k nm n args at_) Aa (some ⟨b2, 0, none⟩) ca 1 W.heap.size W (Nat.le_refl _) (withSl (Nat.le_trans hB h.size) (hg.arrays.keep (Same.of h hB)) (hx.keep (Same.of h hB)) hk8 hn hat k1 k2)
  have h5 : (mayK vs.length ls.length k n args.len && mayX vs.length ls.length args) = true → ∀ (W : World) (P Q N : Nat) (tp tq t : TypeId), Below w.heap.size w W → Blk W P tp #[.slice Av vs.length cv, .slice Al ls.length cl] → Blk W Q tq #[.int .u8 k, .string nm, .int .i64 n, .slice A args.len c, .int .i64 at_] → Blk W N t #[.int .i64 0] →
      Calls Try.prog 44 #[.func (.func 45) #[] #[.pointer (some ⟨P, 0, none⟩), .pointer (some ⟨Q, 0, none⟩), .pointer (some ⟨N, 0, none⟩)]] W fun e w' =>
        e = .returned (.agg #[.int .u8 (fltOne vs ls k n args at_).1, .int .i64 (fltOne vs ls k n args at_).2]) ∧ Blk w' N t #[.int .i64 (if (fltOne vs ls k n args at_).1 = 0 then valOne vs ls k n (valsX vs ls args) else 0)] ∧ Below N W w' := fun hm W P Q N tp tq t h kP kQ kN =>
    try_value vs ls Av Al cv cl B k nm n args at_ A c P Q N tp tq t W (Nat.le_trans hB h.size) (hst.keep (Same.of h hB)) (hx.keep (Same.of h hB)) hm h64 hn64 kP kQ kN
  unfold valT
  cases e1 : mayG g
  · rw [e1] at h1
    exact value_a _ _ _ _ _ _ _ _ _ _ _ _ _ _ _ _ _ _ _ _ _ _ _ w h1
  rw [mayG_with g e1] at h4
  have hv0 := mayG_vars e1
  rw [e1] at h1
  cases e2 : fitsB g.vars g.arrays vs.length ls
  · rw [e2] at h2
    exact value_b _ _ _ _ _ _ _ _ _ _ _ _ _ _ _ _ _ _ _ _ _ _ _ w h1 h2
  rw [e2] at h2
  rw [if_pos (show (true && true) = true from rfl)]
  have hf := fitsB_of e2
  by_cases hv : g.vars < 1
  · have hz : g.vars = 0 := by omega
    have hl : vs.length = 0 := by omega
    have ho : oneV g.vars = 1 := by unfold oneV; rw [if_pos hv]
    rw [ho] at h4
    have hx1 := mayX_one (g.arrays.length : Int) (.cons k nm n args at_ .nil)
    simp only [mayX, readsX, Bool.and_true, Bool.or_false] at hx1
    rw [hz] at h1 h2 ⊢
    rw [hl] at h2 h5 ⊢
    rw [hx1]
    cases e3 : mayK 1 g.arrays.length k n args.len && mayX 1 g.arrays.length args
    · rw [e3] at h4
      exact value_z0 _ _ _ _ _ _ _ _ _ _ _ _ _ _ _ _ _ _ _ _ _ w h1 h2 h4
    · rw [e3] at h4
      cases e4 : (k == 2 || readsX args)
      · rw [e4] at h3
        rw [e3, e4] at hx1
        rw [hf.2] at hx1
        exact value_z1n _ _ _ _ _ _ _ _ _ _ _ _ _ _ _ _ _ _ _ _ _ _ _ _ w h1 h2 h4 h3 (h5 hx1)
      · rw [e4] at h3
        exact value_z1r _ _ _ _ _ _ _ _ _ _ _ _ _ _ _ _ _ _ _ _ _ w h1 h2 h4 h3
  · have ho : oneV g.vars = g.vars := by unfold oneV; rw [if_neg hv]
    have hv2 : ((vs.length : Int) == 0) = false := by rw [← hf.1]; simp; omega
    rw [ho] at h4
    cases e3 : mayK g.vars g.arrays.length k n args.len && mayX g.vars g.arrays.length args
    · rw [e3] at h4
      exact value_p0 _ _ _ _ _ _ _ _ _ _ _ _ _ _ _ _ _ _ _ _ _ _ _ w hv hv2 h1 h2 h4
    · rw [e3] at h4
      rw [hf.1, hf.2] at e3
      exact value_p1 _ _ _ _ _ _ _ _ _ _ _ _ _ _ _ _ _ _ _ _ _ _ _ _ _ _ w hv hv2 h1 h2 h4 (h5 e3)
end Go.Proofs.Ytjeapacohgfpiaa
