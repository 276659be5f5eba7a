/-
  facetroomref14.Value: what an expression has, in a graph and a store.
-/
import Derived.Test.YtjeapacohgfpiaaSvRHas
import Derived.Test.YtjeapacohgfpiaaSvValA
import Derived.Test.YtjeapacohgfpiaaFlRMay
import Derived.Test.YtjeapacohgfpiaaFlRJ
namespace Go.Proofs.Ytjeapacohgfpiaa
open Go.RowKit Go.Shelf
set_option linter.unusedVariables false

/-- three new blocks -/
theorem blk3 (w : World) (c0 c1 c2 : Array Value) (t0 t1 t2 : TypeId) (W : World) (hW : W = (((w.alloc (.cells c0 t0)).alloc (.cells c1 t1)).alloc (.cells c2 t2))) :
    Blk W w.heap.size t0 c0 ∧ Blk W (w.heap.size + 1) t1 c1 ∧ Blk W (w.heap.size + 1 + 1) t2 c2 ∧ W.heap.size = w.heap.size + 3 ∧ Below w.heap.size w W := by
  subst hW
  have h0 := Blk.new w t0 c0
  have h1 := Blk.new (w.alloc (.cells c0 t0)) t1 c1
  have h2 := Blk.new ((w.alloc (.cells c0 t0)).alloc (.cells c1 t1)) t2 c2
  simp only [World.size_alloc] at h1 h2
  exact ⟨(h0.alloc _).alloc _, h1.alloc _, h2, by simp, ((((Below.refl _ _).alloc (Nat.le_refl _) _).alloc (by simp) _).alloc (by simp; omega) _)⟩

set_option maxRecDepth 100000 in
set_option maxHeartbeats 3200000 in
theorem rval_a (vars nodes start last : Int) (Aa Ae Av Al A : Option Addr) (na ca ne ce nv cv nl cl l c : Nat) (k : Int) (nm : ByteArray) (n at_ : Int) (w : World)
    (HC : ∀ W, Below w.heap.size w W → Calls Try.prog 35 #[.agg #[.int .i64 vars, .slice Aa na ca, .int .i64 nodes, .int .i64 start, .int .i64 last, .slice Ae ne ce]] W (BoolPost false W)) :
    Calls Try.prog 17 #[.agg #[.int .i64 vars, .slice Aa na ca, .int .i64 nodes, .int .i64 start, .int .i64 last, .slice Ae ne ce], .agg #[.slice Av nv cv, .slice Al nl cl], .agg #[.int .u8 k, .string nm, .int .i64 n, .slice A l c, .int .i64 at_]] w (ValPost (0, 0, 0, 8) w) := by
  have HC' := Lib.hid HC
  clear HC
  go_enter Try.func17, Try.ntmps17
  go_wp2_with fail
  obtain ⟨W4, hW4⟩ : ∃ W4, W4 = (((w.alloc (.cells #[.int .i64 vars, .slice Aa na ca, .int .i64 nodes, .int .i64 start, .int .i64 last, .slice Ae ne ce] 35)).alloc (.cells #[.slice Av nv cv, .slice Al nl cl] 42)).alloc (.cells #[.int .u8 k, .string nm, .int .i64 n, .slice A l c, .int .i64 at_] 45)) := ⟨_, rfl⟩
  obtain ⟨k0, k1, k2, hz, hn⟩ := blk3 w _ _ _ _ _ _ W4 hW4
  rw [← hW4]
  clear hW4
  have HZ := Lib.hid hz
  clear hz
  have hz : w.heap.size + 1 + 1 < W4.heap.size := k2.lt
  refine (HC'.out W4 hn).mono ?_
  rintro _ w1 ⟨rfl, hb⟩
  have k0 := k0.below hb (by omega)
  have k1 := k1.below hb (by omega)
  have k2 := k2.below hb (by omega)
  have hn := hn.trans (hb.mono hn.size)
  have hz : w.heap.size + 1 + 1 < w1.heap.size := k2.lt
  clear hb
  go_wp2_with fail
  exact bodyPost_ret (results_tmp4 rfl _ _ _) rfl ⟨rfl, hn⟩
set_option maxRecDepth 100000 in
set_option maxHeartbeats 3200000 in
theorem rval_b (vars nodes start last : Int) (Aa Ae Av Al A : Option Addr) (na ca ne ce nv cv nl cl l c : Nat) (k : Int) (nm : ByteArray) (n at_ : Int) (w : World)
    (HC : ∀ W, Below w.heap.size w W → Calls Try.prog 35 #[.agg #[.int .i64 vars, .slice Aa na ca, .int .i64 nodes, .int .i64 start, .int .i64 last, .slice Ae ne ce]] W (BoolPost true W))
    (HF : ∀ W, Below w.heap.size w W → Calls Try.prog 47 #[.agg #[.int .i64 vars, .slice Aa na ca, .int .i64 nodes, .int .i64 start, .int .i64 last, .slice Ae ne ce], .agg #[.slice Av nv cv, .slice Al nl cl]] W (BoolPost false W)) :
    Calls Try.prog 17 #[.agg #[.int .i64 vars, .slice Aa na ca, .int .i64 nodes, .int .i64 start, .int .i64 last, .slice Ae ne ce], .agg #[.slice Av nv cv, .slice Al nl cl], .agg #[.int .u8 k, .string nm, .int .i64 n, .slice A l c, .int .i64 at_]] w (ValPost (0, 0, 0, 8) w) := by
  have HC' := Lib.hid HC
  clear HC
  have HF' := Lib.hid HF
  clear HF
  go_enter Try.func17, Try.ntmps17
  go_wp2_with fail
  obtain ⟨W4, hW4⟩ : ∃ W4, W4 = (((w.alloc (.cells #[.int .i64 vars, .slice Aa na ca, .int .i64 nodes, .int .i64 start, .int .i64 last, .slice Ae ne ce] 35)).alloc (.cells #[.slice Av nv cv, .slice Al nl cl] 42)).alloc (.cells #[.int .u8 k, .string nm, .int .i64 n, .slice A l c, .int .i64 at_] 45)) := ⟨_, rfl⟩
  obtain ⟨k0, k1, k2, hz, hn⟩ := blk3 w _ _ _ _ _ _ W4 hW4
  rw [← hW4]
  clear hW4
  have HZ := Lib.hid hz
  clear hz
  have hz : w.heap.size + 1 + 1 < W4.heap.size := k2.lt
  refine (HC'.out W4 hn).mono ?_
  rintro _ w1 ⟨rfl, hb⟩
  have k0 := k0.below hb (by omega)
  have k1 := k1.below hb (by omega)
  have k2 := k2.below hb (by omega)
  have hn := hn.trans (hb.mono hn.size)
  have hz : w.heap.size + 1 + 1 < w1.heap.size := k2.lt
  clear hb
  have k0_0 := k0.cell 0
  have k0_1 := k0.cell 1
  have k0_2 := k0.cell 2
  have k0_3 := k0.cell 3
  have k0_4 := k0.cell 4
  have k0_5 := k0.cell 5
  have k1_0 := k1.cell 0
  have k1_1 := k1.cell 1
  simp only [List.getElem?_toArray, List.getElem?_cons_succ, List.getElem?_cons_zero] at k0_0 k0_1 k0_2 k0_3 k0_4 k0_5 k1_0 k1_1
  go_wp2_with fail
  clear k0_0 k0_1 k0_2 k0_3 k0_4 k0_5 k1_0 k1_1
  refine (HF'.out w1 hn).mono ?_
  rintro _ w2 ⟨rfl, hb⟩
  have k0 := k0.below hb (by omega)
  have k1 := k1.below hb (by omega)
  have k2 := k2.below hb (by omega)
  have hn := hn.trans (hb.mono hn.size)
  have hz : w.heap.size + 1 + 1 < w2.heap.size := k2.lt
  clear hb
  go_wp2_with fail
  exact bodyPost_ret (results_tmp4 rfl _ _ _) rfl ⟨rfl, hn⟩
set_option maxRecDepth 100000 in
set_option maxHeartbeats 3200000 in
theorem rval_c (vars nodes start last : Int) (Aa Ae Av Al A : Option Addr) (na ca ne ce nv cv nl cl l c : Nat) (k : Int) (nm : ByteArray) (n at_ : Int) (w : World)
    (HC : ∀ W, Below w.heap.size w W → Calls Try.prog 35 #[.agg #[.int .i64 vars, .slice Aa na ca, .int .i64 nodes, .int .i64 start, .int .i64 last, .slice Ae ne ce]] W (BoolPost true W))
    (HF : ∀ W, Below w.heap.size w W → Calls Try.prog 47 #[.agg #[.int .i64 vars, .slice Aa na ca, .int .i64 nodes, .int .i64 start, .int .i64 last, .slice Ae ne ce], .agg #[.slice Av nv cv, .slice Al nl cl]] W (BoolPost true W))
    (HM : ∀ W, Below w.heap.size w W → Calls Try.prog 48 #[.agg #[.int .i64 vars, .slice Aa na ca, .int .i64 nodes, .int .i64 start, .int .i64 last, .slice Ae ne ce], .agg #[.int .u8 k, .string nm, .int .i64 n, .slice A l c, .int .i64 at_]] W (BoolPost false W)) :
    Calls Try.prog 17 #[.agg #[.int .i64 vars, .slice Aa na ca, .int .i64 nodes, .int .i64 start, .int .i64 last, .slice Ae ne ce], .agg #[.slice Av nv cv, .slice Al nl cl], .agg #[.int .u8 k, .string nm, .int .i64 n, .slice A l c, .int .i64 at_]] w (ValPost (0, 0, 0, 2) w) := by
  have HC' := Lib.hid HC
  clear HC
  have HF' := Lib.hid HF
  clear HF
  have HM' := Lib.hid HM
  clear HM
  go_enter Try.func17, Try.ntmps17
  go_wp2_with fail
  obtain ⟨W4, hW4⟩ : ∃ W4, W4 = (((w.alloc (.cells #[.int .i64 vars, .slice Aa na ca, .int .i64 nodes, .int .i64 start, .int .i64 last, .slice Ae ne ce] 35)).alloc (.cells #[.slice Av nv cv, .slice Al nl cl] 42)).alloc (.cells #[.int .u8 k, .string nm, .int .i64 n, .slice A l c, .int .i64 at_] 45)) := ⟨_, rfl⟩
  obtain ⟨k0, k1, k2, hz, hn⟩ := blk3 w _ _ _ _ _ _ W4 hW4
  rw [← hW4]
  clear hW4
  have HZ := Lib.hid hz
  clear hz
  have hz : w.heap.size + 1 + 1 < W4.heap.size := k2.lt
  refine (HC'.out W4 hn).mono ?_
  rintro _ w1 ⟨rfl, hb⟩
  have k0 := k0.below hb (by omega)
  have k1 := k1.below hb (by omega)
  have k2 := k2.below hb (by omega)
  have hn := hn.trans (hb.mono hn.size)
  have hz : w.heap.size + 1 + 1 < w1.heap.size := k2.lt
  clear hb
  have k0_0 := k0.cell 0
  have k0_1 := k0.cell 1
  have k0_2 := k0.cell 2
  have k0_3 := k0.cell 3
  have k0_4 := k0.cell 4
  have k0_5 := k0.cell 5
  have k1_0 := k1.cell 0
  have k1_1 := k1.cell 1
  simp only [List.getElem?_toArray, List.getElem?_cons_succ, List.getElem?_cons_zero] at k0_0 k0_1 k0_2 k0_3 k0_4 k0_5 k1_0 k1_1
  go_wp2_with fail
  clear k0_0 k0_1 k0_2 k0_3 k0_4 k0_5 k1_0 k1_1
  refine (HF'.out w1 hn).mono ?_
  rintro _ w2 ⟨rfl, hb⟩
  have k0 := k0.below hb (by omega)
  have k1 := k1.below hb (by omega)
  have k2 := k2.below hb (by omega)
  have hn := hn.trans (hb.mono hn.size)
  have hz : w.heap.size + 1 + 1 < w2.heap.size := k2.lt
  clear hb
  have k0_0 := k0.cell 0
  have k0_1 := k0.cell 1
  have k0_2 := k0.cell 2
  have k0_3 := k0.cell 3
  have k0_4 := k0.cell 4
  have k0_5 := k0.cell 5
  have k2_0 := k2.cell 0
  have k2_1 := k2.cell 1
  have k2_2 := k2.cell 2
  have k2_3 := k2.cell 3
  have k2_4 := k2.cell 4
  simp only [List.getElem?_toArray, List.getElem?_cons_succ, List.getElem?_cons_zero] at k0_0 k0_1 k0_2 k0_3 k0_4 k0_5 k2_0 k2_1 k2_2 k2_3 k2_4
  go_wp2_with fail
  clear k0_0 k0_1 k0_2 k0_3 k0_4 k0_5 k2_0 k2_1 k2_2 k2_3 k2_4
  refine (HM'.out w2 hn).mono ?_
  rintro _ w3 ⟨rfl, hb⟩
  have k0 := k0.below hb (by omega)
  have k1 := k1.below hb (by omega)
  have k2 := k2.below hb (by omega)
  have hn := hn.trans (hb.mono hn.size)
  have hz : w.heap.size + 1 + 1 < w3.heap.size := k2.lt
  clear hb
  go_wp2_with fail
  exact bodyPost_ret (results_tmp4 rfl _ _ _) rfl ⟨rfl, hn⟩
set_option maxRecDepth 100000 in
set_option maxHeartbeats 3200000 in
theorem rval_d (vars nodes start last : Int) (Aa Ae Av Al A : Option Addr) (na ca ne ce nv cv nl cl l c : Nat) (k : Int) (nm : ByteArray) (n at_ : Int) (v q1 q2 : Int) (w : World)
    (HC : ∀ W, Below w.heap.size w W → Calls Try.prog 35 #[.agg #[.int .i64 vars, .slice Aa na ca, .int .i64 nodes, .int .i64 start, .int .i64 last, .slice Ae ne ce]] W (BoolPost true W))
    (HF : ∀ W, Below w.heap.size w W → Calls Try.prog 47 #[.agg #[.int .i64 vars, .slice Aa na ca, .int .i64 nodes, .int .i64 start, .int .i64 last, .slice Ae ne ce], .agg #[.slice Av nv cv, .slice Al nl cl]] W (BoolPost true W))
    (HM : ∀ W, Below w.heap.size w W → Calls Try.prog 48 #[.agg #[.int .i64 vars, .slice Aa na ca, .int .i64 nodes, .int .i64 start, .int .i64 last, .slice Ae ne ce], .agg #[.int .u8 k, .string nm, .int .i64 n, .slice A l c, .int .i64 at_]] W (BoolPost true W))
    (HH : ∀ W, Below w.heap.size w W → Calls Try.prog 49 #[.agg #[.slice Av nv cv, .slice Al nl cl], .agg #[.int .u8 k, .string nm, .int .i64 n, .slice A l c, .int .i64 at_]] W fun e w' => e = .returned (.tuple #[.int .i64 v, .int .u8 q1, .int .i64 q2]) ∧ Below W.heap.size W w') :
    Calls Try.prog 17 #[.agg #[.int .i64 vars, .slice Aa na ca, .int .i64 nodes, .int .i64 start, .int .i64 last, .slice Ae ne ce], .agg #[.slice Av nv cv, .slice Al nl cl], .agg #[.int .u8 k, .string nm, .int .i64 n, .slice A l c, .int .i64 at_]] w (ValPost (v, q1, q2, 0) w) := by
  have HC' := Lib.hid HC
  clear HC
  have HF' := Lib.hid HF
  clear HF
  have HM' := Lib.hid HM
  clear HM
  have HH' := Lib.hid HH
  clear HH
  go_enter Try.func17, Try.ntmps17
  go_wp2_with fail
  obtain ⟨W4, hW4⟩ : ∃ W4, W4 = (((w.alloc (.cells #[.int .i64 vars, .slice Aa na ca, .int .i64 nodes, .int .i64 start, .int .i64 last, .slice Ae ne ce] 35)).alloc (.cells #[.slice Av nv cv, .slice Al nl cl] 42)).alloc (.cells #[.int .u8 k, .string nm, .int .i64 n, .slice A l c, .int .i64 at_] 45)) := ⟨_, rfl⟩
  obtain ⟨k0, k1, k2, hz, hn⟩ := blk3 w _ _ _ _ _ _ W4 hW4
  rw [← hW4]
  clear hW4
  have HZ := Lib.hid hz
  clear hz
  have hz : w.heap.size + 1 + 1 < W4.heap.size := k2.lt
  refine (HC'.out W4 hn).mono ?_
  rintro _ w1 ⟨rfl, hb⟩
  have k0 := k0.below hb (by omega)
  have k1 := k1.below hb (by omega)
  have k2 := k2.below hb (by omega)
  have hn := hn.trans (hb.mono hn.size)
  have hz : w.heap.size + 1 + 1 < w1.heap.size := k2.lt
  clear hb
  have k0_0 := k0.cell 0
  have k0_1 := k0.cell 1
  have k0_2 := k0.cell 2
  have k0_3 := k0.cell 3
  have k0_4 := k0.cell 4
  have k0_5 := k0.cell 5
  have k1_0 := k1.cell 0
  have k1_1 := k1.cell 1
  simp only [List.getElem?_toArray, List.getElem?_cons_succ, List.getElem?_cons_zero] at k0_0 k0_1 k0_2 k0_3 k0_4 k0_5 k1_0 k1_1
  go_wp2_with fail
  clear k0_0 k0_1 k0_2 k0_3 k0_4 k0_5 k1_0 k1_1
  refine (HF'.out w1 hn).mono ?_
  rintro _ w2 ⟨rfl, hb⟩
  have k0 := k0.below hb (by omega)
  have k1 := k1.below hb (by omega)
  have k2 := k2.below hb (by omega)
  have hn := hn.trans (hb.mono hn.size)
  have hz : w.heap.size + 1 + 1 < w2.heap.size := k2.lt
  clear hb
  have k0_0 := k0.cell 0
  have k0_1 := k0.cell 1
  have k0_2 := k0.cell 2
  have k0_3 := k0.cell 3
  have k0_4 := k0.cell 4
  have k0_5 := k0.cell 5
  have k2_0 := k2.cell 0
  have k2_1 := k2.cell 1
  have k2_2 := k2.cell 2
  have k2_3 := k2.cell 3
  have k2_4 := k2.cell 4
  simp only [List.getElem?_toArray, List.getElem?_cons_succ, List.getElem?_cons_zero] at k0_0 k0_1 k0_2 k0_3 k0_4 k0_5 k2_0 k2_1 k2_2 k2_3 k2_4
  go_wp2_with fail
  clear k0_0 k0_1 k0_2 k0_3 k0_4 k0_5 k2_0 k2_1 k2_2 k2_3 k2_4
  refine (HM'.out w2 hn).mono ?_
  rintro _ w3 ⟨rfl, hb⟩
  have k0 := k0.below hb (by omega)
  have k1 := k1.below hb (by omega)
  have k2 := k2.below hb (by omega)
  have hn := hn.trans (hb.mono hn.size)
  have hz : w.heap.size + 1 + 1 < w3.heap.size := k2.lt
  clear hb
  have k1_0 := k1.cell 0
  have k1_1 := k1.cell 1
  have k2_0 := k2.cell 0
  have k2_1 := k2.cell 1
  have k2_2 := k2.cell 2
  have k2_3 := k2.cell 3
  have k2_4 := k2.cell 4
  simp only [List.getElem?_toArray, List.getElem?_cons_succ, List.getElem?_cons_zero] at k1_0 k1_1 k2_0 k2_1 k2_2 k2_3 k2_4
  go_wp2_with fail
  clear k1_0 k1_1 k2_0 k2_1 k2_2 k2_3 k2_4
  refine (HH'.out w3 hn).mono ?_
  rintro _ w4 ⟨rfl, hb⟩
  have k0 := k0.below hb (by omega)
  have k1 := k1.below hb (by omega)
  have k2 := k2.below hb (by omega)
  have hn := hn.trans (hb.mono hn.size)
  have hz : w.heap.size + 1 + 1 < w4.heap.size := k2.lt
  clear hb
  go_wp2_with fail
  exact bodyPost_ret (results_tmp4 rfl _ _ _) rfl ⟨rfl, hn⟩

/-- THE CONTRACT of ref14.Value -/
theorem rvalue_any (g : Gr) (Aa Ae : Option Addr) (ca ce : Nat) (vs : List Int) (ls : List (List Int)) (Av Al : Option Addr) (cv cl : Nat) (k : Int) (nm : ByteArray) (n : Int) (args : Exs) (at_ : Int) (A : Option Addr) (c B : Nat) (w : World) (hB : B ≤ w.heap.size)
    (hg : GrSl w B g Aa ca Ae ce) (hst : StSl w B vs ls Av cv Al cl) (hx : ExSl w B args A c) (hk8 : in8 k) (h64 : St64 vs ls) (hn64 : Ns64 args) :
    Calls Try.prog 17 #[grV g.vars Aa g.arrays.length ca g.nodes g.start g.last Ae g.edges.length ce, stV Av vs.length cv Al ls.length cl, exV k nm n A args.len c at_] w (ValPost (valT g vs ls k n args at_) w) := by
  have hla := Nat.le_trans hg.arrays.1 hg.arrays.2.1
  have h1 : ∀ W, Below w.heap.size w W → Calls Try.prog 35 #[grV g.vars Aa g.arrays.length ca g.nodes g.start g.last Ae g.edges.length ce] W (BoolPost (mayG g) W) := fun W h =>
    rmay_any g Aa Ae ca ce B W (Nat.le_trans hB h.size) (hg.keep (Same.of h hB))
  have h2 : ∀ W, Below w.heap.size w W → Calls Try.prog 47 #[grV g.vars Aa g.arrays.length ca g.nodes g.start g.last Ae g.edges.length ce, stV Av vs.length cv Al ls.length cl] W (BoolPost (fitsB g.vars g.arrays vs.length ls) W) := fun W h =>
    mayStore_any g.vars g.arrays Aa ca g.nodes g.start g.last Ae g.edges.length ce vs ls Av Al cv cl B W (Nat.le_trans hB h.size) (hg.arrays.keep (Same.of h hB)) (hst.keep (Same.of h hB))
  have h3 : ∀ W, Below w.heap.size w W → Calls Try.prog 48 #[grV g.vars Aa g.arrays.length ca g.nodes g.start g.last Ae g.edges.length ce, exV k nm n A args.len c at_] W (BoolPost (mayK g.vars g.arrays.length k n args.len && mayX g.vars g.arrays.length args) W) := fun W h =>
    rmay_one g.vars g.arrays.length k nm n args at_ A Aa c ca g.nodes g.start g.last Ae g.edges.length ce B W (Nat.le_trans hB h.size) (hx.keep (Same.of h hB)) hla hk8 (rmay_all g.vars Aa g.arrays.length ca g.nodes g.start g.last Ae g.edges.length ce B hla args)
  have h4 : ∀ W, Below w.heap.size w W → (mayK vs.length ls.length k n args.len && mayX vs.length ls.length args) = true → Calls Try.prog 49 #[stV Av vs.length cv Al ls.length cl, exV k nm n A args.len c at_] W (RHasPost (valOne vs ls k n (valsX vs ls args)) (fltOne vs ls k n args at_) W) := fun W h hm => by
    rw [Bool.and_eq_true] at hm
    exact rhas_one vs ls Av Al cv cl B k nm n args at_ A c W (Nat.le_trans hB h.size) (hst.keep (Same.of h hB)) (hx.keep (Same.of h hB)) (rhas_asks vs ls Av Al cv cl B h64 args hm.2 hn64) hm.1 h64 hn64
  unfold valT
  cases e1 : mayG g
  · rw [e1] at h1
    exact rval_a _ _ _ _ _ _ _ _ _ _ _ _ _ _ _ _ _ _ _ _ _ _ _ w h1
  rw [e1] at h1
  cases e2 : fitsB g.vars g.arrays vs.length ls
  · rw [e2] at h2
    exact rval_b _ _ _ _ _ _ _ _ _ _ _ _ _ _ _ _ _ _ _ _ _ _ _ w h1 h2
  rw [e2] at h2
  rw [if_pos (show (true && true) = true from rfl)]
  cases e3 : mayK g.vars g.arrays.length k n args.len && mayX g.vars g.arrays.length args
  · rw [e3] at h3
    exact rval_c _ _ _ _ _ _ _ _ _ _ _ _ _ _ _ _ _ _ _ _ _ _ _ w h1 h2 h3
  rw [e3] at h3
  rw [if_pos rfl]
  have hf := fitsB_of e2
  rw [hf.1, hf.2] at e3
  exact rval_d _ _ _ _ _ _ _ _ _ _ _ _ _ _ _ _ _ _ _ _ _ _ _ _ _ _ w h1 h2 h3 fun W h => h4 W h e3
end Go.Proofs.Ytjeapacohgfpiaa
