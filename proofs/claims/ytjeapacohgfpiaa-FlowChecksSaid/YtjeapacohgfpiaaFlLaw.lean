/-
  The law of chapter 13's first statement: flow.Check and flow.Same answer as the document says.
-/
import Derived.Test.YtjeapacohgfpiaaFlRJ
import Derived.Test.YtjeapacohgfpiaaFlRK
import Derived.Test.YtjeapacohgfpiaaFlGreat
namespace Go.Proofs.Ytjeapacohgfpiaa
open Go.RowKit Go.Shelf

set_option maxRecDepth 100000 in
set_option maxHeartbeats 3200000 in
theorem law_flow (g o : Gr) (Aa Ae Aa' Ae' : Option Addr) (ca ce ca' ce' B : Nat) (w : World) (hB : B ≤ w.heap.size) (hg : GrSl w B g Aa ca Ae ce) (ho : GrSl w B o Aa' ca' Ae' ce') :
    Calls Try.prog 4 #[grV g.vars Aa g.arrays.length ca g.nodes g.start g.last Ae g.edges.length ce, grV o.vars Aa' o.arrays.length ca' o.nodes o.start o.last Ae' o.edges.length ce'] w (BoolPost true w) := by
  have hla := Nat.le_trans hg.arrays.1 hg.arrays.2.1
  have hla' := Nat.le_trans ho.arrays.1 ho.arrays.2.1
  have h1 : ∀ W, Below w.heap.size w W → Calls Try.prog 11 #[grV g.vars Aa g.arrays.length ca g.nodes g.start g.last Ae g.edges.length ce] W (SomeBool W) := fun W h =>
    great_any g.vars Aa g.arrays.length ca g.nodes g.start g.last g.edges Ae ce B W (Nat.le_trans hB h.size) (hg.edges.keep (Same.of h hB)) hla
  have h2 : ∀ W, Below w.heap.size w W → Calls Try.prog 11 #[grV o.vars Aa' o.arrays.length ca' o.nodes o.start o.last Ae' o.edges.length ce'] W (SomeBool W) := fun W h =>
    great_any o.vars Aa' o.arrays.length ca' o.nodes o.start o.last o.edges Ae' ce' B W (Nat.le_trans hB h.size) (ho.edges.keep (Same.of h hB)) hla'
  have h3 : ∀ W, Below w.heap.size w W → Calls Try.prog 12 #[grV g.vars Aa g.arrays.length ca g.nodes g.start g.last Ae g.edges.length ce] W (ErrPost (mayG g) W) := fun W h =>
    check_any g Aa Ae ca ce B W (Nat.le_trans hB h.size) (hg.keep (Same.of h hB))
  have h4 : ∀ W, Below w.heap.size w W → Calls Try.prog 13 #[grV g.vars Aa g.arrays.length ca g.nodes g.start g.last Ae g.edges.length ce] W (ErrPost (mayG g) W) := fun W h =>
    rcheck_any g Aa Ae ca ce B W (Nat.le_trans hB h.size) (hg.keep (Same.of h hB))
  have h5 : ∀ W, Below w.heap.size w W → Calls Try.prog 14 #[grV g.vars Aa g.arrays.length ca g.nodes g.start g.last Ae g.edges.length ce, grV o.vars Aa' o.arrays.length ca' o.nodes o.start o.last Ae' o.edges.length ce'] W (BoolPost (sameG g o) W) := fun W h =>
    flowSame_any g o Aa Ae Aa' Ae' ca ce ca' ce' B W (Nat.le_trans hB h.size) (hg.keep (Same.of h hB)) (ho.keep (Same.of h hB))
  have h6 : ∀ W, Below w.heap.size w W → Calls Try.prog 15 #[grV g.vars Aa g.arrays.length ca g.nodes g.start g.last Ae g.edges.length ce, grV o.vars Aa' o.arrays.length ca' o.nodes o.start o.last Ae' o.edges.length ce'] W (BoolPost (sameG g o) W) := fun W h =>
    rSame_any g o Aa Ae Aa' Ae' ca ce ca' ce' B W (Nat.le_trans hB h.size) (hg.keep (Same.of h hB)) (ho.keep (Same.of h hB))
  obtain ⟨m, hm⟩ : ∃ m, m = (if mayG g then (0 : Int) else 8) := ⟨_, rfl⟩
  obtain ⟨s, hs⟩ : ∃ s, s = sameG g o := ⟨_, rfl⟩
  unfold ErrPost at h3 h4
  unfold BoolPost at h5 h6
  rw [← hm] at h3 h4
  rw [← hs] at h5 h6
  obtain ⟨v, ar, nd, st, la, xs⟩ := g
  obtain ⟨v', ar', nd', st', la', ys⟩ := o
  simp only at h1 h2 h3 h4 h5 h6 hla hla' ⊢
  clear hm hs hg ho
  obtain ⟨na, hna⟩ : ∃ n, n = ar.length := ⟨_, rfl⟩
  obtain ⟨na', hna'⟩ : ∃ n, n = ar'.length := ⟨_, rfl⟩
  obtain ⟨ne, hne⟩ : ∃ n, n = xs.length := ⟨_, rfl⟩
  obtain ⟨ne', hne'⟩ : ∃ n, n = ys.length := ⟨_, rfl⟩
  rw [← hna, ← hne] at h1 h3 h4
  rw [← hna', ← hne'] at h2
  rw [← hna, ← hne, ← hna', ← hne'] at h5 h6 ⊢
  clear hna hna' hne hne' hla hla'
  unfold grV at h1 h2 h3 h4 h5 h6 ⊢
  obtain ⟨G, hG⟩ : ∃ G : List Value, G = [.int .i64 v, .slice Aa na ca, .int .i64 nd, .int .i64 st, .int .i64 la, .slice Ae ne ce] := ⟨_, rfl⟩
  clear hG G
  have H1 := Lib.hid h1
  have H2 := Lib.hid h2
  have H3 := Lib.hid h3
  have H4 := Lib.hid h4
  have H5 := Lib.hid h5
  have H6 := Lib.hid h6
  clear h1 h2 h3 h4 h5 h6
  have hbb : ∀ c0 c1 : Array Value, Below w.heap.size w ((w.alloc (.cells c0 35)).alloc (.cells c1 35)) := fun _ _ => ((Below.refl _ _).alloc (Nat.le_refl _) _).alloc (by simp) _
  have HBB := Lib.hid hbb
  clear hbb
  go_enter Try.func4, Try.ntmps4
  go_wp2_with fail
  refine (H1.out _ (HBB.out _ _)).mono ?_
  rintro _ w1 ⟨b1, rfl, hb1⟩
  have hn1 := (HBB.out #[.int .i64 v, .slice Aa na ca, .int .i64 nd, .int .i64 st, .int .i64 la, .slice Ae ne ce] #[.int .i64 v', .slice Aa' na' ca', .int .i64 nd', .int .i64 st', .int .i64 la', .slice Ae' ne' ce']).trans (hb1.mono (HBB.out _ _).size)
  have hcs := fun i => cells2 w #[.int .i64 v, .slice Aa na ca, .int .i64 nd, .int .i64 st, .int .i64 la, .slice Ae ne ce] #[.int .i64 v', .slice Aa' na' ca', .int .i64 nd', .int .i64 st', .int .i64 la', .slice Ae' ne' ce'] 35 35 i
  cases b1
  case true =>
    go_wp2_with fail
    go_ret
    exact ⟨rfl, hn1⟩
  have k0 := (hb1.cell (p := ⟨w.heap.size, 0, none⟩) (by simp; omega)).trans (hcs 0).1
  have k1 := (hb1.cell (p := ⟨w.heap.size, 1, none⟩) (by simp; omega)).trans (hcs 1).1
  have k2 := (hb1.cell (p := ⟨w.heap.size, 2, none⟩) (by simp; omega)).trans (hcs 2).1
  have k3 := (hb1.cell (p := ⟨w.heap.size, 3, none⟩) (by simp; omega)).trans (hcs 3).1
  have k4 := (hb1.cell (p := ⟨w.heap.size, 4, none⟩) (by simp; omega)).trans (hcs 4).1
  have k5 := (hb1.cell (p := ⟨w.heap.size, 5, none⟩) (by simp; omega)).trans (hcs 5).1
  have m0 := (hb1.cell (p := ⟨w.heap.size + 1, 0, none⟩) (by simp)).trans (hcs 0).2
  have m1 := (hb1.cell (p := ⟨w.heap.size + 1, 1, none⟩) (by simp)).trans (hcs 1).2
  have m2 := (hb1.cell (p := ⟨w.heap.size + 1, 2, none⟩) (by simp)).trans (hcs 2).2
  have m3 := (hb1.cell (p := ⟨w.heap.size + 1, 3, none⟩) (by simp)).trans (hcs 3).2
  have m4 := (hb1.cell (p := ⟨w.heap.size + 1, 4, none⟩) (by simp)).trans (hcs 4).2
  have m5 := (hb1.cell (p := ⟨w.heap.size + 1, 5, none⟩) (by simp)).trans (hcs 5).2
  simp only [List.getElem?_toArray, List.getElem?_cons_succ, List.getElem?_cons_zero] at k0 k1 k2 k3 k4 k5 m0 m1 m2 m3 m4 m5
  have hz1 : w.heap.size + 1 < w1.heap.size := by have := hb1.size; simp at this; omega
  have HN1 := Lib.hid hn1
  have HZ := Lib.hid hz1
  clear hcs hb1 hn1 hz1
  go_wp2_with fail
  refine (H2.out _ HN1.out).mono ?_
  rintro _ w2 ⟨b2, rfl, hb2⟩
  have hn2 := HN1.out.trans (hb2.mono HN1.out.size)
  cases b2
  case true =>
    go_wp2_with fail
    go_ret
    exact ⟨rfl, hn2⟩
  have hz := HZ.out
  have hz0 : w.heap.size < w1.heap.size := by omega
  have z0 : ∀ z : HeldW (Below w2.heap.size w2), z.w.cell? ⟨w.heap.size, 0, none⟩ = some (.int .i64 v) := fun z => (z.h.cell (Nat.lt_of_lt_of_le hz0 hb2.size)).trans ((hb2.cell hz0).trans k0)
  have z1 : ∀ z : HeldW (Below w2.heap.size w2), z.w.cell? ⟨w.heap.size, 1, none⟩ = some (.slice Aa na ca) := fun z => (z.h.cell (Nat.lt_of_lt_of_le hz0 hb2.size)).trans ((hb2.cell hz0).trans k1)
  have z2 : ∀ z : HeldW (Below w2.heap.size w2), z.w.cell? ⟨w.heap.size, 2, none⟩ = some (.int .i64 nd) := fun z => (z.h.cell (Nat.lt_of_lt_of_le hz0 hb2.size)).trans ((hb2.cell hz0).trans k2)
  have z3 : ∀ z : HeldW (Below w2.heap.size w2), z.w.cell? ⟨w.heap.size, 3, none⟩ = some (.int .i64 st) := fun z => (z.h.cell (Nat.lt_of_lt_of_le hz0 hb2.size)).trans ((hb2.cell hz0).trans k3)
  have z4 : ∀ z : HeldW (Below w2.heap.size w2), z.w.cell? ⟨w.heap.size, 4, none⟩ = some (.int .i64 la) := fun z => (z.h.cell (Nat.lt_of_lt_of_le hz0 hb2.size)).trans ((hb2.cell hz0).trans k4)
  have z5 : ∀ z : HeldW (Below w2.heap.size w2), z.w.cell? ⟨w.heap.size, 5, none⟩ = some (.slice Ae ne ce) := fun z => (z.h.cell (Nat.lt_of_lt_of_le hz0 hb2.size)).trans ((hb2.cell hz0).trans k5)
  have y0 : ∀ z : HeldW (Below w2.heap.size w2), z.w.cell? ⟨w.heap.size + 1, 0, none⟩ = some (.int .i64 v') := fun z => (z.h.cell (Nat.lt_of_lt_of_le hz hb2.size)).trans ((hb2.cell hz).trans m0)
  have y1 : ∀ z : HeldW (Below w2.heap.size w2), z.w.cell? ⟨w.heap.size + 1, 1, none⟩ = some (.slice Aa' na' ca') := fun z => (z.h.cell (Nat.lt_of_lt_of_le hz hb2.size)).trans ((hb2.cell hz).trans m1)
  have y2 : ∀ z : HeldW (Below w2.heap.size w2), z.w.cell? ⟨w.heap.size + 1, 2, none⟩ = some (.int .i64 nd') := fun z => (z.h.cell (Nat.lt_of_lt_of_le hz hb2.size)).trans ((hb2.cell hz).trans m2)
  have y3 : ∀ z : HeldW (Below w2.heap.size w2), z.w.cell? ⟨w.heap.size + 1, 3, none⟩ = some (.int .i64 st') := fun z => (z.h.cell (Nat.lt_of_lt_of_le hz hb2.size)).trans ((hb2.cell hz).trans m3)
  have y4 : ∀ z : HeldW (Below w2.heap.size w2), z.w.cell? ⟨w.heap.size + 1, 4, none⟩ = some (.int .i64 la') := fun z => (z.h.cell (Nat.lt_of_lt_of_le hz hb2.size)).trans ((hb2.cell hz).trans m4)
  have y5 : ∀ z : HeldW (Below w2.heap.size w2), z.w.cell? ⟨w.heap.size + 1, 5, none⟩ = some (.slice Ae' ne' ce') := fun z => (z.h.cell (Nat.lt_of_lt_of_le hz hb2.size)).trans ((hb2.cell hz).trans m5)
  have up : ∀ W, Below w2.heap.size w2 W → Below w.heap.size w W := fun W h => hn2.trans (h.mono hn2.size)
  have C3 := Lib.hid (fun (W : World) (h : Below w2.heap.size w2 W) => (H3.out W (up W h)).mono fun x w' h2 => show x = .returned (.int .i64 m) ∧ Below w2.heap.size w2 w' from ⟨h2.1, h.trans (h2.2.mono h.size)⟩)
  have C4 := Lib.hid (fun (W : World) (h : Below w2.heap.size w2 W) => (H4.out W (up W h)).mono fun x w' h2 => show x = .returned (.int .i64 m) ∧ Below w2.heap.size w2 w' from ⟨h2.1, h.trans (h2.2.mono h.size)⟩)
  have C5 := Lib.hid (fun (W : World) (h : Below w2.heap.size w2 W) => (H5.out W (up W h)).mono fun x w' h2 => show x = .returned (.bool s) ∧ Below w2.heap.size w2 w' from ⟨h2.1, h.trans (h2.2.mono h.size)⟩)
  have C6 := Lib.hid (fun (W : World) (h : Below w2.heap.size w2 W) => (H6.out W (up W h)).mono fun x w' h2 => show x = .returned (.bool s) ∧ Below w2.heap.size w2 w' from ⟨h2.1, h.trans (h2.2.mono h.size)⟩)
  have hS : Below w2.heap.size w2 w2.drew := (Below.refl _ _).drew
  have hnon : Nonempty (HeldW (Below w2.heap.size w2)) := ⟨⟨_, hS⟩⟩
  have HN2 := Lib.hid hn2
  have hmm : (m == m) = true := by simp
  have hss : (s == s) = true := by simp
  clear up hn2 hb2 hz hz0 k0 k1 k2 k3 k4 k5 m0 m1 m2 m3 m4 m5
  go_wp2_with fail
  refine wp_region_held (Below w2.heap.size w2) hS (by kernel_rfl) (by kernel_rfl) ?_
  repeat (go_big_quiet_step (first | (go_at_call 12; exact held_call C3.out) | (go_at_call 13; exact held_call C4.out) | (go_at_call 14; exact held_call C5.out) | (go_at_call 15; exact held_call C6.out)))
  refine wpQuiet_nil ?_
  intro _ hw'
  obtain ⟨z, rfl⟩ := hw'
  go_wp2_with fail
  go_ret
  exact ⟨by simp, HN2.out.trans (z.h.mono HN2.out.size)⟩
end Go.Proofs.Ytjeapacohgfpiaa
