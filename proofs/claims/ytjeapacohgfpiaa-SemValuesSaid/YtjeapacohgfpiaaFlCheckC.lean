/-
  flow.Check: the edges, and the nodes.
-/
import Derived.Test.YtjeapacohgfpiaaFlCheckB
namespace Go.Proofs.Ytjeapacohgfpiaa
open Go.RowKit Go.Shelf Go.Maps
set_option linter.unusedVariables false

theorem edges_ask (l : List Ed) (vars : Int) (Aa : Option Addr) (na ca : Nat) (nodes start last : Int) (Ae : Option Addr) (ne ce B G : Nat) (w : World) (hB : B ≤ w.heap.size) (hna : na ≤ 9223372036854775807)
    (hg : GrBox w G vars Aa na ca nodes start last Ae ne ce) : AsksEd 31 #[.pointer (some ⟨G, 0, none⟩)] w B (edBad vars na nodes) l := fun e _ hok W A c hb hs =>
  edge_closure e A c G vars Aa na ca nodes start last Ae ne ce B W (Nat.le_trans hB hb.size) hs hok hna (hg.keep hb)

theorem guard_cmp {vars arrs nodes : Int} {e : Ed} (h : edBad vars arrs nodes e = false) : e.kind = 6 → 3 ≤ e.cmp ∧ e.cmp ≤ 8 := fun hk => by
  simp only [edBad, mayD, Bool.or_eq_false_iff, Bool.not_eq_false', Bool.and_eq_true, cmpD, hk, if_pos, decide_eq_true_eq] at h
  exact h.2.1.2

set_option maxRecDepth 100000 in
set_option maxHeartbeats 3200000 in
theorem check_edges (vars nodes start last : Int) (arrays : List Int) (l : List Ed) (Aa Ae : Option Addr) (ca ce B : Nat) (w : World) (h1 : odd1 vars nodes arrays.length l.length = false) (h : odd2 nodes start last (arrays.any sizeBad) = false) (hl : l.length ≤ 9223372036854775807) (hla : arrays.length ≤ 9223372036854775807)
    (hB : B ≤ w.heap.size) (hx : IsSl w B arrays Aa ca) (he : EdSl w B l Ae ce) (hbad : l.any (edBad vars arrays.length nodes) = true) :
    Calls Try.prog 12 #[grV vars Aa arrays.length ca nodes start last Ae l.length ce] w (ErrPost false w) := by
  unfold odd2 at h
  unfold odd1 at h1
  simp only [Bool.or_eq_false_iff, Bool.not_eq_false'] at h1 h
  obtain ⟨⟨⟨⟨⟨o1, o2⟩, o3⟩, o4⟩, o5⟩, o6⟩ := h1
  obtain ⟨⟨⟨h2, h3⟩, h4⟩, h5⟩ := h
  have HX := Lib.hid hx
  have HE := Lib.hid he
  have HBAD := Lib.hid hbad
  have H5 := Lib.hid h5
  clear hx he hbad h5
  unfold grV
  have hbb : ∀ c0 : Array Value, Below w.heap.size w (w.alloc (.cells c0 35)) := fun _ => (Below.refl _ _).alloc (Nat.le_refl _) _
  have HBB := Lib.hid hbb
  clear hbb
  go_enter Try.func12, Try.ntmps12
  go_wp2_with (go_at_call 27; refine (below_any _ _ _).mono ?_; rintro e w' ⟨rfl, rfl⟩)
  refine (containsI sizeBad arrays Aa ca 29 #[] _ B (Nat.le_trans hB (HBB.out _).size) (HX.out.keep (Same.of (HBB.out _) hB)) (enters_of Try.func29 (by kernel_rfl) rfl) (sizes_ask _ _)).mono ?_
  rw [H5.out]
  rintro e w1 ⟨rfl, hb1⟩
  have hbox : GrBox (w.alloc (.cells #[.int .i64 vars, .slice Aa arrays.length ca, .int .i64 nodes, .int .i64 start, .int .i64 last, .slice Ae l.length ce] 35)) w.heap.size vars Aa arrays.length ca nodes start last Ae l.length ce :=
    ⟨by simp, newCell w _ _ 0, newCell w _ _ 1, newCell w _ _ 2, newCell w _ _ 3, newCell w _ _ 4, newCell w _ _ 5⟩
  have hbox1 := hbox.keep hb1
  have hb2 := (HBB.out _).trans (hb1.mono (HBB.out _).size)
  have g5 := hbox1.g5
  have HBX := Lib.hid hbox1
  have HB2 := Lib.hid hb2
  clear hbox hbox1 hb1 hb2
  go_wp2_with fail
  refine (containsEd (edBad vars arrays.length nodes) l Ae ce 31 #[.pointer (some ⟨w.heap.size, 0, none⟩)] w1 B (Nat.le_trans hB HB2.out.size) (HE.out.keep (Same.of HB2.out hB)) (enters_of Try.func31 (by kernel_rfl) rfl) (edges_ask l vars Aa arrays.length ca nodes start last Ae l.length ce B w.heap.size w1 (Nat.le_trans hB HB2.out.size) hla HBX.out)).mono ?_
  rw [HBAD.out]
  rintro e w2 ⟨rfl, hb3⟩
  go_wp2_with fail
  go_ret
  exact ⟨rfl, HB2.out.trans (hb3.mono HB2.out.size)⟩
end Go.Proofs.Ytjeapacohgfpiaa
