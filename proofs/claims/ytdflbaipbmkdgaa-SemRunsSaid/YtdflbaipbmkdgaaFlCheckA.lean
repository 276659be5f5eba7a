/-
  The two closures of flow.Check; opposite, alike, right; the edges out of each node.
-/
import Derived.Test.YtdflbaipbmkdgaaJnEdge
import Derived.Test.YtdflbaipbmkdgaaFlDeed
namespace Go.Proofs.Ytdflbaipbmkdgaa
open Go.RowKit Go.Shelf

def sizeBad (n : Int) : Bool := decide (n < 1) || decide (16 < n)
theorem size_closure (n : Int) (w : World) : Calls Try.prog 22 #[.int .i64 n] w (BoolPost (sizeBad n) w) := by
  by_cases h : n < 1
  · have h1 : decide (n < 1) = true := by simpa using h
    have HF := Lib.hid (show sizeBad n = true from by simp [sizeBad, h])
    clear h
    go_enter Try.func22, Try.ntmps22
    go_wp2
    go_ret
    exact ⟨by rw [HF.out]; rfl, Below.refl _ _⟩
  · have h1 : decide (n < 1) = false := by simpa using h
    have HF := Lib.hid (show sizeBad n = decide (16 < n) from by simp [sizeBad, h])
    clear h
    go_enter Try.func22, Try.ntmps22
    go_wp2
    go_ret
    exact ⟨by rw [HF.out]; rfl, Below.refl _ _⟩

/-- an edge that may not be, in a graph of so many scalars, arrays, nodes -/
def edBad (vars arrs nodes : Int) (e : Ed) : Bool :=
  !(decide (0 ≤ e.from_) && decide (e.from_ < nodes)) || !(decide (0 ≤ e.to_) && decide (e.to_ < nodes)) || !mayD vars arrs e.kind e.n e.cmp e.args

/-- a graph's box, as closures have caught it -/
structure GrBox (w : World) (G : Nat) (vars : Int) (Aa : Option Addr) (na ca : Nat) (nodes start last : Int) (Ae : Option Addr) (ne ce : Nat) : Prop where
  lt : G < w.heap.size
  g0 : w.cell? ⟨G, 0, none⟩ = some (.int .i64 vars)
  g1 : w.cell? ⟨G, 1, none⟩ = some (.slice Aa na ca)
  g2 : w.cell? ⟨G, 2, none⟩ = some (.int .i64 nodes)
  g3 : w.cell? ⟨G, 3, none⟩ = some (.int .i64 start)
  g4 : w.cell? ⟨G, 4, none⟩ = some (.int .i64 last)
  g5 : w.cell? ⟨G, 5, none⟩ = some (.slice Ae ne ce)
theorem GrBox.keep {w w' : World} {G : Nat} {vars : Int} {Aa : Option Addr} {na ca : Nat} {nodes start last : Int} {Ae : Option Addr} {ne ce : Nat} (h : GrBox w G vars Aa na ca nodes start last Ae ne ce) (hb : Below w.heap.size w w') : GrBox w' G vars Aa na ca nodes start last Ae ne ce :=
  ⟨Nat.lt_of_lt_of_le h.lt hb.size, (hb.cell h.lt).trans h.g0, (hb.cell h.lt).trans h.g1, (hb.cell h.lt).trans h.g2, (hb.cell h.lt).trans h.g3, (hb.cell h.lt).trans h.g4, (hb.cell h.lt).trans h.g5⟩

set_option maxHeartbeats 800000 in
theorem edge_closure (e : Ed) (A : Option Addr) (c : Nat) (G : Nat) (vars : Int) (Aa : Option Addr) (na ca : Nat) (nodes start last : Int) (Ae : Option Addr) (ne ce B : Nat) (w : World)
    (hB : B ≤ w.heap.size) (hx : ExSl w B e.args A c) (hok : e.ok) (hna : na ≤ 9223372036854775807) (hg : GrBox w G vars Aa na ca nodes start last Ae ne ce) :
    Calls Try.prog 24 #[edV e A c, .pointer (some ⟨G, 0, none⟩)] w (BoolPost (edBad vars na nodes e) w) := by
  obtain ⟨f, t, k, n, cmp, args, at_⟩ := e
  obtain ⟨rf, rt, rk, rn, rc, ra⟩ := hok
  obtain ⟨hlt, g0, g1, g2, g3, g4, g5⟩ := hg
  simp only at rf rt rk rn rc ra hx
  obtain ⟨k, rfl⟩ := Int.eq_ofNat_of_zero_le rk.1
  have hk : k ≤ 255 := by have := rk.2; omega
  have HD := fun W hB hx => Lib.hid (deed_any k n cmp args A c vars Aa na ca nodes start last Ae ne ce B W hB hx hk rc hna)
  unfold grV doV at HD
  have HX := Lib.hid hx
  have HDD := Lib.hid HD
  clear HD hx rf rt rk rn rc ra
  unfold edV
  simp only
  by_cases h1 : (decide (0 ≤ f) && decide (f < nodes)) = true
  · by_cases h2 : (decide (0 ≤ t) && decide (t < nodes)) = true
    · have HF := Lib.hid (show edBad vars na nodes ⟨f, t, k, n, cmp, args, at_⟩ = !mayD vars na k n cmp args from by simp only [edBad, h1, h2]; rfl)
      go_enter Try.func24, Try.ntmps24
      go_wp2_with (go_at_call 20; refine (below_any _ _ _).mono ?_; rintro e w' ⟨rfl, rfl⟩)
      have hbb : Below w.heap.size w (w.alloc (.cells #[.int .i64 f, .int .i64 t, .int .u8 k, .int .i64 n, .int .u8 cmp, .slice A args.len c, .int .i64 at_] 45)) := (Below.refl _ _).alloc (Nat.le_refl _) _
      refine (HDD.out _ (Nat.le_trans hB hbb.size) (HX.out.keep (Same.of hbb hB))).out.mono ?_
      rintro _ w1 ⟨rfl, hb1⟩
      go_wp2_with fail
      go_ret
      exact ⟨by rw [HF.out]; rfl, hbb.trans (hb1.mono hbb.size)⟩
    · have h2' : (decide (0 ≤ t) && decide (t < nodes)) = false := by simpa using h2
      have HF := Lib.hid (show edBad vars na nodes ⟨f, t, k, n, cmp, args, at_⟩ = true from by simp only [edBad, h1, h2']; rfl)
      clear h2
      go_enter Try.func24, Try.ntmps24
      go_wp2_with (go_at_call 20; refine (below_any _ _ _).mono ?_; rintro e w' ⟨rfl, rfl⟩)
      go_ret
      exact ⟨by rw [HF.out]; rfl, (Below.refl _ _).alloc (Nat.le_refl _) _⟩
  · have h1' : (decide (0 ≤ f) && decide (f < nodes)) = false := by simpa using h1
    have HF := Lib.hid (show edBad vars na nodes ⟨f, t, k, n, cmp, args, at_⟩ = true from by simp only [edBad, h1']; rfl)
    clear h1
    go_enter Try.func24, Try.ntmps24
    go_wp2_with (go_at_call 20; refine (below_any _ _ _).mono ?_; rintro e w' ⟨rfl, rfl⟩)
    go_ret
    exact ⟨by rw [HF.out]; rfl, (Below.refl _ _).alloc (Nat.le_refl _) _⟩
end Go.Proofs.Ytdflbaipbmkdgaa
