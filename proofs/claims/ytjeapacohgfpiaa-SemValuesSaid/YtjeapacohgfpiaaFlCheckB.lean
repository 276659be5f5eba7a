/-
  flow.Check: which graphs may be.
-/
import Derived.Test.YtjeapacohgfpiaaFlOuts
import Derived.Test.YtjeapacohgfpiaaFlRight
namespace Go.Proofs.Ytjeapacohgfpiaa
open Go.RowKit Go.Shelf Go.Maps
set_option linter.unusedVariables false

/-- a graph -/
structure Gr where
  vars : Int
  arrays : List Int
  nodes : Int
  start : Int
  last : Int
  edges : List Ed
def Gr.ok (g : Gr) : Prop := in64 g.vars ∧ in64 g.nodes ∧ in64 g.start ∧ in64 g.last
/-- the edges out of a node -/
def outE (l : List Ed) (x : Int) : List Ed := l.filter fun e => e.from_ == x
/-- does a node come round to itself by so many skips? -/
def walkR (l : List Ed) (node : Int) : Int → Nat → Bool
  | _, 0 => false
  | at_, n + 1 =>
    match outE l at_ with
    | [e] => if e.kind = 1 then (if e.to_ = node then true else walkR l node e.to_ n) else false
    | _ => false
def nodeOk (l : List Ed) (last x : Int) : Bool := !(x == last) && rightB (outE l x) && !walkR l x x l.length
def odd1 (vars nodes : Int) (na ne : Nat) : Bool := decide (vars < 0) || decide (32 < vars) || decide (4 < (na : Int)) || decide (nodes < 2) || decide (4096 < nodes) || decide (2048 < (ne : Int))
def odd2 (nodes start last : Int) (sb : Bool) : Bool := !(decide (0 ≤ start) && decide (start < nodes)) || !(decide (0 ≤ last) && decide (last < nodes)) || (start == last) || sb
def mayG (g : Gr) : Bool := !(odd1 g.vars g.nodes g.arrays.length g.edges.length || odd2 g.nodes g.start g.last (g.arrays.any sizeBad)) && !g.edges.any (edBad g.vars g.arrays.length g.nodes) && g.edges.all fun e => nodeOk g.edges g.last e.from_

def ErrPost (b : Bool) (W : World) (e : Ending) (w' : World) : Prop := e = .returned (.int .i64 (if b then 0 else 8)) ∧ Below W.heap.size W w'

set_option maxRecDepth 100000 in
set_option maxHeartbeats 1600000 in
theorem check_odd1 (vars nodes start last : Int) (na ne : Nat) (Aa Ae : Option Addr) (ca ce : Nat) (w : World) (h : odd1 vars nodes na ne = true) (hl : ne ≤ 9223372036854775807) (hla : na ≤ 9223372036854775807) :
    Calls Try.prog 12 #[grV vars Aa na ca nodes start last Ae ne ce] w (ErrPost false w) := by
  unfold odd1 at h
  unfold grV
  cases h1 : decide (vars < 0)
  · cases h2 : decide (32 < vars)
    · cases h3 : decide (4 < (na : Int))
      · cases h4 : decide (nodes < 2)
        · cases h5 : decide (4096 < nodes)
          · have h6 : decide (2048 < (ne : Int)) = true := by rw [h1, h2, h3, h4, h5] at h; exact h
            clear h
            go_enter Try.func12, Try.ntmps12
            go_wp2
            go_ret
            exact ⟨rfl, (Below.refl _ _).alloc (Nat.le_refl _) _⟩
          · clear h
            go_enter Try.func12, Try.ntmps12
            go_wp2
            go_ret
            exact ⟨rfl, (Below.refl _ _).alloc (Nat.le_refl _) _⟩
        · clear h
          go_enter Try.func12, Try.ntmps12
          go_wp2
          go_ret
          exact ⟨rfl, (Below.refl _ _).alloc (Nat.le_refl _) _⟩
      · clear h
        go_enter Try.func12, Try.ntmps12
        go_wp2
        go_ret
        exact ⟨rfl, (Below.refl _ _).alloc (Nat.le_refl _) _⟩
    · clear h
      go_enter Try.func12, Try.ntmps12
      go_wp2
      go_ret
      exact ⟨rfl, (Below.refl _ _).alloc (Nat.le_refl _) _⟩
  · clear h
    go_enter Try.func12, Try.ntmps12
    go_wp2
    go_ret
    exact ⟨rfl, (Below.refl _ _).alloc (Nat.le_refl _) _⟩

theorem sizes_ask (w : World) (l : List Int) : AsksI 29 #[] w sizeBad l := fun n _ _ W _ => by
  simpa using size_closure n W

set_option maxRecDepth 100000 in
set_option maxHeartbeats 3200000 in
theorem check_odd2 (vars nodes start last : Int) (arrays : List Int) (ne : Nat) (Aa Ae : Option Addr) (ca ce B : Nat) (w : World) (h1 : odd1 vars nodes arrays.length ne = false) (h : odd2 nodes start last (arrays.any sizeBad) = true) (hl : ne ≤ 9223372036854775807) (hla : arrays.length ≤ 9223372036854775807)
    (hB : B ≤ w.heap.size) (hx : IsSl w B arrays Aa ca) :
    Calls Try.prog 12 #[grV vars Aa arrays.length ca nodes start last Ae ne ce] w (ErrPost false w) := by
  unfold odd2 at h
  unfold odd1 at h1
  simp only [Bool.or_eq_false_iff] at h1
  obtain ⟨⟨⟨⟨⟨o1, o2⟩, o3⟩, o4⟩, o5⟩, o6⟩ := h1
  have HX := Lib.hid hx
  clear hx
  unfold grV
  have hbb : ∀ c0 : Array Value, Below w.heap.size w (w.alloc (.cells c0 35)) := fun _ => (Below.refl _ _).alloc (Nat.le_refl _) _
  have HBB := Lib.hid hbb
  clear hbb
  cases h2 : (decide (0 ≤ start) && decide (start < nodes))
  · clear h
    go_enter Try.func12, Try.ntmps12
    go_wp2_with (go_at_call 27; refine (below_any _ _ _).mono ?_; rintro e w' ⟨rfl, rfl⟩)
    go_ret
    exact ⟨rfl, HBB.out _⟩
  cases h3 : (decide (0 ≤ last) && decide (last < nodes))
  · clear h
    go_enter Try.func12, Try.ntmps12
    go_wp2_with (go_at_call 27; refine (below_any _ _ _).mono ?_; rintro e w' ⟨rfl, rfl⟩)
    go_ret
    exact ⟨rfl, HBB.out _⟩
  cases h4 : start == last
  · have h5 : arrays.any sizeBad = true := by rw [h2, h3, h4] at h; exact h
    have H5 := Lib.hid h5
    clear h h5
    go_enter Try.func12, Try.ntmps12
    go_wp2_with (go_at_call 27; refine (below_any _ _ _).mono ?_; rintro e w' ⟨rfl, rfl⟩)
    refine (containsI sizeBad arrays Aa ca 29 #[] _ B (Nat.le_trans hB (HBB.out _).size) (HX.out.keep (Same.of (HBB.out _) hB)) (enters_of Try.func29 (by kernel_rfl) rfl) (sizes_ask _ _)).mono ?_
    rw [H5.out]
    rintro e w1 ⟨rfl, hb1⟩
    go_wp2_with fail
    go_ret
    exact ⟨rfl, (HBB.out _).trans (hb1.mono (HBB.out _).size)⟩
  · clear h
    go_enter Try.func12, Try.ntmps12
    go_wp2_with (go_at_call 27; refine (below_any _ _ _).mono ?_; rintro e w' ⟨rfl, rfl⟩)
    go_ret
    exact ⟨rfl, HBB.out _⟩
end Go.Proofs.Ytjeapacohgfpiaa
