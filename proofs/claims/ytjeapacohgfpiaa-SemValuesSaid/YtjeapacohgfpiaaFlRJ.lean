/-
  facetroomref13.Check: the same as flow.Check.
-/
import Derived.Test.YtjeapacohgfpiaaFlRH
import Derived.Test.YtjeapacohgfpiaaFlRI
namespace Go.Proofs.Ytjeapacohgfpiaa
open Go.RowKit Go.Shelf

theorem rmay_any (g : Gr) (Aa Ae : Option Addr) (ca ce B : Nat) (w : World) (hB : B ≤ w.heap.size) (hg : GrSl w B g Aa ca Ae ce) :
    Calls Try.prog 35 #[grV g.vars Aa g.arrays.length ca g.nodes g.start g.last Ae g.edges.length ce] w (BoolPost (mayG g) w) := by
  have hl := Nat.le_trans hg.edges.1 hg.edges.2.1
  have hla := Nat.le_trans hg.arrays.1 hg.arrays.2.1
  rw [← rmayG_eq]
  unfold rmayG
  cases h : headBad g.vars g.nodes g.start g.last g.arrays.length g.edges.length
  · have := rmay_main g.vars g.nodes g.start g.last g.arrays g.edges _ _ rfl rfl Aa Ae ca ce B w h hl hla hB hg.arrays hg.edges
    simpa using this
  · exact rmay_head g.vars g.nodes g.start g.last _ _ Aa Ae ca ce w h hl hla
set_option maxHeartbeats 800000 in
/-- THE CONTRACT of ref13.Check -/
theorem rcheck_any (g : Gr) (Aa Ae : Option Addr) (ca ce B : Nat) (w : World) (hB : B ≤ w.heap.size) (hg : GrSl w B g Aa ca Ae ce) :
    Calls Try.prog 13 #[grV g.vars Aa g.arrays.length ca g.nodes g.start g.last Ae g.edges.length ce] w (ErrPost (mayG g) w) := by
  have hcc : ∀ W, Below w.heap.size w W → Calls Try.prog 35 #[grV g.vars Aa g.arrays.length ca g.nodes g.start g.last Ae g.edges.length ce] W (BoolPost (mayG g) W) := fun W h =>
    rmay_any g Aa Ae ca ce B W (Nat.le_trans hB h.size) (hg.keep (Same.of h hB))
  obtain ⟨m, hm⟩ : ∃ m, m = mayG g := ⟨_, rfl⟩
  rw [← hm] at hcc ⊢
  obtain ⟨na, hna⟩ : ∃ n, n = g.arrays.length := ⟨_, rfl⟩
  obtain ⟨ne, hne⟩ : ∃ n, n = g.edges.length := ⟨_, rfl⟩
  rw [← hna, ← hne] at hcc ⊢
  unfold grV at hcc ⊢
  have HC := Lib.hid hcc
  clear hcc hm hna hne hg
  have hbb : ∀ (c0 : Array Value), Below w.heap.size w (w.alloc (.cells c0 35)) := fun _ => (Below.refl _ _).alloc (Nat.le_refl _) _
  have HBB := Lib.hid hbb
  clear hbb
  go_enter Try.func13, Try.ntmps13
  go_wp2_with fail
  refine (HC.out _ (HBB.out _)).mono ?_
  rintro _ w1 ⟨rfl, hb⟩
  cases m
  · go_wp2_with fail
    go_ret
    exact ⟨rfl, (HBB.out _).trans (hb.mono (HBB.out _).size)⟩
  · go_wp2_with fail
    go_ret
    exact ⟨rfl, (HBB.out _).trans (hb.mono (HBB.out _).size)⟩
end Go.Proofs.Ytjeapacohgfpiaa
