/-
  ref08.long: is a sign of two bytes at the place?
-/
import Derived.Test.YtknckiblofochaaDoorLrFns
namespace Go.Proofs.YtknckiblofochaaDoor
open Go.RowKit Go.Shelf
set_option linter.unusedVariables false
set_option linter.unusedSimpArgs false

def longs : List (List UInt8) := [[60, 60], [62, 62], [60, 61], [62, 61], [61, 61], [33, 61], [38, 38], [124, 124]]
def longR (s : ByteArray) (p : Nat) : Bool := decide (p + 2 ≤ s.size) && longs.any fun t => (s.extract p (p + 2)).toList == t
theorem rlong_any (s : ByteArray) (p : Nat) (hs : s.size ≤ 4096) (hp : p ≤ s.size) (w : World) : Calls Tryd.prog 37 #[.string s, .int .i64 p] w fun e w' => e = .returned (.bool (longR s p)) ∧ w = w' := by
  by_cases h2 : p + 2 ≤ s.size
  · obtain ⟨x, hx⟩ : ∃ x, x = s.extract p (p + 2) := ⟨_, rfl⟩
    have hr : longR s p = longs.any fun t => x.toList == t := by unfold longR; rw [hx]; simp [h2]
    have HR := Lib.hid hr
    have e1 : decide ((s.size : Int) < p + 2) = false := by simp; omega
    clear hr
    obtain rfl := hx
    clear h2
    have h2 : p + 2 ≤ s.size := by simp at e1; omega
    go_enter Tryd.func37, Tryd.ntmps37
    go_wp2
    all_goals
      go_ret
      refine ⟨?_, rfl⟩
      rw [HR.out]
      first
        | (simp [longs, *]; done)
        | (simp only [longs, List.any_cons, List.any_nil, Bool.or_false]; simp only [← Bool.or_assoc]; rfl)
  · have hr : longR s p = false := by unfold longR; simp [h2]
    have HR := Lib.hid hr
    have e1 : decide ((s.size : Int) < p + 2) = true := by simp; omega
    clear hr
    go_enter Tryd.func37, Tryd.ntmps37
    go_wp2
    go_ret
    exact ⟨by rw [HR.out]; rfl, rfl⟩
end Go.Proofs.YtknckiblofochaaDoor
