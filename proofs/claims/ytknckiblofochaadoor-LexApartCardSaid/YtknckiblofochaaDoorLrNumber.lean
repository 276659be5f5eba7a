/-
  ref08.number: may digits be a number?
-/
import Derived.Test.YtknckiblofochaaDoorLrLong
namespace Go.Proofs.YtknckiblofochaaDoor
open Go.RowKit Go.Shelf
set_option linter.unusedVariables false
set_option linter.unusedSimpArgs false

def maxL : List UInt8 := [57, 50, 50, 51, 51, 55, 50, 48, 51, 54, 56, 53, 52, 55, 55, 53, 56, 48, 55]
def numS (x : ByteArray) : Bool := if (decide (1 < x.size) && x.data.toList.headD 0 == 48) || decide (19 < x.size) then false else decide (x.size < 19) || (Op.bytesLess x.toList maxL || x.toList == maxL)
theorem head_at (x : ByteArray) (h : 0 < x.size) : x.data.toList.headD 0 = x[0]'h := by
  have := byte_at x 0 h
  cases hl : x.data.toList with
  | nil => rw [hl] at this; simp at this
  | cons a r => rw [hl] at this; simpa using this
theorem rnumber_any (x : ByteArray) (hs : x.size ≤ 100000) (w : World) : Calls Tryd.prog 36 #[.string x] w fun e w' => e = .returned (.bool (numS x)) ∧ w = w' := by
  obtain ⟨r, hr⟩ : ∃ r, r = numS x := ⟨_, rfl⟩
  rw [← hr]
  unfold numS at hr
  by_cases h1 : 1 < x.size
  · rw [head_at x (by omega)] at hr
    by_cases hz : x[0].toNat = 48
    · have hq : (x[0] == (48 : UInt8)) = true := by rw [beq_iff_eq, ← UInt8.toNat_inj]; exact hz
      rw [hq] at hr
      simp [h1] at hr
      subst hr
      have e1 : (x[0].toNat : Int) = 48 := by omega
      clear hz hq
      go_enter Tryd.func36, Tryd.ntmps36
      go_wp2
      go_ret
      exact ⟨rfl, rfl⟩
    · have hq : (x[0] == (48 : UInt8)) = false := by
        rw [Bool.eq_false_iff]; intro h; rw [beq_iff_eq] at h; exact hz (by rw [h]; rfl)
      rw [hq] at hr
      have e1 : ((x[0].toNat : Int) == 48) = false := by simp; omega
      by_cases h19 : 19 < x.size
      · simp [h19] at hr
        subst hr
        clear hz hq
        go_enter Tryd.func36, Tryd.ntmps36
        go_wp2
        go_ret
        exact ⟨rfl, rfl⟩
      · by_cases h18 : x.size < 19
        · simp [h19, h18] at hr
          subst hr
          clear hz hq
          go_enter Tryd.func36, Tryd.ntmps36
          go_wp2
          go_ret
          exact ⟨rfl, rfl⟩
        · have h : x.size = 19 := by omega
          have hr2 : r = (Op.bytesLess x.toList maxL || x.toList == maxL) := by rw [hr]; simp [h]
          clear hr
          have HR := Lib.hid hr2
          clear hr2 hz hq h19 h18
          go_enter Tryd.func36, Tryd.ntmps36
          go_wp2
          go_ret
          exact ⟨by rw [HR.out]; rfl, rfl⟩
  · have hr2 : r = true := by rw [hr]; simp; omega
    subst hr2
    clear hr
    go_enter Tryd.func36, Tryd.ntmps36
    go_wp2
    go_ret
    exact ⟨rfl, rfl⟩
end Go.Proofs.YtknckiblofochaaDoor
