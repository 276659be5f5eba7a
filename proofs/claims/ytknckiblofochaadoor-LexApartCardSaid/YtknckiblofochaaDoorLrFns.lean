/-
  ref08's small functions: letter, digit, blank, long, short.
-/
import Derived.Test.YtknckiblofochaaDoorLxFns
namespace Go.Proofs.YtknckiblofochaaDoor
open Go.RowKit Go.Shelf
set_option linter.unusedVariables false
set_option linter.unusedSimpArgs false

theorem rdigit_any (c : Int) (w : World) : Calls Tryd.prog 27 #[.int .u8 c] w fun e w' => e = .returned (.bool (digR c)) ∧ w = w' := by
  by_cases h : 48 ≤ c
  · have HF : Hid (digR c = decide (c ≤ 57)) := by show _ = _; simp [digR, h]
    go_enter Tryd.func27, Tryd.ntmps27
    go_wp2
    go_ret
    exact ⟨by rw [HF.out]; rfl, rfl⟩
  · have HF : Hid (digR c = false) := by show _ = _; simp [digR, h]
    go_enter Tryd.func27, Tryd.ntmps27
    go_wp2
    go_ret
    exact ⟨by rw [HF.out]; rfl, rfl⟩
theorem rletter_any (c : Int) (w : World) : Calls Tryd.prog 26 #[.int .u8 c] w fun e w' => e = .returned (.bool (letR c)) ∧ w = w' := by
  by_cases h1 : 97 ≤ c
  · by_cases h2 : c ≤ 122
    · have HF : Hid (letR c = true) := by show _ = _; simp [letR, h1, h2]
      go_enter Tryd.func26, Tryd.ntmps26
      go_wp2
      go_ret
      exact ⟨by rw [HF.out]; rfl, rfl⟩
    · have h3 : 65 ≤ c := by omega
      have h4 : ¬ c ≤ 90 := by omega
      have h5 : (c == 95) = false := by simp; omega
      have HF : Hid (letR c = false) := by show _ = _; simp only [letR]; simp [h2, h4, h5]
      go_enter Tryd.func26, Tryd.ntmps26
      go_wp2
      go_ret
      exact ⟨by rw [HF.out]; rfl, rfl⟩
  · by_cases h3 : 65 ≤ c
    · by_cases h4 : c ≤ 90
      · have HF : Hid (letR c = true) := by show _ = _; simp [letR, h3, h4]
        go_enter Tryd.func26, Tryd.ntmps26
        go_wp2
        go_ret
        exact ⟨by rw [HF.out]; rfl, rfl⟩
      · have HF : Hid (letR c = (c == 95)) := by show _ = _; simp only [letR]; simp [h1, h4]
        go_enter Tryd.func26, Tryd.ntmps26
        go_wp2
        go_ret
        exact ⟨by rw [HF.out]; rfl, rfl⟩
    · have h5 : (c == 95) = false := by simp; omega
      have HF : Hid (letR c = false) := by show _ = _; simp only [letR]; simp [h1, h3, h5]
      go_enter Tryd.func26, Tryd.ntmps26
      go_wp2
      go_ret
      exact ⟨by rw [HF.out]; rfl, rfl⟩
theorem rblank_any (c : Int) (w : World) : Calls Tryd.prog 24 #[.int .u8 c] w fun e w' => e = .returned (.bool (blkR c)) ∧ w = w' := by
  unfold blkR
  cases h1 : (c == 32) <;> cases h2 : (c == 9) <;> cases h3 : (c == 10)
  all_goals
    go_enter Tryd.func24, Tryd.ntmps24
    go_wp2
    go_ret
    exact ⟨by simp, rfl⟩
def shorts : List UInt8 := [40, 41, 123, 125, 91, 93, 59, 44, 61, 60, 62, 43, 45, 42, 47, 37, 33]
def shortR (c : Int) : Bool := shorts.any fun b => (b.toNat : Int) == c
set_option maxRecDepth 100000 in
theorem rshort_any (c : Int) (w : World) : Calls Tryd.prog 38 #[.int .u8 c] w fun e w' => e = .returned (.bool (shortR c)) ∧ w = w' := by
  have hr : shortR c = (shorts.drop 0).any fun b => (b.toNat : Int) == c := rfl
  have HR := Lib.hid hr
  clear hr
  go_enter Tryd.func38, Tryd.ntmps38
  go_wp2
  go_loop [4] (fun i => ∃ k : Nat, k ≤ 17 ∧ i = .int .i64 k ∧ Hid (shortR c = (shorts.drop k).any fun b => (b.toNat : Int) == c)) (fun i => 17 - (intOf i).toNat)
  case atStart => exact ⟨0, by decide, rfl, HR⟩
  case round =>
    obtain ⟨k, hk, rfl, hR⟩ := hrel
    obtain rfl | rfl | rfl | rfl | rfl | rfl | rfl | rfl | rfl | rfl | rfl | rfl | rfl | rfl | rfl | rfl | rfl | rfl : k = 0 ∨ k = 1 ∨ k = 2 ∨ k = 3 ∨ k = 4 ∨ k = 5 ∨ k = 6 ∨ k = 7 ∨ k = 8 ∨ k = 9 ∨ k = 10 ∨ k = 11 ∨ k = 12 ∨ k = 13 ∨ k = 14 ∨ k = 15 ∨ k = 16 ∨ k = 17 := by omega
    · cases hq : ((40 : Int) == c)
      · have hn : shortR c = (shorts.drop 1).any fun b => (b.toNat : Int) == c := by rw [hR.out]; show (((40 : Int) == c) || _) = _; rw [hq]; rfl
        have HN := Lib.hid hn
        have e1 : ((((⟨#[40, 41, 123, 125, 91, 93, 59, 44, 61, 60, 62, 43, 45, 42, 47, 37, 33]⟩ : ByteArray)[0]'(by decide)).toNat : Int) == c) = false := hq
        clear hn hq
        go_wp2
        go_round
        case rel => exact ⟨1, by decide, rfl, HN⟩
        case measure => simp [intOf]
      · have hn : shortR c = true := by rw [hR.out]; show (((40 : Int) == c) || _) = _; rw [hq]; rfl
        have HN := Lib.hid hn
        have e1 : ((((⟨#[40, 41, 123, 125, 91, 93, 59, 44, 61, 60, 62, 43, 45, 42, 47, 37, 33]⟩ : ByteArray)[0]'(by decide)).toNat : Int) == c) = true := hq
        clear hn hq
        go_wp2
        go_ret
        exact ⟨by rw [HN.out]; rfl, rfl⟩
    · cases hq : ((41 : Int) == c)
      · have hn : shortR c = (shorts.drop 2).any fun b => (b.toNat : Int) == c := by rw [hR.out]; show (((41 : Int) == c) || _) = _; rw [hq]; rfl
        have HN := Lib.hid hn
        have e1 : ((((⟨#[40, 41, 123, 125, 91, 93, 59, 44, 61, 60, 62, 43, 45, 42, 47, 37, 33]⟩ : ByteArray)[1]'(by decide)).toNat : Int) == c) = false := hq
        clear hn hq
        go_wp2
        go_round
        case rel => exact ⟨2, by decide, rfl, HN⟩
        case measure => simp [intOf]
      · have hn : shortR c = true := by rw [hR.out]; show (((41 : Int) == c) || _) = _; rw [hq]; rfl
        have HN := Lib.hid hn
        have e1 : ((((⟨#[40, 41, 123, 125, 91, 93, 59, 44, 61, 60, 62, 43, 45, 42, 47, 37, 33]⟩ : ByteArray)[1]'(by decide)).toNat : Int) == c) = true := hq
        clear hn hq
        go_wp2
        go_ret
        exact ⟨by rw [HN.out]; rfl, rfl⟩
    · cases hq : ((123 : Int) == c)
      · have hn : shortR c = (shorts.drop 3).any fun b => (b.toNat : Int) == c := by rw [hR.out]; show (((123 : Int) == c) || _) = _; rw [hq]; rfl
        have HN := Lib.hid hn
        have e1 : ((((⟨#[40, 41, 123, 125, 91, 93, 59, 44, 61, 60, 62, 43, 45, 42, 47, 37, 33]⟩ : ByteArray)[2]'(by decide)).toNat : Int) == c) = false := hq
        clear hn hq
        go_wp2
        go_round
        case rel => exact ⟨3, by decide, rfl, HN⟩
        case measure => simp [intOf]
      · have hn : shortR c = true := by rw [hR.out]; show (((123 : Int) == c) || _) = _; rw [hq]; rfl
        have HN := Lib.hid hn
        have e1 : ((((⟨#[40, 41, 123, 125, 91, 93, 59, 44, 61, 60, 62, 43, 45, 42, 47, 37, 33]⟩ : ByteArray)[2]'(by decide)).toNat : Int) == c) = true := hq
        clear hn hq
        go_wp2
        go_ret
        exact ⟨by rw [HN.out]; rfl, rfl⟩
    · cases hq : ((125 : Int) == c)
      · have hn : shortR c = (shorts.drop 4).any fun b => (b.toNat : Int) == c := by rw [hR.out]; show (((125 : Int) == c) || _) = _; rw [hq]; rfl
        have HN := Lib.hid hn
        have e1 : ((((⟨#[40, 41, 123, 125, 91, 93, 59, 44, 61, 60, 62, 43, 45, 42, 47, 37, 33]⟩ : ByteArray)[3]'(by decide)).toNat : Int) == c) = false := hq
        clear hn hq
        go_wp2
        go_round
        case rel => exact ⟨4, by decide, rfl, HN⟩
        case measure => simp [intOf]
      · have hn : shortR c = true := by rw [hR.out]; show (((125 : Int) == c) || _) = _; rw [hq]; rfl
        have HN := Lib.hid hn
        have e1 : ((((⟨#[40, 41, 123, 125, 91, 93, 59, 44, 61, 60, 62, 43, 45, 42, 47, 37, 33]⟩ : ByteArray)[3]'(by decide)).toNat : Int) == c) = true := hq
        clear hn hq
        go_wp2
        go_ret
        exact ⟨by rw [HN.out]; rfl, rfl⟩
    · cases hq : ((91 : Int) == c)
      · have hn : shortR c = (shorts.drop 5).any fun b => (b.toNat : Int) == c := by rw [hR.out]; show (((91 : Int) == c) || _) = _; rw [hq]; rfl
        have HN := Lib.hid hn
        have e1 : ((((⟨#[40, 41, 123, 125, 91, 93, 59, 44, 61, 60, 62, 43, 45, 42, 47, 37, 33]⟩ : ByteArray)[4]'(by decide)).toNat : Int) == c) = false := hq
        clear hn hq
        go_wp2
        go_round
        case rel => exact ⟨5, by decide, rfl, HN⟩
        case measure => simp [intOf]
      · have hn : shortR c = true := by rw [hR.out]; show (((91 : Int) == c) || _) = _; rw [hq]; rfl
        have HN := Lib.hid hn
        have e1 : ((((⟨#[40, 41, 123, 125, 91, 93, 59, 44, 61, 60, 62, 43, 45, 42, 47, 37, 33]⟩ : ByteArray)[4]'(by decide)).toNat : Int) == c) = true := hq
        clear hn hq
        go_wp2
        go_ret
        exact ⟨by rw [HN.out]; rfl, rfl⟩
    · cases hq : ((93 : Int) == c)
      · have hn : shortR c = (shorts.drop 6).any fun b => (b.toNat : Int) == c := by rw [hR.out]; show (((93 : Int) == c) || _) = _; rw [hq]; rfl
        have HN := Lib.hid hn
        have e1 : ((((⟨#[40, 41, 123, 125, 91, 93, 59, 44, 61, 60, 62, 43, 45, 42, 47, 37, 33]⟩ : ByteArray)[5]'(by decide)).toNat : Int) == c) = false := hq
        clear hn hq
        go_wp2
        go_round
        case rel => exact ⟨6, by decide, rfl, HN⟩
        case measure => simp [intOf]
      · have hn : shortR c = true := by rw [hR.out]; show (((93 : Int) == c) || _) = _; rw [hq]; rfl
        have HN := Lib.hid hn
        have e1 : ((((⟨#[40, 41, 123, 125, 91, 93, 59, 44, 61, 60, 62, 43, 45, 42, 47, 37, 33]⟩ : ByteArray)[5]'(by decide)).toNat : Int) == c) = true := hq
        clear hn hq
        go_wp2
        go_ret
        exact ⟨by rw [HN.out]; rfl, rfl⟩
    · cases hq : ((59 : Int) == c)
      · have hn : shortR c = (shorts.drop 7).any fun b => (b.toNat : Int) == c := by rw [hR.out]; show (((59 : Int) == c) || _) = _; rw [hq]; rfl
        have HN := Lib.hid hn
        have e1 : ((((⟨#[40, 41, 123, 125, 91, 93, 59, 44, 61, 60, 62, 43, 45, 42, 47, 37, 33]⟩ : ByteArray)[6]'(by decide)).toNat : Int) == c) = false := hq
        clear hn hq
        go_wp2
        go_round
        case rel => exact ⟨7, by decide, rfl, HN⟩
        case measure => simp [intOf]
      · have hn : shortR c = true := by rw [hR.out]; show (((59 : Int) == c) || _) = _; rw [hq]; rfl
        have HN := Lib.hid hn
        have e1 : ((((⟨#[40, 41, 123, 125, 91, 93, 59, 44, 61, 60, 62, 43, 45, 42, 47, 37, 33]⟩ : ByteArray)[6]'(by decide)).toNat : Int) == c) = true := hq
        clear hn hq
        go_wp2
        go_ret
        exact ⟨by rw [HN.out]; rfl, rfl⟩
    · cases hq : ((44 : Int) == c)
      · have hn : shortR c = (shorts.drop 8).any fun b => (b.toNat : Int) == c := by rw [hR.out]; show (((44 : Int) == c) || _) = _; rw [hq]; rfl
        have HN := Lib.hid hn
        have e1 : ((((⟨#[40, 41, 123, 125, 91, 93, 59, 44, 61, 60, 62, 43, 45, 42, 47, 37, 33]⟩ : ByteArray)[7]'(by decide)).toNat : Int) == c) = false := hq
        clear hn hq
        go_wp2
        go_round
        case rel => exact ⟨8, by decide, rfl, HN⟩
        case measure => simp [intOf]
      · have hn : shortR c = true := by rw [hR.out]; show (((44 : Int) == c) || _) = _; rw [hq]; rfl
        have HN := Lib.hid hn
        have e1 : ((((⟨#[40, 41, 123, 125, 91, 93, 59, 44, 61, 60, 62, 43, 45, 42, 47, 37, 33]⟩ : ByteArray)[7]'(by decide)).toNat : Int) == c) = true := hq
        clear hn hq
        go_wp2
        go_ret
        exact ⟨by rw [HN.out]; rfl, rfl⟩
    · cases hq : ((61 : Int) == c)
      · have hn : shortR c = (shorts.drop 9).any fun b => (b.toNat : Int) == c := by rw [hR.out]; show (((61 : Int) == c) || _) = _; rw [hq]; rfl
        have HN := Lib.hid hn
        have e1 : ((((⟨#[40, 41, 123, 125, 91, 93, 59, 44, 61, 60, 62, 43, 45, 42, 47, 37, 33]⟩ : ByteArray)[8]'(by decide)).toNat : Int) == c) = false := hq
        clear hn hq
        go_wp2
        go_round
        case rel => exact ⟨9, by decide, rfl, HN⟩
        case measure => simp [intOf]
      · have hn : shortR c = true := by rw [hR.out]; show (((61 : Int) == c) || _) = _; rw [hq]; rfl
        have HN := Lib.hid hn
        have e1 : ((((⟨#[40, 41, 123, 125, 91, 93, 59, 44, 61, 60, 62, 43, 45, 42, 47, 37, 33]⟩ : ByteArray)[8]'(by decide)).toNat : Int) == c) = true := hq
        clear hn hq
        go_wp2
        go_ret
        exact ⟨by rw [HN.out]; rfl, rfl⟩
    · cases hq : ((60 : Int) == c)
      · have hn : shortR c = (shorts.drop 10).any fun b => (b.toNat : Int) == c := by rw [hR.out]; show (((60 : Int) == c) || _) = _; rw [hq]; rfl
        have HN := Lib.hid hn
        have e1 : ((((⟨#[40, 41, 123, 125, 91, 93, 59, 44, 61, 60, 62, 43, 45, 42, 47, 37, 33]⟩ : ByteArray)[9]'(by decide)).toNat : Int) == c) = false := hq
        clear hn hq
        go_wp2
        go_round
        case rel => exact ⟨10, by decide, rfl, HN⟩
        case measure => simp [intOf]
      · have hn : shortR c = true := by rw [hR.out]; show (((60 : Int) == c) || _) = _; rw [hq]; rfl
        have HN := Lib.hid hn
        have e1 : ((((⟨#[40, 41, 123, 125, 91, 93, 59, 44, 61, 60, 62, 43, 45, 42, 47, 37, 33]⟩ : ByteArray)[9]'(by decide)).toNat : Int) == c) = true := hq
        clear hn hq
        go_wp2
        go_ret
        exact ⟨by rw [HN.out]; rfl, rfl⟩
    · cases hq : ((62 : Int) == c)
      · have hn : shortR c = (shorts.drop 11).any fun b => (b.toNat : Int) == c := by rw [hR.out]; show (((62 : Int) == c) || _) = _; rw [hq]; rfl
        have HN := Lib.hid hn
        have e1 : ((((⟨#[40, 41, 123, 125, 91, 93, 59, 44, 61, 60, 62, 43, 45, 42, 47, 37, 33]⟩ : ByteArray)[10]'(by decide)).toNat : Int) == c) = false := hq
        clear hn hq
        go_wp2
        go_round
        case rel => exact ⟨11, by decide, rfl, HN⟩
        case measure => simp [intOf]
      · have hn : shortR c = true := by rw [hR.out]; show (((62 : Int) == c) || _) = _; rw [hq]; rfl
        have HN := Lib.hid hn
        have e1 : ((((⟨#[40, 41, 123, 125, 91, 93, 59, 44, 61, 60, 62, 43, 45, 42, 47, 37, 33]⟩ : ByteArray)[10]'(by decide)).toNat : Int) == c) = true := hq
        clear hn hq
        go_wp2
        go_ret
        exact ⟨by rw [HN.out]; rfl, rfl⟩
    · cases hq : ((43 : Int) == c)
      · have hn : shortR c = (shorts.drop 12).any fun b => (b.toNat : Int) == c := by rw [hR.out]; show (((43 : Int) == c) || _) = _; rw [hq]; rfl
        have HN := Lib.hid hn
        have e1 : ((((⟨#[40, 41, 123, 125, 91, 93, 59, 44, 61, 60, 62, 43, 45, 42, 47, 37, 33]⟩ : ByteArray)[11]'(by decide)).toNat : Int) == c) = false := hq
        clear hn hq
        go_wp2
        go_round
        case rel => exact ⟨12, by decide, rfl, HN⟩
        case measure => simp [intOf]
      · have hn : shortR c = true := by rw [hR.out]; show (((43 : Int) == c) || _) = _; rw [hq]; rfl
        have HN := Lib.hid hn
        have e1 : ((((⟨#[40, 41, 123, 125, 91, 93, 59, 44, 61, 60, 62, 43, 45, 42, 47, 37, 33]⟩ : ByteArray)[11]'(by decide)).toNat : Int) == c) = true := hq
        clear hn hq
        go_wp2
        go_ret
        exact ⟨by rw [HN.out]; rfl, rfl⟩
    · cases hq : ((45 : Int) == c)
      · have hn : shortR c = (shorts.drop 13).any fun b => (b.toNat : Int) == c := by rw [hR.out]; show (((45 : Int) == c) || _) = _; rw [hq]; rfl
        have HN := Lib.hid hn
        have e1 : ((((⟨#[40, 41, 123, 125, 91, 93, 59, 44, 61, 60, 62, 43, 45, 42, 47, 37, 33]⟩ : ByteArray)[12]'(by decide)).toNat : Int) == c) = false := hq
        clear hn hq
        go_wp2
        go_round
        case rel => exact ⟨13, by decide, rfl, HN⟩
        case measure => simp [intOf]
      · have hn : shortR c = true := by rw [hR.out]; show (((45 : Int) == c) || _) = _; rw [hq]; rfl
        have HN := Lib.hid hn
        have e1 : ((((⟨#[40, 41, 123, 125, 91, 93, 59, 44, 61, 60, 62, 43, 45, 42, 47, 37, 33]⟩ : ByteArray)[12]'(by decide)).toNat : Int) == c) = true := hq
        clear hn hq
        go_wp2
        go_ret
        exact ⟨by rw [HN.out]; rfl, rfl⟩
    · cases hq : ((42 : Int) == c)
      · have hn : shortR c = (shorts.drop 14).any fun b => (b.toNat : Int) == c := by rw [hR.out]; show (((42 : Int) == c) || _) = _; rw [hq]; rfl
        have HN := Lib.hid hn
        have e1 : ((((⟨#[40, 41, 123, 125, 91, 93, 59, 44, 61, 60, 62, 43, 45, 42, 47, 37, 33]⟩ : ByteArray)[13]'(by decide)).toNat : Int) == c) = false := hq
        clear hn hq
        go_wp2
        go_round
        case rel => exact ⟨14, by decide, rfl, HN⟩
        case measure => simp [intOf]
      · have hn : shortR c = true := by rw [hR.out]; show (((42 : Int) == c) || _) = _; rw [hq]; rfl
        have HN := Lib.hid hn
        have e1 : ((((⟨#[40, 41, 123, 125, 91, 93, 59, 44, 61, 60, 62, 43, 45, 42, 47, 37, 33]⟩ : ByteArray)[13]'(by decide)).toNat : Int) == c) = true := hq
        clear hn hq
        go_wp2
        go_ret
        exact ⟨by rw [HN.out]; rfl, rfl⟩
    · cases hq : ((47 : Int) == c)
      · have hn : shortR c = (shorts.drop 15).any fun b => (b.toNat : Int) == c := by rw [hR.out]; show (((47 : Int) == c) || _) = _; rw [hq]; rfl
        have HN := Lib.hid hn
        have e1 : ((((⟨#[40, 41, 123, 125, 91, 93, 59, 44, 61, 60, 62, 43, 45, 42, 47, 37, 33]⟩ : ByteArray)[14]'(by decide)).toNat : Int) == c) = false := hq
        clear hn hq
        go_wp2
        go_round
        case rel => exact ⟨15, by decide, rfl, HN⟩
        case measure => simp [intOf]
      · have hn : shortR c = true := by rw [hR.out]; show (((47 : Int) == c) || _) = _; rw [hq]; rfl
        have HN := Lib.hid hn
        have e1 : ((((⟨#[40, 41, 123, 125, 91, 93, 59, 44, 61, 60, 62, 43, 45, 42, 47, 37, 33]⟩ : ByteArray)[14]'(by decide)).toNat : Int) == c) = true := hq
        clear hn hq
        go_wp2
        go_ret
        exact ⟨by rw [HN.out]; rfl, rfl⟩
    · cases hq : ((37 : Int) == c)
      · have hn : shortR c = (shorts.drop 16).any fun b => (b.toNat : Int) == c := by rw [hR.out]; show (((37 : Int) == c) || _) = _; rw [hq]; rfl
        have HN := Lib.hid hn
        have e1 : ((((⟨#[40, 41, 123, 125, 91, 93, 59, 44, 61, 60, 62, 43, 45, 42, 47, 37, 33]⟩ : ByteArray)[15]'(by decide)).toNat : Int) == c) = false := hq
        clear hn hq
        go_wp2
        go_round
        case rel => exact ⟨16, by decide, rfl, HN⟩
        case measure => simp [intOf]
      · have hn : shortR c = true := by rw [hR.out]; show (((37 : Int) == c) || _) = _; rw [hq]; rfl
        have HN := Lib.hid hn
        have e1 : ((((⟨#[40, 41, 123, 125, 91, 93, 59, 44, 61, 60, 62, 43, 45, 42, 47, 37, 33]⟩ : ByteArray)[15]'(by decide)).toNat : Int) == c) = true := hq
        clear hn hq
        go_wp2
        go_ret
        exact ⟨by rw [HN.out]; rfl, rfl⟩
    · cases hq : ((33 : Int) == c)
      · have hn : shortR c = (shorts.drop 17).any fun b => (b.toNat : Int) == c := by rw [hR.out]; show (((33 : Int) == c) || _) = _; rw [hq]; rfl
        have HN := Lib.hid hn
        have e1 : ((((⟨#[40, 41, 123, 125, 91, 93, 59, 44, 61, 60, 62, 43, 45, 42, 47, 37, 33]⟩ : ByteArray)[16]'(by decide)).toNat : Int) == c) = false := hq
        clear hn hq
        go_wp2
        go_round
        case rel => exact ⟨17, by decide, rfl, HN⟩
        case measure => simp [intOf]
      · have hn : shortR c = true := by rw [hR.out]; show (((33 : Int) == c) || _) = _; rw [hq]; rfl
        have HN := Lib.hid hn
        have e1 : ((((⟨#[40, 41, 123, 125, 91, 93, 59, 44, 61, 60, 62, 43, 45, 42, 47, 37, 33]⟩ : ByteArray)[16]'(by decide)).toNat : Int) == c) = true := hq
        clear hn hq
        go_wp2
        go_ret
        exact ⟨by rw [HN.out]; rfl, rfl⟩
    · have HF : Hid (shortR c = false) := by show _ = _; rw [hR.out]; rfl
      go_wp2
      go_ret
      exact ⟨by rw [HF.out]; rfl, rfl⟩
end Go.Proofs.YtknckiblofochaaDoor
