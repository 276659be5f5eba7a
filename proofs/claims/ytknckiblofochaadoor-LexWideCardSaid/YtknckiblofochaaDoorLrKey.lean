/-
  ref08.Keyword.
-/
import Derived.Test.YtknckiblofochaaDoorLrTokens
import Derived.Test.YtknckiblofochaaDoorLxName
namespace Go.Proofs.YtknckiblofochaaDoor
open Go.RowKit Go.Shelf
set_option linter.unusedVariables false
set_option linter.unusedSimpArgs false

set_option maxRecDepth 100000 in
set_option maxHeartbeats 3200000 in
theorem rkeyword_any (s : ByteArray) (w : World) : Calls Tryd.prog 14 #[.string s] w fun e w' => e = .returned (.bool (keyB s.data.toList)) ∧ Below w.heap.size w w' := by
  have hr : keyB s.data.toList = (kwL.drop 0).any fun t => t == s.toList := by
    rw [ByteArray.toList_eq]
    unfold keyB
    rw [Bool.eq_iff_iff]
    simp only [List.contains_iff_mem, List.drop_zero, List.any_eq_true, beq_iff_eq]
    exact ⟨fun h => ⟨_, h, rfl⟩, fun ⟨t, h, e⟩ => e ▸ h⟩
  obtain ⟨q, hq⟩ : ∃ q, q = keyB s.data.toList := ⟨_, rfl⟩
  rw [← hq] at hr ⊢
  have HR := Lib.hid hr
  clear hr hq
  go_enter Tryd.func14, Tryd.ntmps14
  go_wp2
  go_loop [4] (fun i => ∃ k : Nat, k ≤ 14 ∧ i = .int .i64 k ∧ Hid (q = (kwL.drop k).any fun t => t == s.toList)) (fun i => 14 - (intOf i).toNat)
  case atStart => exact ⟨0, by decide, rfl, HR⟩
  case round =>
    obtain ⟨k, hk, rfl, hR⟩ := hrel
    obtain rfl | rfl | rfl | rfl | rfl | rfl | rfl | rfl | rfl | rfl | rfl | rfl | rfl | rfl | rfl : k = 0 ∨ k = 1 ∨ k = 2 ∨ k = 3 ∨ k = 4 ∨ k = 5 ∨ k = 6 ∨ k = 7 ∨ k = 8 ∨ k = 9 ∨ k = 10 ∨ k = 11 ∨ k = 12 ∨ k = 13 ∨ k = 14 := by omega
    · cases hx : (([118, 97, 114] : List UInt8) == s.toList)
      · have hn : q = (kwL.drop 1).any fun t => t == s.toList := by rw [hR.out]; show ((([118, 97, 114] : List UInt8) == s.toList) || _) = _; rw [hx]; rfl
        have HN := Lib.hid hn
        clear hn
        go_wp2
        go_round
        case rel => exact ⟨1, by decide, rfl, HN⟩
        case measure => simp [intOf]
      · have hn : q = true := by rw [hR.out]; show ((([118, 97, 114] : List UInt8) == s.toList) || _) = _; rw [hx]; rfl
        have HN := Lib.hid hn
        clear hn
        go_wp2
        go_ret
        exact ⟨by rw [HN.out]; rfl, (Below.refl _ _).alloc (Nat.le_refl _) _⟩
    · cases hx : (([97, 114, 114, 97, 121] : List UInt8) == s.toList)
      · have hn : q = (kwL.drop 2).any fun t => t == s.toList := by rw [hR.out]; show ((([97, 114, 114, 97, 121] : List UInt8) == s.toList) || _) = _; rw [hx]; rfl
        have HN := Lib.hid hn
        clear hn
        go_wp2
        go_round
        case rel => exact ⟨2, by decide, rfl, HN⟩
        case measure => simp [intOf]
      · have hn : q = true := by rw [hR.out]; show ((([97, 114, 114, 97, 121] : List UInt8) == s.toList) || _) = _; rw [hx]; rfl
        have HN := Lib.hid hn
        clear hn
        go_wp2
        go_ret
        exact ⟨by rw [HN.out]; rfl, (Below.refl _ _).alloc (Nat.le_refl _) _⟩
    · cases hx : (([112, 114, 111, 99] : List UInt8) == s.toList)
      · have hn : q = (kwL.drop 3).any fun t => t == s.toList := by rw [hR.out]; show ((([112, 114, 111, 99] : List UInt8) == s.toList) || _) = _; rw [hx]; rfl
        have HN := Lib.hid hn
        clear hn
        go_wp2
        go_round
        case rel => exact ⟨3, by decide, rfl, HN⟩
        case measure => simp [intOf]
      · have hn : q = true := by rw [hR.out]; show ((([112, 114, 111, 99] : List UInt8) == s.toList) || _) = _; rw [hx]; rfl
        have HN := Lib.hid hn
        clear hn
        go_wp2
        go_ret
        exact ⟨by rw [HN.out]; rfl, (Below.refl _ _).alloc (Nat.le_refl _) _⟩
    · cases hx : (([109, 97, 105, 110] : List UInt8) == s.toList)
      · have hn : q = (kwL.drop 4).any fun t => t == s.toList := by rw [hR.out]; show ((([109, 97, 105, 110] : List UInt8) == s.toList) || _) = _; rw [hx]; rfl
        have HN := Lib.hid hn
        clear hn
        go_wp2
        go_round
        case rel => exact ⟨4, by decide, rfl, HN⟩
        case measure => simp [intOf]
      · have hn : q = true := by rw [hR.out]; show ((([109, 97, 105, 110] : List UInt8) == s.toList) || _) = _; rw [hx]; rfl
        have HN := Lib.hid hn
        clear hn
        go_wp2
        go_ret
        exact ⟨by rw [HN.out]; rfl, (Below.refl _ _).alloc (Nat.le_refl _) _⟩
    · cases hx : (([115, 107, 105, 112] : List UInt8) == s.toList)
      · have hn : q = (kwL.drop 5).any fun t => t == s.toList := by rw [hR.out]; show ((([115, 107, 105, 112] : List UInt8) == s.toList) || _) = _; rw [hx]; rfl
        have HN := Lib.hid hn
        clear hn
        go_wp2
        go_round
        case rel => exact ⟨5, by decide, rfl, HN⟩
        case measure => simp [intOf]
      · have hn : q = true := by rw [hR.out]; show ((([115, 107, 105, 112] : List UInt8) == s.toList) || _) = _; rw [hx]; rfl
        have HN := Lib.hid hn
        clear hn
        go_wp2
        go_ret
        exact ⟨by rw [HN.out]; rfl, (Below.refl _ _).alloc (Nat.le_refl _) _⟩
    · cases hx : (([105, 110, 112, 117, 116] : List UInt8) == s.toList)
      · have hn : q = (kwL.drop 6).any fun t => t == s.toList := by rw [hR.out]; show ((([105, 110, 112, 117, 116] : List UInt8) == s.toList) || _) = _; rw [hx]; rfl
        have HN := Lib.hid hn
        clear hn
        go_wp2
        go_round
        case rel => exact ⟨6, by decide, rfl, HN⟩
        case measure => simp [intOf]
      · have hn : q = true := by rw [hR.out]; show ((([105, 110, 112, 117, 116] : List UInt8) == s.toList) || _) = _; rw [hx]; rfl
        have HN := Lib.hid hn
        clear hn
        go_wp2
        go_ret
        exact ⟨by rw [HN.out]; rfl, (Below.refl _ _).alloc (Nat.le_refl _) _⟩
    · cases hx : (([97, 115, 115, 117, 109, 101] : List UInt8) == s.toList)
      · have hn : q = (kwL.drop 7).any fun t => t == s.toList := by rw [hR.out]; show ((([97, 115, 115, 117, 109, 101] : List UInt8) == s.toList) || _) = _; rw [hx]; rfl
        have HN := Lib.hid hn
        clear hn
        go_wp2
        go_round
        case rel => exact ⟨7, by decide, rfl, HN⟩
        case measure => simp [intOf]
      · have hn : q = true := by rw [hR.out]; show ((([97, 115, 115, 117, 109, 101] : List UInt8) == s.toList) || _) = _; rw [hx]; rfl
        have HN := Lib.hid hn
        clear hn
        go_wp2
        go_ret
        exact ⟨by rw [HN.out]; rfl, (Below.refl _ _).alloc (Nat.le_refl _) _⟩
    · cases hx : (([97, 115, 115, 101, 114, 116] : List UInt8) == s.toList)
      · have hn : q = (kwL.drop 8).any fun t => t == s.toList := by rw [hR.out]; show ((([97, 115, 115, 101, 114, 116] : List UInt8) == s.toList) || _) = _; rw [hx]; rfl
        have HN := Lib.hid hn
        clear hn
        go_wp2
        go_round
        case rel => exact ⟨8, by decide, rfl, HN⟩
        case measure => simp [intOf]
      · have hn : q = true := by rw [hR.out]; show ((([97, 115, 115, 101, 114, 116] : List UInt8) == s.toList) || _) = _; rw [hx]; rfl
        have HN := Lib.hid hn
        clear hn
        go_wp2
        go_ret
        exact ⟨by rw [HN.out]; rfl, (Below.refl _ _).alloc (Nat.le_refl _) _⟩
    · cases hx : (([105, 102] : List UInt8) == s.toList)
      · have hn : q = (kwL.drop 9).any fun t => t == s.toList := by rw [hR.out]; show ((([105, 102] : List UInt8) == s.toList) || _) = _; rw [hx]; rfl
        have HN := Lib.hid hn
        clear hn
        go_wp2
        go_round
        case rel => exact ⟨9, by decide, rfl, HN⟩
        case measure => simp [intOf]
      · have hn : q = true := by rw [hR.out]; show ((([105, 102] : List UInt8) == s.toList) || _) = _; rw [hx]; rfl
        have HN := Lib.hid hn
        clear hn
        go_wp2
        go_ret
        exact ⟨by rw [HN.out]; rfl, (Below.refl _ _).alloc (Nat.le_refl _) _⟩
    · cases hx : (([101, 108, 115, 101] : List UInt8) == s.toList)
      · have hn : q = (kwL.drop 10).any fun t => t == s.toList := by rw [hR.out]; show ((([101, 108, 115, 101] : List UInt8) == s.toList) || _) = _; rw [hx]; rfl
        have HN := Lib.hid hn
        clear hn
        go_wp2
        go_round
        case rel => exact ⟨10, by decide, rfl, HN⟩
        case measure => simp [intOf]
      · have hn : q = true := by rw [hR.out]; show ((([101, 108, 115, 101] : List UInt8) == s.toList) || _) = _; rw [hx]; rfl
        have HN := Lib.hid hn
        clear hn
        go_wp2
        go_ret
        exact ⟨by rw [HN.out]; rfl, (Below.refl _ _).alloc (Nat.le_refl _) _⟩
    · cases hx : (([119, 104, 105, 108, 101] : List UInt8) == s.toList)
      · have hn : q = (kwL.drop 11).any fun t => t == s.toList := by rw [hR.out]; show ((([119, 104, 105, 108, 101] : List UInt8) == s.toList) || _) = _; rw [hx]; rfl
        have HN := Lib.hid hn
        clear hn
        go_wp2
        go_round
        case rel => exact ⟨11, by decide, rfl, HN⟩
        case measure => simp [intOf]
      · have hn : q = true := by rw [hR.out]; show ((([119, 104, 105, 108, 101] : List UInt8) == s.toList) || _) = _; rw [hx]; rfl
        have HN := Lib.hid hn
        clear hn
        go_wp2
        go_ret
        exact ⟨by rw [HN.out]; rfl, (Below.refl _ _).alloc (Nat.le_refl _) _⟩
    · cases hx : (([99, 97, 108, 108] : List UInt8) == s.toList)
      · have hn : q = (kwL.drop 12).any fun t => t == s.toList := by rw [hR.out]; show ((([99, 97, 108, 108] : List UInt8) == s.toList) || _) = _; rw [hx]; rfl
        have HN := Lib.hid hn
        clear hn
        go_wp2
        go_round
        case rel => exact ⟨12, by decide, rfl, HN⟩
        case measure => simp [intOf]
      · have hn : q = true := by rw [hR.out]; show ((([99, 97, 108, 108] : List UInt8) == s.toList) || _) = _; rw [hx]; rfl
        have HN := Lib.hid hn
        clear hn
        go_wp2
        go_ret
        exact ⟨by rw [HN.out]; rfl, (Below.refl _ _).alloc (Nat.le_refl _) _⟩
    · cases hx : (([116, 114, 117, 101] : List UInt8) == s.toList)
      · have hn : q = (kwL.drop 13).any fun t => t == s.toList := by rw [hR.out]; show ((([116, 114, 117, 101] : List UInt8) == s.toList) || _) = _; rw [hx]; rfl
        have HN := Lib.hid hn
        clear hn
        go_wp2
        go_round
        case rel => exact ⟨13, by decide, rfl, HN⟩
        case measure => simp [intOf]
      · have hn : q = true := by rw [hR.out]; show ((([116, 114, 117, 101] : List UInt8) == s.toList) || _) = _; rw [hx]; rfl
        have HN := Lib.hid hn
        clear hn
        go_wp2
        go_ret
        exact ⟨by rw [HN.out]; rfl, (Below.refl _ _).alloc (Nat.le_refl _) _⟩
    · cases hx : (([102, 97, 108, 115, 101] : List UInt8) == s.toList)
      · have hn : q = (kwL.drop 14).any fun t => t == s.toList := by rw [hR.out]; show ((([102, 97, 108, 115, 101] : List UInt8) == s.toList) || _) = _; rw [hx]; rfl
        have HN := Lib.hid hn
        clear hn
        go_wp2
        go_round
        case rel => exact ⟨14, by decide, rfl, HN⟩
        case measure => simp [intOf]
      · have hn : q = true := by rw [hR.out]; show ((([102, 97, 108, 115, 101] : List UInt8) == s.toList) || _) = _; rw [hx]; rfl
        have HN := Lib.hid hn
        clear hn
        go_wp2
        go_ret
        exact ⟨by rw [HN.out]; rfl, (Below.refl _ _).alloc (Nat.le_refl _) _⟩
    · have HF : Hid (q = false) := by show _ = _; rw [hR.out]; rfl
      go_wp2
      go_ret
      exact ⟨by rw [HF.out]; rfl, (Below.refl _ _).alloc (Nat.le_refl _) _⟩
end Go.Proofs.YtknckiblofochaaDoor
