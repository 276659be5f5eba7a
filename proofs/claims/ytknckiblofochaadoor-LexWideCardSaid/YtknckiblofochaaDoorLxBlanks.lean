/-
  law08.blanks: are all bytes of a text blanks?
-/
import Derived.Test.YtknckiblofochaaDoorLxAlive
import Derived.Test.YtknckiblofochaaDoorLxPlain
namespace Go.Proofs.YtknckiblofochaaDoor
open Go.RowKit Go.Shelf
set_option linter.unusedVariables false
set_option linter.unusedSimpArgs false

theorem blanks_any (s : ByteArray) (hs : s.size ≤ 9223372036854775807) (w : World) : Calls Tryd.prog 9 #[.string s] w fun e w' => e = .returned (.bool (runB isBlk s.data.toList == s.size)) ∧ w = w' := by
  obtain ⟨r, hr⟩ : ∃ r, r = (runB isBlk s.data.toList == s.size) := ⟨_, rfl⟩
  rw [← hr]
  have HR := Lib.hid hr
  clear hr
  go_enter Tryd.func9, Tryd.ntmps9
  go_wp2
  go_loop [3] (fun i => ∃ k : Nat, k ≤ s.size ∧ i = .int .i64 k ∧ Hid (k ≤ runB isBlk s.data.toList)) (fun i => s.size - (intOf i).toNat)
  case atStart => exact ⟨0, Nat.zero_le _, rfl, Nat.zero_le _⟩
  case round =>
    obtain ⟨k, hk, rfl, hrun⟩ := hrel
    by_cases hlt : k < s.size
    · have HB := Lib.hid (byte_at s k hlt)
      obtain ⟨n, hn⟩ : ∃ n : Nat, n = (s[k]'hlt).toNat := ⟨_, rfl⟩
      cases hbk : isBlk (s[k]'hlt)
      · have HF := Lib.hid (show r = false from by
          rw [HR.out, runB_stop HB.out hbk hrun.out]
          simp; omega)
        simp only [isBlk, Bool.or_eq_false_iff, beq_eq_false_iff_ne] at hbk
        obtain ⟨⟨⟨n1, n2⟩, n3⟩, n4⟩ := hbk
        have e1 : (((s[k]'hlt).toNat : Int) != 32) = true := by simp; omega
        have e2 : (((s[k]'hlt).toNat : Int) != 9) = true := by simp; omega
        have e3 : (((s[k]'hlt).toNat : Int) != 10) = true := by simp; omega
        have e4 : (((s[k]'hlt).toNat : Int) != 13) = true := by simp; omega
        clear n1 n2 n3 n4 hn
        go_wp2
        go_ret
        exact ⟨by rw [HF.out]; rfl, rfl⟩
      · have HN := Lib.hid (runB_step HB.out hbk hrun.out)
        simp only [isBlk, Bool.or_eq_true, beq_iff_eq] at hbk
        rcases hbk with ((h | h) | h) | h
        · have e1 : (((s[k]'hlt).toNat : Int) != 32) = false := by simp; omega
          clear h hn
          go_wp2
          go_round
          case rel => exact ⟨k + 1, by omega, by go_num, HN⟩
          case measure => simp [intOf]; omega
        · have e1 : (((s[k]'hlt).toNat : Int) != 32) = true := by simp; omega
          have e2 : (((s[k]'hlt).toNat : Int) != 9) = false := by simp; omega
          clear h hn
          go_wp2
          go_round
          case rel => exact ⟨k + 1, by omega, by go_num, HN⟩
          case measure => simp [intOf]; omega
        · have e1 : (((s[k]'hlt).toNat : Int) != 32) = true := by simp; omega
          have e2 : (((s[k]'hlt).toNat : Int) != 9) = true := by simp; omega
          have e3 : (((s[k]'hlt).toNat : Int) != 10) = false := by simp; omega
          clear h hn
          go_wp2
          go_round
          case rel => exact ⟨k + 1, by omega, by go_num, HN⟩
          case measure => simp [intOf]; omega
        · have e1 : (((s[k]'hlt).toNat : Int) != 32) = true := by simp; omega
          have e2 : (((s[k]'hlt).toNat : Int) != 9) = true := by simp; omega
          have e3 : (((s[k]'hlt).toNat : Int) != 10) = true := by simp; omega
          have e4 : (((s[k]'hlt).toNat : Int) != 13) = false := by simp; omega
          clear h hn
          go_wp2
          go_round
          case rel => exact ⟨k + 1, by omega, by go_num, HN⟩
          case measure => simp [intOf]; omega
    · have HF := Lib.hid (show r = true from by
        have h1 := runB_le isBlk s.data.toList
        have h2 := hrun.out
        rw [size_len] at h1
        rw [HR.out]; simp; omega)
      go_wp2
      go_ret
      exact ⟨by rw [HF.out]; rfl, rfl⟩
end Go.Proofs.YtknckiblofochaaDoor
