/-
  Plain law on numerals: what strconv.Atoi makes of a number's text. No program.
-/
import Derived.Test.YtfcegaklbicmfaaGreatDoorLxNum
import Derived.Test.YtfcegaklbicmfaaGreatDoorLxPlain
import Derived.Lib.AtoiAll
set_option linter.unusedVariables false
set_option linter.unusedSimpArgs false
namespace Go.Proofs.YtfcegaklbicmfaaGreatDoor
open Go.RowKit

theorem parseUint10_go (acc : Nat) (c : UInt8) (r : List UInt8) (h : 48 ≤ c.toNat ∧ c.toNat ≤ 57) (h1 : acc * 10 + (c.toNat - 48) < 18446744073709551616) : Lib.parseUint10 acc (c :: r) = Lib.parseUint10 (acc * 10 + (c.toNat - 48)) r := by
 simp only [Lib.parseUint10, if_pos h]
 rw [if_neg (by omega), if_neg (by omega)]
theorem parseUint10_dig (l : List UInt8) : ∀ (acc : Nat), allDig l → decA acc l ≤ 9223372036854775807 → Lib.parseUint10 acc l = .ok (decA acc l) := by
 induction l with
 | nil => intro acc _ _; rfl
 | cons b l ih =>
  intro acc h hd
  have hb := (isDig_iff b).1 (h b (by simp))
  rw [decA_cons] at hd ⊢
  have hge := decA_ge l (acc * 10 + (b.toNat - 48))
  rw [parseUint10_go _ _ _ hb (by omega)]
  exact ih _ (fun c hc => h c (by simp [hc])) hd
theorem atoi_dig (l : List UInt8) (h : allDig l) (hl : l ≠ []) (hd : decV l ≤ 9223372036854775807) : Lib.atoiAll l = .ok (decV l : Int) := by
 match l, hl with
 | b :: r, _ =>
  have hb := (isDig_iff b).1 (h b (by simp))
  have e : ¬ (b.toNat = 43 ∨ b.toNat = 45) := by omega
  have e2 : ¬ b.toNat = 45 := by omega
  have hp := parseUint10_dig (b :: r) 0 h (by rw [← decV_A]; exact hd)
  unfold Lib.atoiAll Lib.parseMag
  simp only [if_neg e]
  rw [if_neg (by simp), hp, ← decV_A]
  simp only [e2, not_false_eq_true, true_and, false_and, if_false]
  rw [if_neg (by omega)]
theorem fT_number {t : List UInt8} {n : Nat} (h : firstT t = (2, n, 0)) (hn : n = t.length) : allDig t ∧ t ≠ [] ∧ decV t ≤ 9223372036854775807 := by
 by_cases hd : 0 < runB isDig t
 ·rw [fT_num hd] at h
  split at h
  ·rename_i hb
   simp only [Prod.mk.injEq] at h
   have hr : runB isDig t = t.length := by rw [h.2.1, hn]
   simp only [Bool.and_eq_true] at hb
   have hb := hb.1
   rw [hr, List.take_length] at hb
   simp only [numB, Bool.and_eq_true, decide_eq_true_eq] at hb
   have hall := takeWhile_dig t
   rw [hr, List.take_length] at hall
   refine ⟨hall, fun e => ?_, hb.2⟩
   ·rw [e] at hd; simp [runB] at hd
  ·simp at h
 ·rw [fT_none hd] at h
  split at h
  ·simp at h
  ·split at h
   ·simp at h
   ·split at h <;> simp at h
end Go.Proofs.YtfcegaklbicmfaaGreatDoor
