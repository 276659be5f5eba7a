/-
  Digits compared as texts and as numbers.
-/
import Derived.Test.YtknckiblofochaaDoorLrNumber
import Derived.Test.YtknckiblofochaaDoorLxTok
namespace Go.Proofs.YtknckiblofochaaDoor
open Go.RowKit Go.Shelf
set_option linter.unusedVariables false
set_option linter.unusedSimpArgs false

theorem decV_fold (l : List UInt8) : ∀ n : Nat, l.foldl (fun n b => n * 10 + (b.toNat - 48)) n = n * 10 ^ l.length + decV l := by
  induction l with
  | nil => intro n; simp [decV]
  | cons a x ih =>
    intro n
    unfold decV
    simp only [List.foldl_cons, List.length_cons]
    rw [ih, ih (0 * 10 + (a.toNat - 48)), Nat.pow_succ, Nat.add_mul, Nat.zero_mul, Nat.zero_add, Nat.mul_assoc, Nat.mul_comm 10, Nat.add_assoc]
theorem decV_cons (a : UInt8) (x : List UInt8) : decV (a :: x) = (a.toNat - 48) * 10 ^ x.length + decV x := by
  have := decV_fold x (0 * 10 + (a.toNat - 48))
  unfold decV at this ⊢
  simp only [List.foldl_cons]
  rw [this]; simp
theorem dig_le {a : UInt8} (h : isDig a = true) : 48 ≤ a.toNat ∧ a.toNat ≤ 57 := by simpa [isDig] using h
theorem decV_lt : ∀ l : List UInt8, (∀ b ∈ l, isDig b = true) → decV l < 10 ^ l.length
  | [], _ => by simp [decV]
  | a :: x, h => by
    have ih := decV_lt x (fun b hb => h b (List.mem_cons_of_mem _ hb))
    have ha := dig_le (h a List.mem_cons_self)
    rw [decV_cons, List.length_cons, Nat.pow_succ]
    have : (a.toNat - 48) * 10 ^ x.length ≤ 9 * 10 ^ x.length := Nat.mul_le_mul_right _ (by omega)
    omega
theorem less_dec : ∀ a b : List UInt8, a.length = b.length → (∀ c ∈ a, isDig c = true) → (∀ c ∈ b, isDig c = true) → (Op.bytesLess a b || a == b) = decide (decV a ≤ decV b)
  | [], [], _, _, _ => by simp [Op.bytesLess, decV]
  | [], b :: y, h, _, _ => by simp at h
  | a :: x, [], h, _, _ => by simp at h
  | a :: x, b :: y, h, ha, hb => by
    have hl : x.length = y.length := by simpa using h
    have ih := less_dec x y hl (fun c hc => ha c (List.mem_cons_of_mem _ hc)) (fun c hc => hb c (List.mem_cons_of_mem _ hc))
    have a1 := dig_le (ha a List.mem_cons_self)
    have b1 := dig_le (hb b List.mem_cons_self)
    have bx := decV_lt x (fun c hc => ha c (List.mem_cons_of_mem _ hc))
    have byy := decV_lt y (fun c hc => hb c (List.mem_cons_of_mem _ hc))
    rw [decV_cons, decV_cons, Op.bytesLess]
    rw [hl] at bx ⊢
    generalize 10 ^ y.length = P at *
    by_cases hlt : a < b
    · have h1 : a.toNat < b.toNat := UInt8.lt_iff_toNat_lt.1 hlt
      have h2 : (a.toNat - 48 + 1) * P ≤ (b.toNat - 48) * P := Nat.mul_le_mul_right _ (by omega)
      rw [Nat.add_mul] at h2
      have h3 : (a.toNat - 48) * P + decV x ≤ (b.toNat - 48) * P + decV y := by omega
      simp [hlt, h3]
    · by_cases heq : a = b
      · subst heq
        have : ((a :: x : List UInt8) == a :: y) = (x == y) := by simp
        rw [this]
        have h0 : ¬ a < a := by simp
        simp only [beq_self_eq_true, Bool.true_and, decide_eq_false h0, Bool.false_or]
        rw [ih]
        simp
      · have h1 : ¬ a.toNat < b.toNat := fun hh => hlt (UInt8.lt_iff_toNat_lt.2 hh)
        have h4 : a.toNat ≠ b.toNat := fun hh => heq (UInt8.toNat_inj.1 hh)
        have h2 : (b.toNat - 48 + 1) * P ≤ (a.toNat - 48) * P := Nat.mul_le_mul_right _ (by omega)
        rw [Nat.add_mul] at h2
        have h3 : ¬ ((a.toNat - 48) * P + decV x ≤ (b.toNat - 48) * P + decV y) := by omega
        rw [decide_eq_false h3]
        simp [hlt, heq]
theorem decV_max : decV maxL = 9223372036854775807 := by decide
theorem numS_eq (x : ByteArray) (h0 : 0 < x.size) (h : ∀ b ∈ x.data.toList, isDig b = true) : numS x = numB x.data.toList := by
  have hsz := size_len x
  have htl : x.toList = x.data.toList := ByteArray.toList_eq x
  unfold numS numB
  rw [htl, ← hsz]
  rw [← hsz] at h0
  generalize x.data.toList = l at *
  clear hsz htl
  have hlt := decV_lt l h
  cases l with
  | nil => simp at h0
  | cons a r =>
    have ha := dig_le (h a List.mem_cons_self)
    simp only [List.headD_cons, List.head?_cons]
    by_cases h1 : r.length = 0
    · have h9 : decV (a :: r) ≤ 9223372036854775807 := by rw [List.length_cons, h1] at hlt; omega
      simp [h1, h9]
    · by_cases hz : a = 48
      · subst hz
        have : 0 < r.length := by omega
        simp [this]
        exact fun hr => (h1 (by rw [hr]; rfl)).elim
      · have hn : a.toNat ≠ 48 := fun hh => hz (UInt8.toNat_inj.1 hh)
        by_cases h19 : 19 < (a :: r).length
        · have h2 : 10 ^ 19 ≤ 10 ^ r.length := Nat.pow_le_pow_right (by decide) (by simp at h19; omega)
          have h3 : 1 * 10 ^ r.length ≤ (a.toNat - 48) * 10 ^ r.length := Nat.mul_le_mul_right _ (by omega)
          have h4 : ¬ decV (a :: r) ≤ 9223372036854775807 := by rw [decV_cons]; omega
          rw [decide_eq_true h19, decide_eq_false h4]; simp
        · by_cases h18 : (a :: r).length < 19
          · have h2 : 10 ^ (a :: r).length ≤ 10 ^ 18 := Nat.pow_le_pow_right (by decide) (by omega)
            have h4 : decV (a :: r) ≤ 9223372036854775807 := by omega
            rw [decide_eq_false h19, decide_eq_true h4, decide_eq_true h18]; simp [hz]
          · have h2 : (a :: r).length = maxL.length := by show _ = 19; omega
            rw [less_dec _ _ h2 h (by decide), decV_max, decide_eq_false h19, decide_eq_false h18]
            simp [hz]
end Go.Proofs.YtknckiblofochaaDoor
