import Derived.Test.YtjeapacohgfpiaaOps
import Derived.Test.YtjeapacohgfpiaaShelf
namespace Go.Proofs.Ytjeapacohgfpiaa
open Go.RowKit

theorem neg_any (a b : Int) (w : World) (ha : is64 a) : Calls Try.prog 56 #[.int .i64 a, .int .i64 b] w fun e w' => e = .returned (.tuple #[.int .i64 (opR 4 a b), .int .u8 (opW 4 a b)]) ∧ w = w' := by
  have H := Lib.hid (ret_ok (neg_b a ha) (wrap_fit (-a)))
  go_enter Try.func56, Try.ntmps56
  go_wp2_with (go_at_call 57; refine (ranged_any _ _ _).mono ?_; rintro e w' ⟨rfl, rfl⟩)
  go_ret2
  exact ⟨H.out, rfl⟩
theorem add_any (a b : Int) (w : World) (ha : is64 a) (hb : is64 b) : Calls Try.prog 58 #[.int .i64 a, .int .i64 b] w fun e w' => e = .returned (.tuple #[.int .i64 (opR 5 a b), .int .u8 (opW 5 a b)]) ∧ w = w' := by
  have H := Lib.hid (ret_ok (add_b a b ha hb) (wrap_fit (a + b)))
  go_enter Try.func58, Try.ntmps58
  go_wp2_with (go_at_call 57; refine (ranged_any _ _ _).mono ?_; rintro e w' ⟨rfl, rfl⟩)
  go_ret2
  exact ⟨H.out, rfl⟩
theorem sub_any (a b : Int) (w : World) (ha : is64 a) (hb : is64 b) : Calls Try.prog 59 #[.int .i64 a, .int .i64 b] w fun e w' => e = .returned (.tuple #[.int .i64 (opR 6 a b), .int .u8 (opW 6 a b)]) ∧ w = w' := by
  have H := Lib.hid (ret_ok (sub_b a b ha hb) (wrap_fit (a - b)))
  go_enter Try.func59, Try.ntmps59
  go_wp2_with (go_at_call 57; refine (ranged_any _ _ _).mono ?_; rintro e w' ⟨rfl, rfl⟩)
  go_ret2
  exact ⟨H.out, rfl⟩

theorem mul64_any (x y : Int) (w : World) (hx : 0 ≤ x) (hy : 0 ≤ y) (hx2 : x < 18446744073709551616) (hy2 : y < 18446744073709551616) :
    Calls Try.prog 91 #[.int .u64 x, .int .u64 y] w fun e w' => e = .returned (.tuple #[.int .u64 (x * y / 18446744073709551616), .int .u64 (x * y % 18446744073709551616)]) ∧ w = w' := by
  obtain ⟨m, rfl⟩ := Int.eq_ofNat_of_zero_le hx
  obtain ⟨n, rfl⟩ := Int.eq_ofNat_of_zero_le hy
  exact (Try.bits_Mul64 m n (by omega) (by omega) w).mono fun _ _ h => ⟨by rw [h.1]; simp, h.2.symm⟩
theorem tsize_any (a : Int) (w : World) : Calls Try.prog 90 #[.int .i64 a] w fun e w' => e = .returned (.int .u64 (if a < 0 then IntKind.u64.wrap (-IntKind.u64.wrap a) else IntKind.u64.wrap a)) ∧ w = w' := by
  by_cases h : a < 0
  · go_enter Try.func90, Try.ntmps90
    go_wp2
    go_ret
    exact ⟨by simp [h], rfl⟩
  · go_enter Try.func90, Try.ntmps90
    go_wp2
    go_ret
    exact ⟨by simp [h], rfl⟩
theorem tsize_abs (a : Int) (w : World) (ha : is64 a) : Calls Try.prog 90 #[.int .i64 a] w fun e w' => e = .returned (.int .u64 (a.natAbs : Int)) ∧ w = w' := by
  refine (tsize_any a w).mono fun _ _ h => ⟨?_, h.2⟩
  rw [h.1]
  unfold is64 at ha
  congr 2
  split <;> simp [IntKind.wrap, IntKind.min, IntKind.max, IntKind.signed, IntKind.bits] <;> omega

/-- a product's two halves, when it comes of numbers of one sign -/
def hi64 (p : Int) : Int := p / 18446744073709551616
def lo64 (p : Int) : Int := p % 18446744073709551616
theorem mul64_hl (x y : Int) (w : World) (hx : 0 ≤ x) (hy : 0 ≤ y) (hx2 : x < 18446744073709551616) (hy2 : y < 18446744073709551616) :
    Calls Try.prog 91 #[.int .u64 x, .int .u64 y] w fun e w' => e = .returned (.tuple #[.int .u64 (hi64 (x * y)), .int .u64 (lo64 (x * y))]) ∧ w = w' := mul64_any x y w hx hy hx2 hy2

theorem same_fits (p n : Int) (h : p = n) (hp : 0 ≤ p) : (if hi64 p = 0 then decide (lo64 p < 9223372036854775808) else false) = fits64 n := by
  subst h
  unfold fits64 hi64 lo64
  rw [Bool.eq_iff_iff]
  split <;> simp <;> omega
theorem odd_fits (p n : Int) (h : p = -n) (hp : 0 ≤ p) : (if hi64 p = 0 then decide (lo64 p ≤ 9223372036854775808) else false) = fits64 n := by
  unfold fits64 hi64 lo64
  rw [Bool.eq_iff_iff]
  split <;> simp <;> omega
theorem same_val (p n : Int) (h : p = n) (hp : 0 ≤ p) (hf : fits64 n = true) : wrap64 (lo64 p) = n := by
  subst h
  simp [fits64] at hf
  unfold wrap64 lo64
  omega
theorem odd_val (p n : Int) (h : p = -n) (hp : 0 ≤ p) (hf : fits64 n = true) : wrap64 (IntKind.u64.wrap (-lo64 p)) = n := by
  simp [fits64] at hf
  simp [IntKind.wrap, IntKind.min, IntKind.max, IntKind.signed, IntKind.bits]
  unfold wrap64 lo64
  omega
set_option maxRecDepth 100000 in
theorem times_same (a b : Int) (w : World) (ha : is64 a) (hb : is64 b) (h : decide (a < 0) = decide (b < 0)) : Calls Try.prog 60 #[.int .i64 a, .int .i64 b] w fun e w' => e = .returned (.tuple #[.int .i64 (opR 7 a b), .int .u8 (opW 7 a b)]) ∧ w = w' := by
  have hA : 0 ≤ (a.natAbs : Int) ∧ (a.natAbs : Int) < 18446744073709551616 := by unfold is64 at ha; omega
  have hB : 0 ≤ (b.natAbs : Int) ∧ (b.natAbs : Int) < 18446744073709551616 := by unfold is64 at hb; omega
  have hp : 0 ≤ (a.natAbs : Int) * (b.natAbs : Int) := Int.mul_nonneg hA.1 hB.1
  have hm : (a.natAbs : Int) * (b.natAbs : Int) = a * b := mul_both a b _ _ (by simp at h; omega)
  have H1 := Lib.hid (ret_ok (same_fits _ _ hm hp) (same_val _ _ hm hp))
  have h2 : (decide (a < 0) == decide (b < 0)) = true := by simp [h]
  clear hm h
  go_enter Try.func60, Try.ntmps60
  go_wp2_with fail
  refine (tsize_abs a w ha).mono ?_
  rintro e w' ⟨rfl, rfl⟩
  go_wp2_with fail
  refine (tsize_abs b w hb).mono ?_
  rintro e w' ⟨rfl, rfl⟩
  go_wp2_with fail
  refine (mul64_hl _ _ _ hA.1 hB.1 hA.2 hB.2).mono ?_
  rintro e w' ⟨rfl, rfl⟩
  by_cases h0 : hi64 ((a.natAbs : Int) * (b.natAbs : Int)) = 0
  · have e0 : (hi64 ((a.natAbs : Int) * (b.natAbs : Int)) == 0) = true := by simp [h0]
    have h3 := H1.out
    rw [if_pos h0] at h3
    clear h0
    have H2 := Lib.hid h3
    clear h3
    go_wp2_with (go_at_call 57; refine (ranged_any _ _ _).mono ?_; rintro e w' ⟨rfl, rfl⟩)
    go_ret2
    exact ⟨H2.out, rfl⟩
  · have e0 : (hi64 ((a.natAbs : Int) * (b.natAbs : Int)) == 0) = false := by simp [h0]
    have h3 := H1.out
    rw [if_neg h0] at h3
    clear h0
    have H2 := Lib.hid h3
    clear h3
    go_wp2_with (go_at_call 57; refine (ranged_any _ _ _).mono ?_; rintro e w' ⟨rfl, rfl⟩)
    go_ret2
    exact ⟨H2.out, rfl⟩
set_option maxRecDepth 100000 in
theorem times_odd (a b : Int) (w : World) (ha : is64 a) (hb : is64 b) (h : ¬ decide (a < 0) = decide (b < 0)) : Calls Try.prog 60 #[.int .i64 a, .int .i64 b] w fun e w' => e = .returned (.tuple #[.int .i64 (opR 7 a b), .int .u8 (opW 7 a b)]) ∧ w = w' := by
  have hA : 0 ≤ (a.natAbs : Int) ∧ (a.natAbs : Int) < 18446744073709551616 := by unfold is64 at ha; omega
  have hB : 0 ≤ (b.natAbs : Int) ∧ (b.natAbs : Int) < 18446744073709551616 := by unfold is64 at hb; omega
  have hp : 0 ≤ (a.natAbs : Int) * (b.natAbs : Int) := Int.mul_nonneg hA.1 hB.1
  have hm : (a.natAbs : Int) * (b.natAbs : Int) = -(a * b) := mul_one a b _ _ (by simp at h; omega)
  have H1 := Lib.hid (ret_ok (odd_fits _ _ hm hp) (odd_val _ _ hm hp))
  have h2 : (decide (a < 0) == decide (b < 0)) = false := by simpa using h
  clear hm h
  go_enter Try.func60, Try.ntmps60
  go_wp2_with fail
  refine (tsize_abs a w ha).mono ?_
  rintro e w' ⟨rfl, rfl⟩
  go_wp2_with fail
  refine (tsize_abs b w hb).mono ?_
  rintro e w' ⟨rfl, rfl⟩
  go_wp2_with fail
  refine (mul64_hl _ _ _ hA.1 hB.1 hA.2 hB.2).mono ?_
  rintro e w' ⟨rfl, rfl⟩
  by_cases h0 : hi64 ((a.natAbs : Int) * (b.natAbs : Int)) = 0
  · have e0 : (hi64 ((a.natAbs : Int) * (b.natAbs : Int)) == 0) = true := by simp [h0]
    have h3 := H1.out
    rw [if_pos h0] at h3
    clear h0
    have H2 := Lib.hid h3
    clear h3
    go_wp2_with (go_at_call 57; refine (ranged_any _ _ _).mono ?_; rintro e w' ⟨rfl, rfl⟩)
    go_ret2
    exact ⟨H2.out, rfl⟩
  · have e0 : (hi64 ((a.natAbs : Int) * (b.natAbs : Int)) == 0) = false := by simp [h0]
    have h3 := H1.out
    rw [if_neg h0] at h3
    clear h0
    have H2 := Lib.hid h3
    clear h3
    go_wp2_with (go_at_call 57; refine (ranged_any _ _ _).mono ?_; rintro e w' ⟨rfl, rfl⟩)
    go_ret2
    exact ⟨H2.out, rfl⟩
theorem times_any (a b : Int) (w : World) (ha : is64 a) (hb : is64 b) : Calls Try.prog 60 #[.int .i64 a, .int .i64 b] w fun e w' => e = .returned (.tuple #[.int .i64 (opR 7 a b), .int .u8 (opW 7 a b)]) ∧ w = w' := by
  by_cases h : decide (a < 0) = decide (b < 0)
  · exact times_same a b w ha hb h
  · exact times_odd a b w ha hb h
end Go.Proofs.Ytjeapacohgfpiaa
