import Derived.Test.YtjeapacohgfpiaaOpsA
namespace Go.Proofs.Ytjeapacohgfpiaa
open Go.RowKit

def divR (a b : Int) : Int := if b = 0 then 0 else okR (fits64 (a.tdiv b)) (a.tdiv b)
def divM (a b : Int) : Int := if b = 0 then 0 else if fits64 (a.tdiv b) then a.tmod b else 0
def divW (a b : Int) : Int := if b = 0 then 3 else okW (fits64 (a.tdiv b))

theorem divided_0 (a : Int) (w : World) : Calls Try.prog 62 #[.int .i64 a, .int .i64 0] w fun e w' => e = .returned (.tuple #[.int .i64 0, .int .i64 0, .int .u8 3]) ∧ Below w.heap.size w w' := by
  go_enter Try.func62, Try.ntmps62
  go_wp2
  go_ret3
  exact ⟨rfl, Below.refl _ _⟩
theorem divided_m (w : World) : Calls Try.prog 62 #[.int .i64 (-9223372036854775808), .int .i64 (-1)] w fun e w' => e = .returned (.tuple #[.int .i64 0, .int .i64 0, .int .u8 2]) ∧ Below w.heap.size w w' := by
  go_enter Try.func62, Try.ntmps62
  go_wp2
  go_ret3
  exact ⟨rfl, Below.refl _ _⟩
theorem divided_y1 (a : Int) (w : World) (h : (a == -9223372036854775808) = false) : Calls Try.prog 62 #[.int .i64 a, .int .i64 (-1)] w fun e w' => e = .returned (.tuple #[.int .i64 (wrap64 (-a)), .int .i64 0, .int .u8 0]) ∧ Below w.heap.size w w' := by
  go_enter Try.func62, Try.ntmps62
  go_wp2
  go_quiet (fail)
  go_wp2
  go_ret3
  exact ⟨rfl, below_drewN (Below.refl _ _) _⟩
theorem divided_yy (a b : Int) (w : World) (h0 : ¬ b = 0) (h1 : ((b == -1) = false)) : Calls Try.prog 62 #[.int .i64 a, .int .i64 b] w fun e w' => e = .returned (.tuple #[.int .i64 (wrap64 (a.tdiv b)), .int .i64 (a.tmod b), .int .u8 0]) ∧ Below w.heap.size w w' := by
  go_enter Try.func62, Try.ntmps62
  go_wp2
  go_quiet (fail)
  go_wp2
  go_ret3
  exact ⟨rfl, below_drewN (Below.refl _ _) _⟩
theorem divided_any (a b : Int) (w : World) (ha : is64 a) : Calls Try.prog 62 #[.int .i64 a, .int .i64 b] w fun e w' => e = .returned (.tuple #[.int .i64 (divR a b), .int .i64 (divM a b), .int .u8 (divW a b)]) ∧ Below w.heap.size w w' := by
  by_cases h0 : b = 0
  · subst h0
    exact divided_0 a w
  by_cases h2 : a = -9223372036854775808 ∧ b = -1
  · obtain ⟨rfl, rfl⟩ := h2
    exact divided_m w
  have hf : fits64 (a.tdiv b) = true := fits_of (tdiv_small a b ha h2)
  have e1 : divR a b = a.tdiv b := by simp [divR, h0, hf, okR]
  have e2 : divM a b = a.tmod b := by simp [divM, h0, hf]
  have e3 : divW a b = 0 := by simp [divW, h0, hf, okW]
  rw [e1, e2, e3, ← wrap_tdiv a b ha h2]
  by_cases h1 : b = -1
  · subst h1
    rw [Int.tdiv_neg, Int.tdiv_one, Int.tmod_neg, Int.tmod_one]
    exact divided_y1 a w (by simpa using fun h => h2 ⟨h, rfl⟩)
  · exact divided_yy a b w h0 (by simpa using h1)
theorem div_any (a b : Int) (w : World) (ha : is64 a) : Calls Try.prog 61 #[.int .i64 a, .int .i64 b] w fun e w' => e = .returned (.tuple #[.int .i64 (opR 8 a b), .int .u8 (opW 8 a b)]) ∧ Below w.heap.size w w' := by
  go_enter Try.func61, Try.ntmps61
  go_wp2_with (go_at_call 62; refine (divided_any _ _ _ ha).mono ?_; rintro e w' ⟨rfl, hb⟩)
  go_ret2
  exact ⟨rfl, hb⟩
theorem mod_r (a b : Int) (ha : is64 a) : divM a b = opR 9 a b := by
  by_cases h0 : b = 0
  · simp [divM, opR, h0]
  by_cases h2 : a = -9223372036854775808 ∧ b = -1
  · obtain ⟨rfl, rfl⟩ := h2
    decide +kernel
  have hf : fits64 (a.tdiv b) = true := fits_of (tdiv_small a b ha h2)
  simp [divM, opR, h0, hf]
theorem mod_w (a b : Int) : (if divW a b = 2 then 0 else divW a b) = opW 9 a b := by
  unfold divW opW okW
  by_cases h0 : b = 0
  · simp [h0]
  · cases fits64 (a.tdiv b) <;> simp [h0]
theorem mod_any (a b : Int) (w : World) (ha : is64 a) : Calls Try.prog 63 #[.int .i64 a, .int .i64 b] w fun e w' => e = .returned (.tuple #[.int .i64 (opR 9 a b), .int .u8 (opW 9 a b)]) ∧ Below w.heap.size w w' := by
  rw [← mod_r a b ha, ← mod_w a b]
  by_cases h : divW a b = 2
  · have h1 : (divW a b == 2) = true := by simp [h]
    rw [if_pos h]
    clear h
    go_enter Try.func63, Try.ntmps63
    go_wp2_with (go_at_call 62; refine (divided_any _ _ _ ha).mono ?_; rintro e w' ⟨rfl, hb⟩)
    go_ret2
    exact ⟨rfl, hb⟩
  · have h1 : (divW a b == 2) = false := by simpa using h
    rw [if_neg h]
    clear h
    go_enter Try.func63, Try.ntmps63
    go_wp2_with (go_at_call 62; refine (divided_any _ _ _ ha).mono ?_; rintro e w' ⟨rfl, hb⟩)
    go_ret2
    exact ⟨rfl, hb⟩
theorem shl_any (a b : Int) (A B : Addr) (w : World) (h0 : 0 ≤ b) (h1 : b ≤ 63) (ha : w.cell? A = some (.int .i64 a)) (hb : w.cell? B = some (.int .i64 b)) :
    Calls Try.prog 66 #[.pointer (some A), .pointer (some B)] w fun e w' => e = .returned (.tuple #[.int .i64 (opR 10 a b), .int .u8 (opW 10 a b)]) ∧ ∃ n, w' = w.drewN n := by
  have H := Lib.hid (ret_ok (shl_b a b h0 h1) (wrap_fit (a * 2 ^ b.toNat)))
  go_enter Try.func66, Try.ntmps66
  go_wp2_with fail
  go_quiet ((go_at_call 57; exact Calls.quiet_of_same ((ranged_any _ _ _).mono fun _ _ h => ⟨h.1, h.2.symm⟩)))
  go_wp2_with fail
  go_ret2
  refine ⟨?_, _, rfl⟩
  refine Eq.trans H.out ?_
  have e1 : opR 10 a b = okR (fits64 (a * 2 ^ b.toNat)) (a * 2 ^ b.toNat) := by simp [opR]; omega
  have e2 : opW 10 a b = okW (fits64 (a * 2 ^ b.toNat)) := by simp [opW]; omega
  rw [e1, e2]
theorem shr_any (a b : Int) (A B : Addr) (w : World) (h0 : 0 ≤ b) (h1 : b ≤ 63) (ha : w.cell? A = some (.int .i64 a)) (hb : w.cell? B = some (.int .i64 b)) :
    Calls Try.prog 68 #[.pointer (some A), .pointer (some B)] w fun e w' => e = .returned (.tuple #[.int .i64 (opR 11 a b), .int .u8 (opW 11 a b)]) ∧ ∃ n, w' = w.drewN n := by
  have e1 : opR 11 a b = a / 2 ^ b.toNat := by simp [opR]; omega
  have e2 : opW 11 a b = 0 := by simp [opW]; omega
  rw [e1, e2]
  clear e1 e2
  go_enter Try.func68, Try.ntmps68
  go_wp2
  go_ret2
  exact ⟨rfl, 0, rfl⟩
/-- the shifts: 64 the one to the left, 67 the one to the right -/
theorem shifted_no (n : Int) (f : Value) (w : World) (h : n < 0 ∨ 63 < n) : Calls Try.prog 65 #[.int .i64 n, f] w fun e w' => e = .returned (.tuple #[.int .i64 0, .int .u8 4]) ∧ w = w' := by
  by_cases h1 : n < 0
  · clear h
    go_enter Try.func65, Try.ntmps65
    go_wp2
    go_ret2
    exact ⟨rfl, rfl⟩
  · have h2 : 63 < n := by omega
    clear h
    go_enter Try.func65, Try.ntmps65
    go_wp2
    go_ret2
    exact ⟨rfl, rfl⟩
theorem shl_no (a b : Int) (w : World) (h : b < 0 ∨ 63 < b) : Calls Try.prog 64 #[.int .i64 a, .int .i64 b] w fun e w' => e = .returned (.tuple #[.int .i64 (opR 10 a b), .int .u8 (opW 10 a b)]) ∧ Below w.heap.size w w' := by
  have e1 : opR 10 a b = 0 := by simp [opR, h]
  have e2 : opW 10 a b = 4 := by simp [opW, h]
  rw [e1, e2]
  clear e1 e2
  go_enter Try.func64, Try.ntmps64
  go_wp2_with (go_at_call 65; refine (shifted_no _ _ _ h).mono ?_; rintro e w' ⟨rfl, rfl⟩)
  go_ret2
  exact ⟨rfl, ((Below.refl _ _).alloc (Nat.le_refl _) _).alloc (by simp) _⟩
theorem shl_yes (a b : Int) (w : World) (h0 : 0 ≤ b) (h1 : b ≤ 63) : Calls Try.prog 64 #[.int .i64 a, .int .i64 b] w fun e w' => e = .returned (.tuple #[.int .i64 (opR 10 a b), .int .u8 (opW 10 a b)]) ∧ Below w.heap.size w w' := by
  go_enter Try.func64, Try.ntmps64
  go_wp2_with fail
  go_in
  go_wp2_with fail
  refine (shl_any a b _ _ _ h0 h1 (by simp) (by simp)).mono ?_
  rintro e w' ⟨rfl, n, rfl⟩
  go_wp2_with fail
  go_ret2
  exact ⟨rfl, below_drewN (((Below.refl _ _).alloc (Nat.le_refl _) _).alloc (by simp) _) _⟩
theorem shr_no (a b : Int) (w : World) (h : b < 0 ∨ 63 < b) : Calls Try.prog 67 #[.int .i64 a, .int .i64 b] w fun e w' => e = .returned (.tuple #[.int .i64 (opR 11 a b), .int .u8 (opW 11 a b)]) ∧ Below w.heap.size w w' := by
  have e1 : opR 11 a b = 0 := by simp [opR, h]
  have e2 : opW 11 a b = 4 := by simp [opW, h]
  rw [e1, e2]
  clear e1 e2
  go_enter Try.func67, Try.ntmps67
  go_wp2_with (go_at_call 65; refine (shifted_no _ _ _ h).mono ?_; rintro e w' ⟨rfl, rfl⟩)
  go_ret2
  exact ⟨rfl, ((Below.refl _ _).alloc (Nat.le_refl _) _).alloc (by simp) _⟩
theorem shr_yes (a b : Int) (w : World) (h0 : 0 ≤ b) (h1 : b ≤ 63) : Calls Try.prog 67 #[.int .i64 a, .int .i64 b] w fun e w' => e = .returned (.tuple #[.int .i64 (opR 11 a b), .int .u8 (opW 11 a b)]) ∧ Below w.heap.size w w' := by
  go_enter Try.func67, Try.ntmps67
  go_wp2_with fail
  go_in
  go_wp2_with fail
  refine (shr_any a b _ _ _ h0 h1 (by simp) (by simp)).mono ?_
  rintro e w' ⟨rfl, n, rfl⟩
  go_wp2_with fail
  go_ret2
  exact ⟨rfl, below_drewN (((Below.refl _ _).alloc (Nat.le_refl _) _).alloc (by simp) _) _⟩
end Go.Proofs.Ytjeapacohgfpiaa
