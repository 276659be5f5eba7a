import Derived.Test.YtjeapacohgfpiaaOpsB
import Derived.Shelf.Abstract
namespace Go.Proofs.Ytjeapacohgfpiaa
open Go.RowKit Go.Shelf

/-- the table of operations, as a value -/
def opTab : Value := .agg #[.nilFunc, .nilFunc, .nilFunc, .nilFunc, .func (.func 56) #[] #[], .func (.func 58) #[] #[], .func (.func 59) #[] #[], .func (.func 60) #[] #[], .func (.func 61) #[] #[], .func (.func 63) #[] #[], .func (.func 64) #[] #[], .func (.func 67) #[] #[]]
theorem ops_any (w : World) : Calls Try.prog 23 #[] w fun e w' => e = .returned opTab ∧ Below w.heap.size w w' := by
  go_enter Try.func23, Try.ntmps23
  go_wp2
  exact bodyPost_ret (v := opTab) (by simp [opTab, results, Try.results23, go_sem]) rfl ⟨rfl, (Below.refl _ _).alloc (Nat.le_refl _) _⟩
theorem apply_at (k a b : Int) (g : Nat) (n r : Int) (w : World) (h0 : 4 ≤ k) (h1 : k ≤ 11)
    (hidx : ∀ w, (Instr.index 67 opTab (.int .u8 k)).run Try.prog w = .ok (.func (.func g) #[] #[]) w)
    (hent : ∀ (args : Array Value) (w : World), (callFunc g args).run Try.prog w = .ok (.enter g args) w)
    (hg : ∀ w, Calls Try.prog g #[.int .i64 a, .int .i64 b] w fun e w' => e = .returned (.tuple #[.int .i64 n, .int .u8 r]) ∧ Below w.heap.size w w') :
    Calls Try.prog 7 #[.int .u8 k, .int .i64 a, .int .i64 b] w fun e w' => e = .returned (.tuple #[.int .i64 n, .int .u8 r, .int .i64 0]) ∧ Below w.heap.size w w' := by
  have HG := Lib.hid hg
  clear hg
  go_enter Try.func7, Try.ntmps7
  go_wp2_with fail
  refine (ops_any _).mono ?_
  rintro e w1 ⟨rfl, hb1⟩
  go_wp2_with fail
  refine (HG.out _).mono ?_
  rintro e w2 ⟨rfl, hb2⟩
  go_wp2_with fail
  go_ret3
  exact ⟨rfl, hb1.trans (hb2.mono hb1.size)⟩

theorem apply_any (k a b : Int) (w : World) (h0 : 4 ≤ k) (h1 : k ≤ 11) (ha : is64 a) (hb : is64 b) :
    Calls Try.prog 7 #[.int .u8 k, .int .i64 a, .int .i64 b] w fun e w' => e = .returned (.tuple #[.int .i64 (opR k a b), .int .u8 (opW k a b), .int .i64 0]) ∧ Below w.heap.size w w' := by
  have hk : k = 4 ∨ k = 5 ∨ k = 6 ∨ k = 7 ∨ k = 8 ∨ k = 9 ∨ k = 10 ∨ k = 11 := by omega
  rcases hk with rfl | rfl | rfl | rfl | rfl | rfl | rfl | rfl
  · exact apply_at 4 a b 56 _ _ w h0 h1 (fun _ => by kernel_rfl) (enters_of Try.func56 (by kernel_rfl) rfl) fun w => (neg_any a b w ha).mono fun _ _ h => ⟨h.1, h.2 ▸ Below.refl _ _⟩
  · exact apply_at 5 a b 58 _ _ w h0 h1 (fun _ => by kernel_rfl) (enters_of Try.func58 (by kernel_rfl) rfl) fun w => (add_any a b w ha hb).mono fun _ _ h => ⟨h.1, h.2 ▸ Below.refl _ _⟩
  · exact apply_at 6 a b 59 _ _ w h0 h1 (fun _ => by kernel_rfl) (enters_of Try.func59 (by kernel_rfl) rfl) fun w => (sub_any a b w ha hb).mono fun _ _ h => ⟨h.1, h.2 ▸ Below.refl _ _⟩
  · exact apply_at 7 a b 60 _ _ w h0 h1 (fun _ => by kernel_rfl) (enters_of Try.func60 (by kernel_rfl) rfl) fun w => (times_any a b w ha hb).mono fun _ _ h => ⟨h.1, h.2 ▸ Below.refl _ _⟩
  · exact apply_at 8 a b 61 _ _ w h0 h1 (fun _ => by kernel_rfl) (enters_of Try.func61 (by kernel_rfl) rfl) fun w => div_any a b w ha
  · exact apply_at 9 a b 63 _ _ w h0 h1 (fun _ => by kernel_rfl) (enters_of Try.func63 (by kernel_rfl) rfl) fun w => mod_any a b w ha
  · by_cases h : b < 0 ∨ 63 < b
    · exact apply_at 10 a b 64 _ _ w h0 h1 (fun _ => by kernel_rfl) (enters_of Try.func64 (by kernel_rfl) rfl) fun w => shl_no a b w h
    · exact apply_at 10 a b 64 _ _ w h0 h1 (fun _ => by kernel_rfl) (enters_of Try.func64 (by kernel_rfl) rfl) fun w => shl_yes a b w (by omega) (by omega)
  · by_cases h : b < 0 ∨ 63 < b
    · exact apply_at 11 a b 67 _ _ w h0 h1 (fun _ => by kernel_rfl) (enters_of Try.func67 (by kernel_rfl) rfl) fun w => shr_no a b w h
    · exact apply_at 11 a b 67 _ _ w h0 h1 (fun _ => by kernel_rfl) (enters_of Try.func67 (by kernel_rfl) rfl) fun w => shr_yes a b w (by omega) (by omega)
theorem apply_no (k a b : Int) (w : World) (h : k < 4 ∨ 11 < k) :
    Calls Try.prog 7 #[.int .u8 k, .int .i64 a, .int .i64 b] w fun e w' => e = .returned (.tuple #[.int .i64 0, .int .u8 0, .int .i64 2]) ∧ w = w' := by
  by_cases h1 : k < 4
  · clear h
    go_enter Try.func7, Try.ntmps7
    go_wp2
    go_ret3
    exact ⟨rfl, rfl⟩
  · have h2 : 11 < k := by omega
    clear h
    go_enter Try.func7, Try.ntmps7
    go_wp2
    go_ret3
    exact ⟨rfl, rfl⟩

/-! the other text's operations -/
theorem rmul_0 (a b : Int) (w : World) (h : a = 0 ∨ b = 0) : Calls Try.prog 69 #[.int .i64 a, .int .i64 b] w fun e w' => e = .returned (.tuple #[.int .i64 0, .bool true]) ∧ w = w' := by
  by_cases h1 : a = 0
  · subst h1
    go_enter Try.func69, Try.ntmps69
    go_wp2
    go_ret2
    exact ⟨rfl, rfl⟩
  · have h2 : b = 0 := by omega
    subst h2
    have h3 : (a == 0) = false := by simpa using h1
    go_enter Try.func69, Try.ntmps69
    go_wp2
    go_ret2
    exact ⟨rfl, rfl⟩
theorem rmul_m (a b : Int) (w : World) (h : (a = -1 ∧ b = -9223372036854775808) ∨ (b = -1 ∧ a = -9223372036854775808)) : Calls Try.prog 69 #[.int .i64 a, .int .i64 b] w fun e w' => e = .returned (.tuple #[.int .i64 0, .bool false]) ∧ w = w' := by
  rcases h with ⟨rfl, rfl⟩ | ⟨rfl, rfl⟩
  · go_enter Try.func69, Try.ntmps69
    go_wp2
    go_ret2
    exact ⟨rfl, rfl⟩
  · go_enter Try.func69, Try.ntmps69
    go_wp2
    go_ret2
    exact ⟨rfl, rfl⟩
theorem rmul_y (a b : Int) (w : World) (h0 : ¬ a = 0) (h1 : ¬ b = 0) (h2 : (a == -1) = false) (h3 : (b == -1) = false) :
    Calls Try.prog 69 #[.int .i64 a, .int .i64 b] w fun e w' => e = .returned (.tuple #[.int .i64 (wrap64 (a * b)), .bool (wrap64 ((wrap64 (a * b)).tdiv b) == a)]) ∧ ∃ n, w' = w.drewN n := by
  have g0 : (a == 0) = false := by simpa using h0
  have g1 : (b == 0) = false := by simpa using h1
  clear h0
  go_enter Try.func69, Try.ntmps69
  go_wp2
  go_quiet (fail)
  go_wp2
  go_ret2
  exact ⟨rfl, _, rfl⟩
theorem rmul_y1 (a : Int) (w : World) (h0 : ¬ a = 0) (h2 : (a == -1) = false) (h3 : (a == -9223372036854775808) = false) :
    Calls Try.prog 69 #[.int .i64 a, .int .i64 (-1)] w fun e w' => e = .returned (.tuple #[.int .i64 (wrap64 (-a)), .bool (wrap64 (-wrap64 (-a)) == a)]) ∧ ∃ n, w' = w.drewN n := by
  have g0 : (a == 0) = false := by simpa using h0
  clear h0
  go_enter Try.func69, Try.ntmps69
  go_wp2
  go_quiet (fail)
  go_wp2
  go_ret2
  exact ⟨rfl, _, rfl⟩
theorem rmul_y2 (b : Int) (w : World) (h0 : ¬ b = 0) (h2 : (b == -1) = false) (h3 : (b == -9223372036854775808) = false) :
    Calls Try.prog 69 #[.int .i64 (-1), .int .i64 b] w fun e w' => e = .returned (.tuple #[.int .i64 (wrap64 (-b)), .bool (wrap64 ((wrap64 (-b)).tdiv b) == -1)]) ∧ ∃ n, w' = w.drewN n := by
  have g0 : (b == 0) = false := by simpa using h0
  go_enter Try.func69, Try.ntmps69
  go_wp2
  go_quiet (fail)
  go_wp2
  go_ret2
  exact ⟨rfl, _, rfl⟩
theorem rmul_y3 (w : World) :
    Calls Try.prog 69 #[.int .i64 (-1), .int .i64 (-1)] w fun e w' => e = .returned (.tuple #[.int .i64 1, .bool true]) ∧ ∃ n, w' = w.drewN n := by
  go_enter Try.func69, Try.ntmps69
  go_wp2
  go_quiet (fail)
  go_wp2
  go_ret2
  exact ⟨rfl, _, rfl⟩
/-- what the other text's product is: whether it fits; and if it does, the product -/
def MulPost (a b : Int) (w : World) (e : Ending) (w' : World) : Prop := ∃ n : Int, (fits64 (a * b) = true → n = a * b) ∧ e = .returned (.tuple #[.int .i64 n, .bool (fits64 (a * b))]) ∧ Below w.heap.size w w'
theorem rmul_any (a b : Int) (w : World) (ha : is64 a) (hb : is64 b) : Calls Try.prog 69 #[.int .i64 a, .int .i64 b] w (MulPost a b w) := by
  by_cases h0 : a = 0 ∨ b = 0
  · have e0 : a * b = 0 := by rcases h0 with rfl | rfl <;> simp
    have e1 : fits64 (0 : Int) = true := by decide
    exact (rmul_0 a b w h0).mono fun _ _ h => ⟨0, fun _ => e0.symm, by rw [e0, e1]; exact h.1, h.2 ▸ Below.refl _ _⟩
  by_cases hm : (a = -1 ∧ b = -9223372036854775808) ∨ (b = -1 ∧ a = -9223372036854775808)
  · have e1 : fits64 (a * b) = false := by rcases hm with ⟨rfl, rfl⟩ | ⟨rfl, rfl⟩ <;> decide
    exact (rmul_m a b w hm).mono fun _ _ h => ⟨0, fun e => (by rw [e1] at e; cases e), by rw [e1]; exact h.1, h.2 ▸ Below.refl _ _⟩
  have ha0 : ¬ a = 0 := fun h => h0 (.inl h)
  have hb0 : ¬ b = 0 := fun h => h0 (.inr h)
  have ht : wrap64 ((wrap64 (a * b)).tdiv b) = (wrap64 (a * b)).tdiv b := by
    refine wrap_tdiv _ _ (wrap_is64 _) fun h => hm ?_
    obtain ⟨h4, rfl⟩ := h
    refine .inr ⟨rfl, ?_⟩
    unfold is64 at ha
    unfold wrap64 at h4
    omega
  have hfin : (wrap64 ((wrap64 (a * b)).tdiv b) == a) = fits64 (a * b) := by rw [ht]; exact mul_b a b ha hb hb0
  have hval := wrap_fit (a * b)
  by_cases h1 : a = -1
  · by_cases h2 : b = -1
    · subst h1; subst h2
      exact (rmul_y3 w).mono fun _ _ h => ⟨1, fun _ => by decide, by rw [show fits64 (-1 * -1) = true from by decide]; exact h.1, by obtain ⟨n, rfl⟩ := h.2; exact below_drewN (Below.refl _ _) _⟩
    · subst h1
      refine (rmul_y2 b w hb0 (by simpa using h2) (by simpa using fun h => hm (.inl ⟨rfl, h⟩))).mono fun _ _ h => ⟨_, hval, ?_, by obtain ⟨n, rfl⟩ := h.2; exact below_drewN (Below.refl _ _) _⟩
      rw [← hfin, show (-1 : Int) * b = -b from by omega]
      exact h.1
  · by_cases h2 : b = -1
    · subst h2
      refine (rmul_y1 a w ha0 (by simpa using h1) (by simpa using fun h => hm (.inr ⟨rfl, h⟩))).mono fun _ _ h => ⟨_, hval, ?_, by obtain ⟨n, rfl⟩ := h.2; exact below_drewN (Below.refl _ _) _⟩
      rw [← hfin, show a * (-1 : Int) = -a from by omega, Int.tdiv_neg, Int.tdiv_one]
      exact h.1
    · refine (rmul_y a b w ha0 hb0 (by simpa using h1) (by simpa using h2)).mono fun _ _ h => ⟨_, hval, ?_, by obtain ⟨n, rfl⟩ := h.2; exact below_drewN (Below.refl _ _) _⟩
      rw [← hfin]
      exact h.1
end Go.Proofs.Ytjeapacohgfpiaa
