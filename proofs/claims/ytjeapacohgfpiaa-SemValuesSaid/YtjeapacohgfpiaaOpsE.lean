import Derived.Test.YtjeapacohgfpiaaOpsD
namespace Go.Proofs.Ytjeapacohgfpiaa
open Go.RowKit Go.Shelf

theorem rapply_any (k a b : Int) (w : World) (h0 : 4 ≤ k) (h1 : k ≤ 11) (ha : is64 a) (hb : is64 b) :
    Calls Try.prog 8 #[.int .u8 k, .int .i64 a, .int .i64 b] w fun e w' => e = .returned (.tuple #[.int .i64 (opR k a b), .int .u8 (opW k a b), .int .i64 0]) ∧ Below w.heap.size w w' := by
  go_enter Try.func8, Try.ntmps8
  go_wp2_with fail
  refine (rop_any k a b _ h0 h1 ha hb).mono ?_
  rintro e w1 ⟨rfl, hb1⟩
  go_wp2_with fail
  go_ret3
  exact ⟨rfl, hb1⟩
theorem rapply_no (k a b : Int) (w : World) (h : k < 4 ∨ 11 < k) :
    Calls Try.prog 8 #[.int .u8 k, .int .i64 a, .int .i64 b] w fun e w' => e = .returned (.tuple #[.int .i64 0, .int .u8 0, .int .i64 2]) ∧ w = w' := by
  by_cases h1 : k < 4
  · clear h
    go_enter Try.func8, Try.ntmps8
    go_wp2
    go_ret3
    exact ⟨rfl, rfl⟩
  · have h2 : 11 < k := by omega
    clear h
    go_enter Try.func8, Try.ntmps8
    go_wp2
    go_ret3
    exact ⟨rfl, rfl⟩

/-- does a comparison hold? -/
def cmpB (k a b : Int) : Bool :=
  if k = 3 then decide (a < b) else if k = 4 then decide (a ≤ b) else if k = 5 then decide (b < a) else if k = 6 then decide (b ≤ a) else if k = 7 then a == b else if k = 8 then a != b else false
/-- may it be asked? -/
def cmpE (k : Int) : Int := if 3 ≤ k ∧ k ≤ 8 then 0 else 2
theorem compare_any (k a b : Int) (w : World) :
    Calls Try.prog 9 #[.int .u8 k, .int .i64 a, .int .i64 b] w fun e w' => e = .returned (.tuple #[.bool (cmpB k a b), .int .i64 (cmpE k)]) ∧ w = w' := by
  by_cases hk : k = 3 ∨ k = 4 ∨ k = 5 ∨ k = 6 ∨ k = 7 ∨ k = 8
  · rcases hk with rfl | rfl | rfl | rfl | rfl | rfl
    all_goals
      go_enter Try.func9, Try.ntmps9
      go_wp2
      go_ret2
      exact ⟨rfl, rfl⟩
  · have h3 : (k == 3) = false := by simp; omega
    have h4 : (k == 4) = false := by simp; omega
    have h5 : (k == 5) = false := by simp; omega
    have h6 : (k == 6) = false := by simp; omega
    have h7 : (k == 7) = false := by simp; omega
    have h8 : (k == 8) = false := by simp; omega
    have e1 : cmpB k 0 0 = false ∧ cmpE k = 2 := by
      have : ¬ (3 ≤ k ∧ k ≤ 8) := by omega
      unfold cmpB cmpE
      simp at h3 h4 h5 h6 h7 h8
      simp [h3, h4, h5, h6, h7, h8, this]
    have e2 : cmpB k a b = false := by
      unfold cmpB
      simp at h3 h4 h5 h6 h7 h8
      simp [h3, h4, h5, h6, h7, h8]
    rw [e1.2, e2]
    clear e1 e2 hk
    go_enter Try.func9, Try.ntmps9
    go_wp2
    go_ret2
    exact ⟨rfl, rfl⟩
theorem holds_any (k a b : Int) (w : World) (h0 : 3 ≤ k) (h1 : k ≤ 8) :
    Calls Try.prog 25 #[.int .u8 k, .int .i64 a, .int .i64 b] w fun e w' => e = .returned (.bool (cmpB k a b)) ∧ w = w' := by
  have hk : k = 3 ∨ k = 4 ∨ k = 5 ∨ k = 6 ∨ k = 7 ∨ k = 8 := by omega
  rcases hk with rfl | rfl | rfl | rfl | rfl | rfl
  all_goals
    go_enter Try.func25, Try.ntmps25
    go_wp2
    go_ret
    exact ⟨rfl, rfl⟩
theorem rcompare_any (k a b : Int) (w : World) :
    Calls Try.prog 10 #[.int .u8 k, .int .i64 a, .int .i64 b] w fun e w' => e = .returned (.tuple #[.bool (cmpB k a b), .int .i64 (cmpE k)]) ∧ w = w' := by
  by_cases h1 : k < 3
  · have e1 : cmpB k a b = false := by
      unfold cmpB
      repeat rw [if_neg (by omega)]
    have e2 : cmpE k = 2 := by unfold cmpE; rw [if_neg (by omega)]
    rw [e1, e2]
    clear e1 e2
    go_enter Try.func10, Try.ntmps10
    go_wp2
    go_ret2
    exact ⟨rfl, rfl⟩
  by_cases h2 : 8 < k
  · have e1 : cmpB k a b = false := by
      unfold cmpB
      repeat rw [if_neg (by omega)]
    have e2 : cmpE k = 2 := by unfold cmpE; rw [if_neg (by omega)]
    rw [e1, e2]
    clear e1 e2
    go_enter Try.func10, Try.ntmps10
    go_wp2
    go_ret2
    exact ⟨rfl, rfl⟩
  have h1' : 3 ≤ k := by omega
  have h2' : k ≤ 8 := by omega
  have e2 : cmpE k = 0 := by unfold cmpE; rw [if_pos (by omega)]
  rw [e2]
  clear e2 h1 h2
  go_enter Try.func10, Try.ntmps10
  go_wp2_with fail
  refine (holds_any k a b _ h1' h2').mono ?_
  rintro e w1 ⟨rfl, rfl⟩
  go_wp2_with fail
  go_ret2
  exact ⟨rfl, rfl⟩
/-- the law's walk, from both sides' answers -/
theorem law_any (k a b : Int) (n r x y z : Int) (w : World)
    (h7 : ∀ w, Calls Try.prog 7 #[.int .u8 k, .int .i64 a, .int .i64 b] w fun e w' => e = .returned (.tuple #[.int .i64 n, .int .u8 r, .int .i64 x]) ∧ Below w.heap.size w w')
    (h8 : ∀ w, Calls Try.prog 8 #[.int .u8 k, .int .i64 a, .int .i64 b] w fun e w' => e = .returned (.tuple #[.int .i64 n, .int .u8 r, .int .i64 x]) ∧ Below w.heap.size w w')
    (hx : x = y) (hz : y = z) (hi : is64 x) :
    Calls Try.prog 3 #[.int .u8 k, .int .i64 a, .int .i64 b] w fun e w' => e = .returned (.bool true) ∧ Below w.heap.size w w' := by
  have H7 := Lib.hid h7
  have H8 := Lib.hid h8
  have hx1 := hi.1
  have hx2 := hi.2
  clear h7 h8 hx hz hi
  go_enter Try.func3, Try.ntmps3
  go_wp2_with fail
  refine (H7.out _).mono ?_
  rintro e w1 ⟨rfl, hb1⟩
  go_wp2_with fail
  refine (H8.out _).mono ?_
  rintro e w2 ⟨rfl, hb2⟩
  go_wp2_with fail
  refine (compare_any k a b _).mono ?_
  rintro e w3 ⟨rfl, rfl⟩
  go_wp2_with fail
  refine (rcompare_any k a b _).mono ?_
  rintro e w3 ⟨rfl, rfl⟩
  go_wp2_with fail
  go_ret
  exact ⟨rfl, hb1.trans (hb2.mono hb1.size)⟩
theorem law_ops (k a b : Int) (w : World) (ha : is64 a) (hb : is64 b) :
    Calls Try.prog 3 #[.int .u8 k, .int .i64 a, .int .i64 b] w fun e w' => e = .returned (.bool true) ∧ Below w.heap.size w w' := by
  by_cases h : k < 4 ∨ 11 < k
  · exact law_any k a b 0 0 2 2 2 w (fun w => (apply_no k a b w h).mono fun _ _ h => ⟨h.1, h.2 ▸ Below.refl _ _⟩) (fun w => (rapply_no k a b w h).mono fun _ _ h => ⟨h.1, h.2 ▸ Below.refl _ _⟩) rfl rfl (by unfold is64; omega)
  · exact law_any k a b _ _ 0 0 0 w (fun w => apply_any k a b w (by omega) (by omega) ha hb) (fun w => rapply_any k a b w (by omega) (by omega) ha hb) rfl rfl (by unfold is64; omega)
end Go.Proofs.Ytjeapacohgfpiaa
