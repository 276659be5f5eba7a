import Derived.Test.YtdflbaipbmkdgaaJnOpA
import Derived.Shelf.Abstract
namespace Go.Proofs.Ytdflbaipbmkdgaa
open Go.RowKit Go.Shelf
set_option linter.unusedVariables false
set_option linter.unusedSimpArgs false

/-- the table of operations, as a value -/
def opTab : Value := .agg #[.nilFunc, .nilFunc, .nilFunc, .nilFunc, .func (.func 61) #[] #[], .func (.func 63) #[] #[], .func (.func 64) #[] #[], .func (.func 65) #[] #[], .func (.func 66) #[] #[], .func (.func 68) #[] #[], .func (.func 69) #[] #[], .func (.func 72) #[] #[]]
theorem ops_any (w : World) : Calls Try.prog 59 #[] w fun e w' => e = .returned opTab ∧ Below w.heap.size w w' := by
  go_enter Try.func59, Try.ntmps59
  go_wp2
  exact bodyPost_ret (v := opTab) (by simp [opTab, results, Try.results59, go_sem]) rfl ⟨rfl, (Below.refl _ _).alloc (Nat.le_refl _) _⟩
theorem apply_at (k a b : Int) (g : Nat) (n r : Int) (w : World) (h0 : 4 ≤ k) (h1 : k ≤ 11)
    (hidx : ∀ w, (Instr.index 109 opTab (.int .u8 k)).run Try.prog w = .ok (.func (.func g) #[] #[]) w)
    (hent : ∀ (args : Array Value) (w : World), (callFunc g args).run Try.prog w = .ok (.enter g args) w)
    (hg : ∀ w, Calls Try.prog g #[.int .i64 a, .int .i64 b] w fun e w' => e = .returned (.tuple #[.int .i64 n, .int .u8 r]) ∧ Below w.heap.size w w') :
    Calls Try.prog 51 #[.int .u8 k, .int .i64 a, .int .i64 b] w fun e w' => e = .returned (.tuple #[.int .i64 n, .int .u8 r, .int .i64 0]) ∧ Below w.heap.size w w' := by
  have HG := Lib.hid hg
  clear hg
  go_enter Try.func51, Try.ntmps51
  go_wp2_with fail
  refine (ops_any _).mono ?_
  rintro e w1 ⟨rfl, hb1⟩
  go_wp2_with fail
  refine (HG.out _).mono ?_
  rintro e w2 ⟨rfl, hb2⟩
  go_wp2_with fail
  go_ret3
  exact ⟨rfl, hb1.trans (hb2.mono hb1.size)⟩

theorem apply_any (k a b : Int) (w : World) (h0 : 4 ≤ k) (h1 : k ≤ 11) (ha : is64 a) (hb : is64 b) :
    Calls Try.prog 51 #[.int .u8 k, .int .i64 a, .int .i64 b] w fun e w' => e = .returned (.tuple #[.int .i64 (opR k a b), .int .u8 (opW k a b), .int .i64 0]) ∧ Below w.heap.size w w' := by
  have hk : k = 4 ∨ k = 5 ∨ k = 6 ∨ k = 7 ∨ k = 8 ∨ k = 9 ∨ k = 10 ∨ k = 11 := by omega
  rcases hk with rfl | rfl | rfl | rfl | rfl | rfl | rfl | rfl
  · exact apply_at 4 a b 61 _ _ w h0 h1 (fun _ => by kernel_rfl) (enters_of Try.func61 (by kernel_rfl) rfl) fun w => (neg_any a b w ha).mono fun _ _ h => ⟨h.1, h.2 ▸ Below.refl _ _⟩
  · exact apply_at 5 a b 63 _ _ w h0 h1 (fun _ => by kernel_rfl) (enters_of Try.func63 (by kernel_rfl) rfl) fun w => (add_any a b w ha hb).mono fun _ _ h => ⟨h.1, h.2 ▸ Below.refl _ _⟩
  · exact apply_at 6 a b 64 _ _ w h0 h1 (fun _ => by kernel_rfl) (enters_of Try.func64 (by kernel_rfl) rfl) fun w => (sub_any a b w ha hb).mono fun _ _ h => ⟨h.1, h.2 ▸ Below.refl _ _⟩
  · exact apply_at 7 a b 65 _ _ w h0 h1 (fun _ => by kernel_rfl) (enters_of Try.func65 (by kernel_rfl) rfl) fun w => (times_any a b w ha hb).mono fun _ _ h => ⟨h.1, h.2 ▸ Below.refl _ _⟩
  · exact apply_at 8 a b 66 _ _ w h0 h1 (fun _ => by kernel_rfl) (enters_of Try.func66 (by kernel_rfl) rfl) fun w => div_any a b w ha
  · exact apply_at 9 a b 68 _ _ w h0 h1 (fun _ => by kernel_rfl) (enters_of Try.func68 (by kernel_rfl) rfl) fun w => mod_any a b w ha
  · by_cases h : b < 0 ∨ 63 < b
    · exact apply_at 10 a b 69 _ _ w h0 h1 (fun _ => by kernel_rfl) (enters_of Try.func69 (by kernel_rfl) rfl) fun w => shl_no a b w h
    · exact apply_at 10 a b 69 _ _ w h0 h1 (fun _ => by kernel_rfl) (enters_of Try.func69 (by kernel_rfl) rfl) fun w => shl_yes a b w (by omega) (by omega)
  · by_cases h : b < 0 ∨ 63 < b
    · exact apply_at 11 a b 72 _ _ w h0 h1 (fun _ => by kernel_rfl) (enters_of Try.func72 (by kernel_rfl) rfl) fun w => shr_no a b w h
    · exact apply_at 11 a b 72 _ _ w h0 h1 (fun _ => by kernel_rfl) (enters_of Try.func72 (by kernel_rfl) rfl) fun w => shr_yes a b w (by omega) (by omega)
theorem apply_no (k a b : Int) (w : World) (h : k < 4 ∨ 11 < k) :
    Calls Try.prog 51 #[.int .u8 k, .int .i64 a, .int .i64 b] w fun e w' => e = .returned (.tuple #[.int .i64 0, .int .u8 0, .int .i64 2]) ∧ w = w' := by
  by_cases h1 : k < 4
  · clear h
    go_enter Try.func51, Try.ntmps51
    go_wp2
    go_ret3
    exact ⟨rfl, rfl⟩
  · have h2 : 11 < k := by omega
    clear h
    go_enter Try.func51, Try.ntmps51
    go_wp2
    go_ret3
    exact ⟨rfl, rfl⟩

/-! the other text's operations -/
theorem rmul_0 (a b : Int) (w : World) (h : a = 0 ∨ b = 0) : Calls Try.prog 74 #[.int .i64 a, .int .i64 b] w fun e w' => e = .returned (.tuple #[.int .i64 0, .bool true]) ∧ w = w' := by
  by_cases h1 : a = 0
  · subst h1
    go_enter Try.func74, Try.ntmps74
    go_wp2
    go_ret2
    exact ⟨rfl, rfl⟩
  · have h2 : b = 0 := by omega
    subst h2
    have h3 : (a == 0) = false := by simpa using h1
    go_enter Try.func74, Try.ntmps74
    go_wp2
    go_ret2
    exact ⟨rfl, rfl⟩
theorem rmul_m (a b : Int) (w : World) (h : (a = -1 ∧ b = -9223372036854775808) ∨ (b = -1 ∧ a = -9223372036854775808)) : Calls Try.prog 74 #[.int .i64 a, .int .i64 b] w fun e w' => e = .returned (.tuple #[.int .i64 0, .bool false]) ∧ w = w' := by
  rcases h with ⟨rfl, rfl⟩ | ⟨rfl, rfl⟩
  · go_enter Try.func74, Try.ntmps74
    go_wp2
    go_ret2
    exact ⟨rfl, rfl⟩
  · go_enter Try.func74, Try.ntmps74
    go_wp2
    go_ret2
    exact ⟨rfl, rfl⟩
theorem rmul_y (a b : Int) (w : World) (h0 : ¬ a = 0) (h1 : ¬ b = 0) (h2 : (a == -1) = false) (h3 : (b == -1) = false) :
    Calls Try.prog 74 #[.int .i64 a, .int .i64 b] w fun e w' => e = .returned (.tuple #[.int .i64 (wrap64 (a * b)), .bool (wrap64 ((wrap64 (a * b)).tdiv b) == a)]) ∧ ∃ n, w' = w.drewN n := by
  have g0 : (a == 0) = false := by simpa using h0
  have g1 : (b == 0) = false := by simpa using h1
  clear h0
  go_enter Try.func74, Try.ntmps74
  go_wp2
  go_quiet (fail)
  go_wp2
  go_ret2
  exact ⟨rfl, _, rfl⟩
theorem rmul_y1 (a : Int) (w : World) (h0 : ¬ a = 0) (h2 : (a == -1) = false) (h3 : (a == -9223372036854775808) = false) :
    Calls Try.prog 74 #[.int .i64 a, .int .i64 (-1)] w fun e w' => e = .returned (.tuple #[.int .i64 (wrap64 (-a)), .bool (wrap64 (-wrap64 (-a)) == a)]) ∧ ∃ n, w' = w.drewN n := by
  have g0 : (a == 0) = false := by simpa using h0
  clear h0
  go_enter Try.func74, Try.ntmps74
  go_wp2
  go_quiet (fail)
  go_wp2
  go_ret2
  exact ⟨rfl, _, rfl⟩
theorem rmul_y2 (b : Int) (w : World) (h0 : ¬ b = 0) (h2 : (b == -1) = false) (h3 : (b == -9223372036854775808) = false) :
    Calls Try.prog 74 #[.int .i64 (-1), .int .i64 b] w fun e w' => e = .returned (.tuple #[.int .i64 (wrap64 (-b)), .bool (wrap64 ((wrap64 (-b)).tdiv b) == -1)]) ∧ ∃ n, w' = w.drewN n := by
  have g0 : (b == 0) = false := by simpa using h0
  go_enter Try.func74, Try.ntmps74
  go_wp2
  go_quiet (fail)
  go_wp2
  go_ret2
  exact ⟨rfl, _, rfl⟩
theorem rmul_y3 (w : World) :
    Calls Try.prog 74 #[.int .i64 (-1), .int .i64 (-1)] w fun e w' => e = .returned (.tuple #[.int .i64 1, .bool true]) ∧ ∃ n, w' = w.drewN n := by
  go_enter Try.func74, Try.ntmps74
  go_wp2
  go_quiet (fail)
  go_wp2
  go_ret2
  exact ⟨rfl, _, rfl⟩
/-- what the other text's product is: whether it fits; and if it does, the product -/
def MulPost (a b : Int) (w : World) (e : Ending) (w' : World) : Prop := ∃ n : Int, (fits64 (a * b) = true → n = a * b) ∧ e = .returned (.tuple #[.int .i64 n, .bool (fits64 (a * b))]) ∧ Below w.heap.size w w'
theorem rmul_any (a b : Int) (w : World) (ha : is64 a) (hb : is64 b) : Calls Try.prog 74 #[.int .i64 a, .int .i64 b] w (MulPost a b w) := by
  by_cases h0 : a = 0 ∨ b = 0
  · have e0 : a * b = 0 := by rcases h0 with rfl | rfl <;> simp
    have e1 : fits64 (0 : Int) = true := by decide
    exact (rmul_0 a b w h0).mono fun _ _ h => ⟨0, fun _ => e0.symm, by rw [e0, e1]; exact h.1, h.2 ▸ Below.refl _ _⟩
  by_cases hm : (a = -1 ∧ b = -9223372036854775808) ∨ (b = -1 ∧ a = -9223372036854775808)
  · have e1 : fits64 (a * b) = false := by rcases hm with ⟨rfl, rfl⟩ | ⟨rfl, rfl⟩ <;> decide
    exact (rmul_m a b w hm).mono fun _ _ h => ⟨0, fun e => (by rw [e1] at e; cases e), by rw [e1]; exact h.1, h.2 ▸ Below.refl _ _⟩
  have ha0 : ¬ a = 0 := fun h => h0 (.inl h)
  have hb0 : ¬ b = 0 := fun h => h0 (.inr h)
  have ht : wrap64 ((wrap64 (a * b)).tdiv b) = (wrap64 (a * b)).tdiv b := by
    refine wrap_tdiv _ _ (wrap_is64 _) fun h => hm ?_
    obtain ⟨h4, rfl⟩ := h
    refine .inr ⟨rfl, ?_⟩
    unfold is64 at ha
    unfold wrap64 at h4
    omega
  have hfin : (wrap64 ((wrap64 (a * b)).tdiv b) == a) = fits64 (a * b) := by rw [ht]; exact mul_b a b ha hb hb0
  have hval := wrap_fit (a * b)
  by_cases h1 : a = -1
  · by_cases h2 : b = -1
    · subst h1; subst h2
      exact (rmul_y3 w).mono fun _ _ h => ⟨1, fun _ => by decide, by rw [show fits64 (-1 * -1) = true from by decide]; exact h.1, by obtain ⟨n, rfl⟩ := h.2; exact below_drewN (Below.refl _ _) _⟩
    · subst h1
      refine (rmul_y2 b w hb0 (by simpa using h2) (by simpa using fun h => hm (.inl ⟨rfl, h⟩))).mono fun _ _ h => ⟨_, hval, ?_, by obtain ⟨n, rfl⟩ := h.2; exact below_drewN (Below.refl _ _) _⟩
      rw [← hfin, show (-1 : Int) * b = -b from by omega]
      exact h.1
  · by_cases h2 : b = -1
    · subst h2
      refine (rmul_y1 a w ha0 (by simpa using h1) (by simpa using fun h => hm (.inr ⟨rfl, h⟩))).mono fun _ _ h => ⟨_, hval, ?_, by obtain ⟨n, rfl⟩ := h.2; exact below_drewN (Below.refl _ _) _⟩
      rw [← hfin, show a * (-1 : Int) = -a from by omega, Int.tdiv_neg, Int.tdiv_one]
      exact h.1
    · refine (rmul_y a b w ha0 hb0 (by simpa using h1) (by simpa using h2)).mono fun _ _ h => ⟨_, hval, ?_, by obtain ⟨n, rfl⟩ := h.2; exact below_drewN (Below.refl _ _) _⟩
      rw [← hfin]
      exact h.1
end Go.Proofs.Ytdflbaipbmkdgaa

namespace Go.Proofs.Ytdflbaipbmkdgaa
open Go.RowKit Go.Shelf
set_option linter.unusedVariables false
set_option linter.unusedSimpArgs false

def OpPost (k a b : Int) (w : World) (e : Ending) (w' : World) : Prop := e = .returned (.tuple #[.int .i64 (opR k a b), .int .u8 (opW k a b)]) ∧ Below w.heap.size w w'
theorem rop_fit {n x : Int} {w w' : World} {e : Ending} {k a b : Int} (hx : fits64 n = true) (hr : opR k a b = okR (fits64 n) n) (hw : opW k a b = okW (fits64 n)) (hxn : x = n)
    (he : e = .returned (.tuple #[.int .i64 x, .int .u8 0])) (hb : Below w.heap.size w w') : OpPost k a b w e w' := by
  subst hxn
  unfold OpPost
  rw [hr, hw, hx, he]
  exact ⟨rfl, hb⟩
theorem rop_not {n : Int} {w w' : World} {e : Ending} {k a b : Int} (hx : fits64 n = false) (hr : opR k a b = okR (fits64 n) n) (hw : opW k a b = okW (fits64 n))
    (he : e = .returned (.tuple #[.int .i64 0, .int .u8 2])) (hb : Below w.heap.size w w') : OpPost k a b w e w' := by
  unfold OpPost
  rw [hr, hw, hx, he]
  exact ⟨rfl, hb⟩
theorem rop4 (a b : Int) (w : World) (ha : is64 a) : Calls Try.prog 60 #[.int .u8 4, .int .i64 a, .int .i64 b] w (OpPost 4 a b w) := by
  have hn := neg_b a ha
  cases hf : fits64 (-a)
  · rw [hf] at hn
    have H := Lib.hid hf
    clear hf
    go_enter Try.func60, Try.ntmps60
    go_wp2
    go_ret2
    exact rop_not H.out rfl rfl rfl (Below.refl _ _)
  · rw [hf] at hn
    have H := Lib.hid hf
    clear hf
    go_enter Try.func60, Try.ntmps60
    go_wp2
    go_ret2
    exact rop_fit H.out rfl rfl (wrap_fit _ H.out) rfl (Below.refl _ _)
theorem rop5 (a b : Int) (w : World) (ha : is64 a) (hb : is64 b) : Calls Try.prog 60 #[.int .u8 5, .int .i64 a, .int .i64 b] w (OpPost 5 a b w) := by
  have hn := add_b a b ha hb
  cases hf : fits64 (a + b)
  · rw [hf] at hn
    have H := Lib.hid hf
    clear hf
    go_enter Try.func60, Try.ntmps60
    go_wp2
    go_ret2
    exact rop_not H.out rfl rfl rfl (Below.refl _ _)
  · rw [hf] at hn
    have H := Lib.hid hf
    clear hf
    go_enter Try.func60, Try.ntmps60
    go_wp2
    go_ret2
    exact rop_fit H.out rfl rfl (wrap_fit _ H.out) rfl (Below.refl _ _)
theorem rop6 (a b : Int) (w : World) (ha : is64 a) (hb : is64 b) : Calls Try.prog 60 #[.int .u8 6, .int .i64 a, .int .i64 b] w (OpPost 6 a b w) := by
  have hn := sub_b a b ha hb
  cases hf : fits64 (a - b)
  · rw [hf] at hn
    have H := Lib.hid hf
    clear hf
    go_enter Try.func60, Try.ntmps60
    go_wp2
    go_ret2
    exact rop_not H.out rfl rfl rfl (Below.refl _ _)
  · rw [hf] at hn
    have H := Lib.hid hf
    clear hf
    go_enter Try.func60, Try.ntmps60
    go_wp2
    go_ret2
    exact rop_fit H.out rfl rfl (wrap_fit _ H.out) rfl (Below.refl _ _)
theorem rop7 (a b : Int) (w : World) (ha : is64 a) (hb : is64 b) : Calls Try.prog 60 #[.int .u8 7, .int .i64 a, .int .i64 b] w (OpPost 7 a b w) := by
  cases hf : fits64 (a * b)
  · go_enter Try.func60, Try.ntmps60
    go_wp2_with fail
    refine (rmul_any a b w ha hb).mono ?_
    rintro e w1 ⟨n, hn, rfl, hb1⟩
    have hn' := Lib.hid hn
    clear hn
    go_wp2
    go_ret2
    exact rop_not hf rfl rfl rfl hb1
  · go_enter Try.func60, Try.ntmps60
    go_wp2_with fail
    refine (rmul_any a b w ha hb).mono ?_
    rintro e w1 ⟨n, hn, rfl, hb1⟩
    have hn' := Lib.hid (hn hf)
    clear hn
    go_wp2
    go_ret2
    exact rop_fit hf rfl rfl hn'.out rfl hb1
theorem rop8 (a b : Int) (w : World) (ha : is64 a) : Calls Try.prog 60 #[.int .u8 8, .int .i64 a, .int .i64 b] w (OpPost 8 a b w) := by
  by_cases h0 : b = 0
  · subst h0
    go_enter Try.func60, Try.ntmps60
    go_wp2
    go_ret2
    exact ⟨rfl, Below.refl _ _⟩
  have g0 : (b == 0) = false := by simpa using h0
  have hr : opR 8 a b = okR (fits64 (a.tdiv b)) (a.tdiv b) := by simp [opR, h0]
  have hw : opW 8 a b = okW (fits64 (a.tdiv b)) := by simp [opW, h0]
  have HR := Lib.hid hr
  have HW := Lib.hid hw
  clear hr hw
  by_cases h1 : b = -1
  · subst h1
    have hn := neg_b a ha
    cases hf : fits64 (-a)
    · rw [hf] at hn
      have H := Lib.hid hf
      clear hf
      go_enter Try.func60, Try.ntmps60
      go_wp2
      go_ret2
      exact rop_not (n := a.tdiv (-1)) (by rw [Int.tdiv_neg, Int.tdiv_one]; exact H.out) HR.out HW.out rfl (Below.refl _ _)
    · rw [hf] at hn
      have H := Lib.hid hf
      clear hf
      go_enter Try.func60, Try.ntmps60
      go_wp2
      go_ret2
      exact rop_fit (n := a.tdiv (-1)) (by rw [Int.tdiv_neg, Int.tdiv_one]; exact H.out) HR.out HW.out (by rw [Int.tdiv_neg, Int.tdiv_one]; exact wrap_fit _ H.out) rfl (Below.refl _ _)
  · have g1 : (b == -1) = false := by simpa using h1
    have hs := tdiv_small a b ha (fun h => h1 h.2)
    have HF := Lib.hid (fits_of hs)
    have HV := Lib.hid (wrap_tdiv a b ha (fun h => h1 h.2))
    clear hs h1
    go_enter Try.func60, Try.ntmps60
    go_wp2
    go_ret2
    exact rop_fit HF.out HR.out HW.out HV.out rfl (Below.refl _ _)
theorem rop9 (a b : Int) (w : World) : Calls Try.prog 60 #[.int .u8 9, .int .i64 a, .int .i64 b] w (OpPost 9 a b w) := by
  by_cases h0 : b = 0
  · subst h0
    go_enter Try.func60, Try.ntmps60
    go_wp2
    go_ret2
    exact ⟨rfl, Below.refl _ _⟩
  have g0 : (b == 0) = false := by simpa using h0
  have hr : opR 9 a b = a.tmod b := by simp [opR, h0]
  have hw : opW 9 a b = 0 := by simp [opW, h0]
  by_cases h1 : b = -1
  · subst h1
    rw [Int.tmod_neg, Int.tmod_one] at hr
    have HR := Lib.hid hr
    have HW := Lib.hid hw
    clear hr hw
    go_enter Try.func60, Try.ntmps60
    go_wp2
    go_ret2
    exact ⟨by rw [HR.out, HW.out]; rfl, Below.refl _ _⟩
  · have HR := Lib.hid hr
    have HW := Lib.hid hw
    clear hr hw
    have g1 : (b == -1) = false := by simpa using h1
    clear h1
    go_enter Try.func60, Try.ntmps60
    go_wp2
    go_ret2
    exact ⟨by rw [HR.out, HW.out]; rfl, Below.refl _ _⟩
theorem rop10 (a b : Int) (w : World) : Calls Try.prog 60 #[.int .u8 10, .int .i64 a, .int .i64 b] w (OpPost 10 a b w) := by
  by_cases h0 : b < 0
  · go_enter Try.func60, Try.ntmps60
    go_wp2
    go_ret2
    exact ⟨by simp [opR, opW, h0], Below.refl _ _⟩
  by_cases h1 : 63 < b
  · go_enter Try.func60, Try.ntmps60
    go_wp2
    go_ret2
    exact ⟨by simp [opR, opW, h1], Below.refl _ _⟩
  have h0' : 0 ≤ b := by omega
  have h1' : b ≤ 63 := by omega
  have hr : opR 10 a b = okR (fits64 (a * 2 ^ b.toNat)) (a * 2 ^ b.toNat) := by simp [opR]; omega
  have hw : opW 10 a b = okW (fits64 (a * 2 ^ b.toNat)) := by simp [opW]; omega
  have HR := Lib.hid hr
  have HW := Lib.hid hw
  clear hr hw h0 h1
  have hn := shl_b a b h0' h1'
  cases hf : fits64 (a * 2 ^ b.toNat)
  · rw [hf] at hn
    have H := Lib.hid hf
    clear hf
    go_enter Try.func60, Try.ntmps60
    go_wp2
    go_ret2
    exact rop_not H.out HR.out HW.out rfl (Below.refl _ _)
  · rw [hf] at hn
    have H := Lib.hid hf
    clear hf
    go_enter Try.func60, Try.ntmps60
    go_wp2
    go_ret2
    exact rop_fit H.out HR.out HW.out (wrap_fit _ H.out) rfl (Below.refl _ _)
theorem rop11 (a b : Int) (w : World) : Calls Try.prog 60 #[.int .u8 11, .int .i64 a, .int .i64 b] w (OpPost 11 a b w) := by
  by_cases h0 : b < 0
  · go_enter Try.func60, Try.ntmps60
    go_wp2
    go_ret2
    exact ⟨by simp [opR, opW, h0], Below.refl _ _⟩
  by_cases h1 : 63 < b
  · go_enter Try.func60, Try.ntmps60
    go_wp2
    go_ret2
    exact ⟨by simp [opR, opW, h1], Below.refl _ _⟩
  have h0' : 0 ≤ b := by omega
  have h1' : b ≤ 63 := by omega
  have hr : opR 11 a b = a / 2 ^ b.toNat := by simp [opR]; omega
  have hw : opW 11 a b = 0 := by simp [opW]; omega
  have HR := Lib.hid hr
  have HW := Lib.hid hw
  clear hr hw h0 h1
  go_enter Try.func60, Try.ntmps60
  go_wp2
  go_ret2
  exact ⟨by rw [HR.out, HW.out]; rfl, Below.refl _ _⟩
theorem rop_any (k a b : Int) (w : World) (h0 : 4 ≤ k) (h1 : k ≤ 11) (ha : is64 a) (hb : is64 b) : Calls Try.prog 60 #[.int .u8 k, .int .i64 a, .int .i64 b] w (OpPost k a b w) := by
  have hk : k = 4 ∨ k = 5 ∨ k = 6 ∨ k = 7 ∨ k = 8 ∨ k = 9 ∨ k = 10 ∨ k = 11 := by omega
  rcases hk with rfl | rfl | rfl | rfl | rfl | rfl | rfl | rfl
  · exact rop4 a b w ha
  · exact rop5 a b w ha hb
  · exact rop6 a b w ha hb
  · exact rop7 a b w ha hb
  · exact rop8 a b w ha
  · exact rop9 a b w
  · exact rop10 a b w
  · exact rop11 a b w
end Go.Proofs.Ytdflbaipbmkdgaa

namespace Go.Proofs.Ytdflbaipbmkdgaa
open Go.RowKit Go.Shelf
set_option linter.unusedVariables false
set_option linter.unusedSimpArgs false

/-- does a comparison hold? -/
def cmpB (k a b : Int) : Bool :=
  if k = 3 then decide (a < b) else if k = 4 then decide (a ≤ b) else if k = 5 then decide (b < a) else if k = 6 then decide (b ≤ a) else if k = 7 then a == b else if k = 8 then a != b else false
/-- may it be asked? -/
def cmpE (k : Int) : Int := if 3 ≤ k ∧ k ≤ 8 then 0 else 2
theorem compare_any (k a b : Int) (w : World) :
    Calls Try.prog 32 #[.int .u8 k, .int .i64 a, .int .i64 b] w fun e w' => e = .returned (.tuple #[.bool (cmpB k a b), .int .i64 (cmpE k)]) ∧ w = w' := by
  by_cases hk : k = 3 ∨ k = 4 ∨ k = 5 ∨ k = 6 ∨ k = 7 ∨ k = 8
  · rcases hk with rfl | rfl | rfl | rfl | rfl | rfl
    all_goals
      go_enter Try.func32, Try.ntmps32
      go_wp2
      go_ret2
      exact ⟨rfl, rfl⟩
  · have h3 : (k == 3) = false := by simp; omega
    have h4 : (k == 4) = false := by simp; omega
    have h5 : (k == 5) = false := by simp; omega
    have h6 : (k == 6) = false := by simp; omega
    have h7 : (k == 7) = false := by simp; omega
    have h8 : (k == 8) = false := by simp; omega
    have e1 : cmpB k 0 0 = false ∧ cmpE k = 2 := by
      have : ¬ (3 ≤ k ∧ k ≤ 8) := by omega
      unfold cmpB cmpE
      simp at h3 h4 h5 h6 h7 h8
      simp [h3, h4, h5, h6, h7, h8, this]
    have e2 : cmpB k a b = false := by
      unfold cmpB
      simp at h3 h4 h5 h6 h7 h8
      simp [h3, h4, h5, h6, h7, h8]
    rw [e1.2, e2]
    clear e1 e2 hk
    go_enter Try.func32, Try.ntmps32
    go_wp2
    go_ret2
    exact ⟨rfl, rfl⟩
theorem holds_any (k a b : Int) (w : World) (h0 : 3 ≤ k) (h1 : k ≤ 8) :
    Calls Try.prog 41 #[.int .u8 k, .int .i64 a, .int .i64 b] w fun e w' => e = .returned (.bool (cmpB k a b)) ∧ w = w' := by
  have hk : k = 3 ∨ k = 4 ∨ k = 5 ∨ k = 6 ∨ k = 7 ∨ k = 8 := by omega
  rcases hk with rfl | rfl | rfl | rfl | rfl | rfl
  all_goals
    go_enter Try.func41, Try.ntmps41
    go_wp2
    go_ret
    exact ⟨rfl, rfl⟩
end Go.Proofs.Ytdflbaipbmkdgaa
