import Derived.Test.YtjeapacohgfpiaaOpsC
namespace Go.Proofs.Ytjeapacohgfpiaa
open Go.RowKit Go.Shelf

def OpPost (k a b : Int) (w : World) (e : Ending) (w' : World) : Prop := e = .returned (.tuple #[.int .i64 (opR k a b), .int .u8 (opW k a b)]) ∧ Below w.heap.size w w'
theorem rop_fit {n x : Int} {w w' : World} {e : Ending} {k a b : Int} (hx : fits64 n = true) (hr : opR k a b = okR (fits64 n) n) (hw : opW k a b = okW (fits64 n)) (hxn : x = n)
    (he : e = .returned (.tuple #[.int .i64 x, .int .u8 0])) (hb : Below w.heap.size w w') : OpPost k a b w e w' := by
  subst hxn
  unfold OpPost
  rw [hr, hw, hx, he]
  exact ⟨rfl, hb⟩
theorem rop_not {n : Int} {w w' : World} {e : Ending} {k a b : Int} (hx : fits64 n = false) (hr : opR k a b = okR (fits64 n) n) (hw : opW k a b = okW (fits64 n))
    (he : e = .returned (.tuple #[.int .i64 0, .int .u8 2])) (hb : Below w.heap.size w w') : OpPost k a b w e w' := by
  unfold OpPost
  rw [hr, hw, hx, he]
  exact ⟨rfl, hb⟩
theorem rop4 (a b : Int) (w : World) (ha : is64 a) : Calls Try.prog 24 #[.int .u8 4, .int .i64 a, .int .i64 b] w (OpPost 4 a b w) := by
  have hn := neg_b a ha
  cases hf : fits64 (-a)
  · rw [hf] at hn
    have H := Lib.hid hf
    clear hf
    go_enter Try.func24, Try.ntmps24
    go_wp2
    go_ret2
    exact rop_not H.out rfl rfl rfl (Below.refl _ _)
  · rw [hf] at hn
    have H := Lib.hid hf
    clear hf
    go_enter Try.func24, Try.ntmps24
    go_wp2
    go_ret2
    exact rop_fit H.out rfl rfl (wrap_fit _ H.out) rfl (Below.refl _ _)
theorem rop5 (a b : Int) (w : World) (ha : is64 a) (hb : is64 b) : Calls Try.prog 24 #[.int .u8 5, .int .i64 a, .int .i64 b] w (OpPost 5 a b w) := by
  have hn := add_b a b ha hb
  cases hf : fits64 (a + b)
  · rw [hf] at hn
    have H := Lib.hid hf
    clear hf
    go_enter Try.func24, Try.ntmps24
    go_wp2
    go_ret2
    exact rop_not H.out rfl rfl rfl (Below.refl _ _)
  · rw [hf] at hn
    have H := Lib.hid hf
    clear hf
    go_enter Try.func24, Try.ntmps24
    go_wp2
    go_ret2
    exact rop_fit H.out rfl rfl (wrap_fit _ H.out) rfl (Below.refl _ _)
theorem rop6 (a b : Int) (w : World) (ha : is64 a) (hb : is64 b) : Calls Try.prog 24 #[.int .u8 6, .int .i64 a, .int .i64 b] w (OpPost 6 a b w) := by
  have hn := sub_b a b ha hb
  cases hf : fits64 (a - b)
  · rw [hf] at hn
    have H := Lib.hid hf
    clear hf
    go_enter Try.func24, Try.ntmps24
    go_wp2
    go_ret2
    exact rop_not H.out rfl rfl rfl (Below.refl _ _)
  · rw [hf] at hn
    have H := Lib.hid hf
    clear hf
    go_enter Try.func24, Try.ntmps24
    go_wp2
    go_ret2
    exact rop_fit H.out rfl rfl (wrap_fit _ H.out) rfl (Below.refl _ _)
theorem rop7 (a b : Int) (w : World) (ha : is64 a) (hb : is64 b) : Calls Try.prog 24 #[.int .u8 7, .int .i64 a, .int .i64 b] w (OpPost 7 a b w) := by
  cases hf : fits64 (a * b)
  · go_enter Try.func24, Try.ntmps24
    go_wp2_with fail
    refine (rmul_any a b w ha hb).mono ?_
    rintro e w1 ⟨n, hn, rfl, hb1⟩
    have hn' := Lib.hid hn
    clear hn
    go_wp2
    go_ret2
    exact rop_not hf rfl rfl rfl hb1
  · go_enter Try.func24, Try.ntmps24
    go_wp2_with fail
    refine (rmul_any a b w ha hb).mono ?_
    rintro e w1 ⟨n, hn, rfl, hb1⟩
    have hn' := Lib.hid (hn hf)
    clear hn
    go_wp2
    go_ret2
    exact rop_fit hf rfl rfl hn'.out rfl hb1
theorem rop8 (a b : Int) (w : World) (ha : is64 a) : Calls Try.prog 24 #[.int .u8 8, .int .i64 a, .int .i64 b] w (OpPost 8 a b w) := by
  by_cases h0 : b = 0
  · subst h0
    go_enter Try.func24, Try.ntmps24
    go_wp2
    go_ret2
    exact ⟨rfl, Below.refl _ _⟩
  have g0 : (b == 0) = false := by simpa using h0
  have hr : opR 8 a b = okR (fits64 (a.tdiv b)) (a.tdiv b) := by simp [opR, h0]
  have hw : opW 8 a b = okW (fits64 (a.tdiv b)) := by simp [opW, h0]
  have HR := Lib.hid hr
  have HW := Lib.hid hw
  clear hr hw
  by_cases h1 : b = -1
  · subst h1
    have hn := neg_b a ha
    cases hf : fits64 (-a)
    · rw [hf] at hn
      have H := Lib.hid hf
      clear hf
      go_enter Try.func24, Try.ntmps24
      go_wp2
      go_ret2
      exact rop_not (n := a.tdiv (-1)) (by rw [Int.tdiv_neg, Int.tdiv_one]; exact H.out) HR.out HW.out rfl (Below.refl _ _)
    · rw [hf] at hn
      have H := Lib.hid hf
      clear hf
      go_enter Try.func24, Try.ntmps24
      go_wp2
      go_ret2
      exact rop_fit (n := a.tdiv (-1)) (by rw [Int.tdiv_neg, Int.tdiv_one]; exact H.out) HR.out HW.out (by rw [Int.tdiv_neg, Int.tdiv_one]; exact wrap_fit _ H.out) rfl (Below.refl _ _)
  · have g1 : (b == -1) = false := by simpa using h1
    have hs := tdiv_small a b ha (fun h => h1 h.2)
    have HF := Lib.hid (fits_of hs)
    have HV := Lib.hid (wrap_tdiv a b ha (fun h => h1 h.2))
    clear hs h1
    go_enter Try.func24, Try.ntmps24
    go_wp2
    go_ret2
    exact rop_fit HF.out HR.out HW.out HV.out rfl (Below.refl _ _)
theorem rop9 (a b : Int) (w : World) : Calls Try.prog 24 #[.int .u8 9, .int .i64 a, .int .i64 b] w (OpPost 9 a b w) := by
  by_cases h0 : b = 0
  · subst h0
    go_enter Try.func24, Try.ntmps24
    go_wp2
    go_ret2
    exact ⟨rfl, Below.refl _ _⟩
  have g0 : (b == 0) = false := by simpa using h0
  have hr : opR 9 a b = a.tmod b := by simp [opR, h0]
  have hw : opW 9 a b = 0 := by simp [opW, h0]
  by_cases h1 : b = -1
  · subst h1
    rw [Int.tmod_neg, Int.tmod_one] at hr
    have HR := Lib.hid hr
    have HW := Lib.hid hw
    clear hr hw
    go_enter Try.func24, Try.ntmps24
    go_wp2
    go_ret2
    exact ⟨by rw [HR.out, HW.out]; rfl, Below.refl _ _⟩
  · have HR := Lib.hid hr
    have HW := Lib.hid hw
    clear hr hw
    have g1 : (b == -1) = false := by simpa using h1
    clear h1
    go_enter Try.func24, Try.ntmps24
    go_wp2
    go_ret2
    exact ⟨by rw [HR.out, HW.out]; rfl, Below.refl _ _⟩
theorem rop10 (a b : Int) (w : World) : Calls Try.prog 24 #[.int .u8 10, .int .i64 a, .int .i64 b] w (OpPost 10 a b w) := by
  by_cases h0 : b < 0
  · go_enter Try.func24, Try.ntmps24
    go_wp2
    go_ret2
    exact ⟨by simp [opR, opW, h0], Below.refl _ _⟩
  by_cases h1 : 63 < b
  · go_enter Try.func24, Try.ntmps24
    go_wp2
    go_ret2
    exact ⟨by simp [opR, opW, h1], Below.refl _ _⟩
  have h0' : 0 ≤ b := by omega
  have h1' : b ≤ 63 := by omega
  have hr : opR 10 a b = okR (fits64 (a * 2 ^ b.toNat)) (a * 2 ^ b.toNat) := by simp [opR]; omega
  have hw : opW 10 a b = okW (fits64 (a * 2 ^ b.toNat)) := by simp [opW]; omega
  have HR := Lib.hid hr
  have HW := Lib.hid hw
  clear hr hw h0 h1
  have hn := shl_b a b h0' h1'
  cases hf : fits64 (a * 2 ^ b.toNat)
  · rw [hf] at hn
    have H := Lib.hid hf
    clear hf
    go_enter Try.func24, Try.ntmps24
    go_wp2
    go_ret2
    exact rop_not H.out HR.out HW.out rfl (Below.refl _ _)
  · rw [hf] at hn
    have H := Lib.hid hf
    clear hf
    go_enter Try.func24, Try.ntmps24
    go_wp2
    go_ret2
    exact rop_fit H.out HR.out HW.out (wrap_fit _ H.out) rfl (Below.refl _ _)
theorem rop11 (a b : Int) (w : World) : Calls Try.prog 24 #[.int .u8 11, .int .i64 a, .int .i64 b] w (OpPost 11 a b w) := by
  by_cases h0 : b < 0
  · go_enter Try.func24, Try.ntmps24
    go_wp2
    go_ret2
    exact ⟨by simp [opR, opW, h0], Below.refl _ _⟩
  by_cases h1 : 63 < b
  · go_enter Try.func24, Try.ntmps24
    go_wp2
    go_ret2
    exact ⟨by simp [opR, opW, h1], Below.refl _ _⟩
  have h0' : 0 ≤ b := by omega
  have h1' : b ≤ 63 := by omega
  have hr : opR 11 a b = a / 2 ^ b.toNat := by simp [opR]; omega
  have hw : opW 11 a b = 0 := by simp [opW]; omega
  have HR := Lib.hid hr
  have HW := Lib.hid hw
  clear hr hw h0 h1
  go_enter Try.func24, Try.ntmps24
  go_wp2
  go_ret2
  exact ⟨by rw [HR.out, HW.out]; rfl, Below.refl _ _⟩
theorem rop_any (k a b : Int) (w : World) (h0 : 4 ≤ k) (h1 : k ≤ 11) (ha : is64 a) (hb : is64 b) : Calls Try.prog 24 #[.int .u8 k, .int .i64 a, .int .i64 b] w (OpPost k a b w) := by
  have hk : k = 4 ∨ k = 5 ∨ k = 6 ∨ k = 7 ∨ k = 8 ∨ k = 9 ∨ k = 10 ∨ k = 11 := by omega
  rcases hk with rfl | rfl | rfl | rfl | rfl | rfl | rfl | rfl
  · exact rop4 a b w ha
  · exact rop5 a b w ha hb
  · exact rop6 a b w ha hb
  · exact rop7 a b w ha hb
  · exact rop8 a b w ha
  · exact rop9 a b w
  · exact rop10 a b w
  · exact rop11 a b w
end Go.Proofs.Ytjeapacohgfpiaa
