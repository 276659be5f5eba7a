/-
  ref08.Name.
-/
import Derived.Test.YtknckiblofochaaDoorLrKey
namespace Go.Proofs.YtknckiblofochaaDoor
open Go.RowKit Go.Shelf
set_option linter.unusedVariables false
set_option linter.unusedSimpArgs false

set_option maxRecDepth 100000 in
set_option maxHeartbeats 3200000 in
theorem rname_any (s : ByteArray) (hs : s.size ≤ 100000) (w : World) : Calls Tryd.prog 15 #[.string s] w fun e w' => e = .returned (.bool (nameB s.data.toList)) ∧ Below w.heap.size w w' := by
  obtain ⟨q, hq⟩ : ∃ q, q = nameB s.data.toList := ⟨_, rfl⟩
  have hle := runB_le isWd s.data.toList
  rw [size_len] at hle
  rw [← hq]
  unfold nameB at hq
  rw [size_len] at hq
  by_cases h1 : s.size < 1
  · have hf : q = false := by rw [hq, decide_eq_false (show ¬ 0 < runB isWd s.data.toList by omega)]; simp
    clear hq
    have HF := Lib.hid hf
    clear hf
    go_enter Tryd.func15, Tryd.ntmps15
    go_wp2
    go_ret
    exact ⟨by rw [HF.out]; rfl, Below.refl _ _⟩
  by_cases h2 : 16 < s.size
  · have hf : q = false := by
      rw [hq]
      by_cases hr : runB isWd s.data.toList = s.size
      · rw [decide_eq_false (show ¬ runB isWd s.data.toList ≤ 16 by omega)]; simp
      · simp [hr]
    clear hq
    have HF := Lib.hid hf
    clear hf
    go_enter Tryd.func15, Tryd.ntmps15
    go_wp2
    go_ret
    exact ⟨by rw [HF.out]; rfl, Below.refl _ _⟩
  have h0 : 0 < s.size := by omega
  rw [head_at s h0] at hq
  have hL : ∀ W, Calls Tryd.prog 26 #[.int .u8 (s[0]'h0).toNat] W fun e w' => e = .returned (.bool (isLet (s[0]'h0))) ∧ W = w' := fun W => by
    have := rletter_any ((s[0]'h0).toNat : Int) W
    rw [low_l] at this; exact this
  have hb0 := byte_at s 0 h0
  cases hl : isLet (s[0]'h0)
  · have hf : q = false := by
      rw [hq]
      cases hd : isDig (s[0]'h0)
      · have : runB isWd s.data.toList = 0 := runB_stop hb0 (by unfold isWd; rw [hl, hd]; rfl) (Nat.zero_le _)
        rw [this]; simp
      · simp
    rw [hl] at hL
    have HL := Lib.hid hL
    have HF := Lib.hid hf
    clear hL hf hq hb0 hl
    go_enter Tryd.func15, Tryd.ntmps15
    go_wp2_with fail
    refine (HL.out _).mono ?_
    rintro _ w1 ⟨rfl, rfl⟩
    go_wp2_with fail
    go_ret
    exact ⟨by rw [HF.out]; rfl, Below.refl _ _⟩
  · have hnd : isDig (s[0]'h0) = false := by
      unfold isLet at hl
      unfold isDig
      simp only [Bool.or_eq_true, Bool.and_eq_true, decide_eq_true_eq, beq_iff_eq] at hl
      simp; omega
    rw [hnd] at hq
    rw [hl] at hL
    have hK := fun W => rkeyword_any s W
    cases hk : keyB s.data.toList
    · rw [hk] at hK hq
      have hq2 : q = (runB isWd s.data.toList == s.size) := by
        rw [hq]
        by_cases hr : runB isWd s.data.toList = s.size
        · rw [hr]; simp; omega
        · rw [show (runB isWd s.data.toList == s.size) = false by simpa using hr]; rfl
      have HL := Lib.hid hL
      have HK := Lib.hid hK
      have HQ := Lib.hid hq2
      clear hL hK hq hq2 hb0 hl hnd
      go_enter Tryd.func15, Tryd.ntmps15
      go_wp2_with fail
      refine (HL.out _).mono ?_
      rintro _ w1 ⟨rfl, rfl⟩
      go_wp2_with fail
      refine (HK.out _).mono ?_
      rintro _ w1 ⟨rfl, hb1⟩
      have HB1 := Lib.hid hb1
      clear hb1
      go_wp2_with fail
      go_loop [3] (fun i => ∃ k : Nat, k ≤ runB isWd s.data.toList ∧ i = .int .i64 k) (fun i => s.size - (intOf i).toNat)
      case atStart => exact ⟨0, Nat.zero_le _, rfl⟩
      case round =>
        obtain ⟨k, hkr, rfl⟩ := hrel
        by_cases hend : k < s.size
        · have hb := byte_at s k hend
          have hLk : ∀ W, Calls Tryd.prog 26 #[.int .u8 (s[k]'hend).toNat] W fun e w' => e = .returned (.bool (isLet (s[k]'hend))) ∧ W = w' := fun W => by
            have := rletter_any ((s[k]'hend).toNat : Int) W
            rw [low_l] at this; exact this
          have hDk : ∀ W, Calls Tryd.prog 27 #[.int .u8 (s[k]'hend).toNat] W fun e w' => e = .returned (.bool (isDig (s[k]'hend))) ∧ W = w' := fun W => by
            have := rdigit_any ((s[k]'hend).toNat : Int) W
            rw [low_d] at this; exact this
          cases hx : isLet (s[k]'hend)
          · rw [hx] at hLk
            cases hy : isDig (s[k]'hend)
            · rw [hy] at hDk
              have hfin : runB isWd s.data.toList = k := runB_stop hb (by unfold isWd; rw [hx, hy]; rfl) hkr
              have hf : q = false := by rw [HQ.out, hfin]; simp; omega
              have HF := Lib.hid hf
              have HL2 := Lib.hid hLk
              have HD2 := Lib.hid hDk
              clear hLk hDk hb hx hy hfin hf
              go_wp2_with fail
              refine (HL2.out _).mono ?_
              rintro _ w2 ⟨rfl, rfl⟩
              go_wp2_with fail
              refine (HD2.out _).mono ?_
              rintro _ w2 ⟨rfl, rfl⟩
              go_wp2_with fail
              go_ret
              exact ⟨by rw [HF.out]; rfl, HB1.out⟩
            · rw [hy] at hDk
              have hn : k + 1 ≤ runB isWd s.data.toList := runB_step hb (by unfold isWd; rw [hy]; simp) hkr
              have HX := Lib.hid hn
              have HL2 := Lib.hid hLk
              have HD2 := Lib.hid hDk
              clear hLk hDk hb hx hy hn
              go_wp2_with fail
              refine (HL2.out _).mono ?_
              rintro _ w2 ⟨rfl, rfl⟩
              go_wp2_with fail
              refine (HD2.out _).mono ?_
              rintro _ w2 ⟨rfl, rfl⟩
              go_wp2_with fail
              go_round
              case rel => exact ⟨k + 1, HX.out, by simp⟩
              case measure => simp [intOf]; omega
          · rw [hx] at hLk
            have hn : k + 1 ≤ runB isWd s.data.toList := runB_step hb (by unfold isWd; rw [hx]; simp) hkr
            have HX := Lib.hid hn
            have HL2 := Lib.hid hLk
            clear hLk hDk hb hx hn
            go_wp2_with fail
            refine (HL2.out _).mono ?_
            rintro _ w2 ⟨rfl, rfl⟩
            go_wp2_with fail
            go_round
            case rel => exact ⟨k + 1, HX.out, by simp⟩
            case measure => simp [intOf]; omega
        · have hf : q = true := by rw [HQ.out]; simp; omega
          have HF := Lib.hid hf
          clear hf
          go_wp2_with fail
          go_ret
          exact ⟨by rw [HF.out]; rfl, HB1.out⟩
    · have hf : q = false := by rw [hq, hk]; simp
      rw [hk] at hK
      have HL := Lib.hid hL
      have HK := Lib.hid hK
      have HF := Lib.hid hf
      clear hL hK hq hf hb0 hl hnd
      go_enter Tryd.func15, Tryd.ntmps15
      go_wp2_with fail
      refine (HL.out _).mono ?_
      rintro _ w1 ⟨rfl, rfl⟩
      go_wp2_with fail
      refine (HK.out _).mono ?_
      rintro _ w1 ⟨rfl, hb1⟩
      have HB1 := Lib.hid hb1
      clear hb1
      go_wp2_with fail
      go_ret
      exact ⟨by rw [HF.out]; rfl, HB1.out⟩
end Go.Proofs.YtknckiblofochaaDoor
