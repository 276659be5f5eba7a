/-
  ref08.one: the token at a place: a number. Printed by gen_lroneb.py.
-/
import Derived.Test.YtknckiblofochaaDoorLrOneA
namespace Go.Proofs.YtknckiblofochaaDoor
open Go.RowKit Go.Shelf
set_option linter.unusedVariables false
set_option linter.unusedSimpArgs false

theorem runB_mono {p q : UInt8 → Bool} (h : ∀ b, p b = true → q b = true) : ∀ l : List UInt8, runB p l ≤ runB q l
  | [] => Nat.le_refl _
  | a :: r => by
    cases hp : p a with
    | false => rw [runB_zero hp]; exact Nat.zero_le _
    | true =>
      have := runB_mono h r
      have hq := h a hp
      simp only [runB, List.takeWhile, hp, hq, List.length_cons] at this ⊢
      omega
set_option maxRecDepth 100000 in
set_option maxHeartbeats 3200000 in
theorem rone_num (s : ByteArray) (p : Nat) (hs : s.size ≤ 4096) (hp : p < s.size) (w : World) (hl : letR ((s[p]'hp).toNat : Int) = false) (hdg : digR ((s[p]'hp).toNat : Int) = true) : Calls Tryd.prog 25 #[.string s, .int .i64 p] w (OnePost (s.data.toList.drop p) p w) := by
  obtain ⟨l, hll⟩ : ∃ l, l = s.data.toList.drop p := ⟨_, rfl⟩
  have hlen : l.length = s.size - p := by rw [hll, List.length_drop, size_len]
  have hat : ∀ k, ∀ h : p + k < s.size, l[k]? = some (s[p + k]'h) := fun k h => by rw [hll]; exact at_drop s p k h
  have htk : ∀ n, (s.extract p (p + n)).data.toList = l.take n := fun n => by rw [hll]; exact sub_data s p n
  rw [← hll]
  have h0 := hat 0 hp
  have hd0 : 0 < runB isDig l := by
    cases l with
    | nil => simp at h0
    | cons a r =>
      simp at h0
      apply runB_pos
      rw [h0, ← low_d, hdg]
  have hf : firstT l = if (numB (l.take (runB isDig l)) && !decide (runB isDig l < runB isWd l)) = true then (2, runB isDig l, 0) else (0, 0, 81) := firstT_num hd0
  have hdw : runB isDig l ≤ runB isWd l := runB_mono (fun b hb => by unfold isWd; rw [hb]; simp) l
  have hdl := runB_le isDig l
  have hall := takeWhile_dig l
  obtain ⟨d, hn⟩ : ∃ n, n = runB isDig l := ⟨_, rfl⟩
  rw [← hn] at hf hdl hdw hd0 hall
  have hxs : (s.extract p (p + d)).size = d := by
    have := congrArg List.length (htk d)
    rw [size_len, List.length_take] at this
    omega
  have hnum : ∀ W, Calls Tryd.prog 36 #[.string (s.extract p (p + d))] W fun e w' => e = .returned (.bool (numB (l.take d))) ∧ W = w' := fun W => by
    have := rnumber_any (s.extract p (p + d)) (by omega) W
    rw [numS_eq _ (by omega) (by rw [htk]; exact hall), htk] at this; exact this
  have hcl : ∀ W, Calls Tryd.prog 26 #[.int .u8 (s[p]'hp).toNat] W fun e w' => e = .returned (.bool false) ∧ W = w' := fun W => by
    have := rletter_any ((s[p]'hp).toNat : Int) W
    rw [hl] at this; exact this
  have hcd : ∀ W, Calls Tryd.prog 27 #[.int .u8 (s[p]'hp).toNat] W fun e w' => e = .returned (.bool true) ∧ W = w' := fun W => by
    have := rdigit_any ((s[p]'hp).toNat : Int) W
    rw [hdg] at this; exact this
  have HCL := Lib.hid hcl
  have HCD := Lib.hid hcd
  have HU := Lib.hid hnum
  have HF := Lib.hid hf
  have HT := Lib.hid htk
  have HA := Lib.hid hat
  have HN := Lib.hid hn
  clear hcl hcd hnum hf htk hat hn hl hdg h0 hll hall hxs
  go_enter Tryd.func25, Tryd.ntmps25
  go_wp2_with fail
  refine (HCL.out _).mono ?_
  rintro _ w1 ⟨rfl, rfl⟩
  go_wp2_with fail
  refine (HCD.out _).mono ?_
  rintro _ w1 ⟨rfl, rfl⟩
  go_wp2_with fail
  go_loop [6] (fun i => ∃ k : Nat, k ≤ d ∧ i = .int .i64 (↑p + ↑k)) (fun i => s.size - (intOf i).toNat)
  case atStart => exact ⟨0, Nat.zero_le _, by simp⟩
  case round =>
    obtain ⟨k, hk, rfl⟩ := hrel
    by_cases hend : p + k < s.size
    · have hb := Lib.hid (HA.out k hend)
      obtain ⟨c, hc⟩ : ∃ c, c = s[p + k]'hend := ⟨_, rfl⟩
      have hL : ∀ W, Calls Tryd.prog 26 #[.int .u8 (s[p + k]'hend).toNat] W fun e w' => e = .returned (.bool (isLet c)) ∧ W = w' := fun W => by
        have := rletter_any ((s[p + k]'hend).toNat : Int) W
        rw [low_l, show isLet (s[p + k]'hend) = isLet c by rw [hc]] at this; exact this
      have hD : ∀ W, Calls Tryd.prog 27 #[.int .u8 (s[p + k]'hend).toNat] W fun e w' => e = .returned (.bool (isDig c)) ∧ W = w' := fun W => by
        have := rdigit_any ((s[p + k]'hend).toNat : Int) W
        rw [low_d, show isDig (s[p + k]'hend) = isDig c by rw [hc]] at this; exact this
      rw [← hc] at hb
      cases hy0 : isDig c
      · have hfin : runB isDig l = k := runB_stop hb.out hy0 (by rw [← HN.out]; exact hk)
        rw [← HN.out] at hfin
        subst hfin
        rw [hy0] at hD
        have HD2 := Lib.hid hD
        have hy := Lib.hid hy0
        clear hD hc hy0
        cases hnb : numB (l.take d)
        · have hf2 : firstT l = (0, 0, 81) := by rw [HF.out, hnb]; rfl
          have HF2 := Lib.hid hf2
          have hU := HU.out
          rw [hnb] at hU
          have HU2 := Lib.hid hU
          clear hf2 hU hnb
          go_wp2_with fail
          refine (HD2.out _).mono ?_
          rintro _ w1 ⟨rfl, rfl⟩
          go_wp2_with fail
          refine (HU2.out _).mono ?_
          rintro _ w1 ⟨rfl, rfl⟩
          go_wp2_with fail
          exact bodyPost_ret (v := .tuple #[.agg #[.int .u8 0, .string ⟨#[]⟩, .int .i64 0], .int .i64 81]) (by simp [results, Tryd.results25, go_sem]) rfl (onePost_of (tx := ⟨#[]⟩) HF2.out (by simp) ((Below.refl _ _).alloc (Nat.le_refl _) _))
        · have hU := HU.out
          rw [hnb] at hU
          have HU2 := Lib.hid hU
          clear hU
          cases hx : isLet c
          · have hw : runB isWd l = d := runB_stop hb.out (by unfold isWd; rw [hx, hy.out]; rfl) hdw
            have hf2 : firstT l = (2, d, 0) := by rw [HF.out, hnb, decide_eq_false (by omega)]; rfl
            have HF2 := Lib.hid hf2
            have hpn : p + d ≤ s.size := by omega
            rw [hx] at hL
            have HL2 := Lib.hid hL
            clear hf2 hnb hL hx hw
            go_wp2_with fail
            refine (HD2.out _).mono ?_
            rintro _ w1 ⟨rfl, rfl⟩
            go_wp2_with fail
            refine (HU2.out _).mono ?_
            rintro _ w1 ⟨rfl, rfl⟩
            go_wp2_with fail
            refine (HL2.out _).mono ?_
            rintro _ w1 ⟨rfl, rfl⟩
            go_wp2_with fail
            exact bodyPost_ret (v := .tuple #[.agg #[.int .u8 2, .string (s.extract p (p + d)), .int .i64 p], .int .i64 0]) (by simp [results, Tryd.results25, go_sem]) rfl (onePost_of HF2.out (HT.out d) ((Below.refl _ _).alloc (Nat.le_refl _) _))
          · have hw : d + 1 ≤ runB isWd l := runB_step hb.out (by unfold isWd; rw [hx]; rfl) hdw
            have hf2 : firstT l = (0, 0, 81) := by rw [HF.out, hnb, decide_eq_true (by omega)]; rfl
            have HF2 := Lib.hid hf2
            rw [hx] at hL
            have HL2 := Lib.hid hL
            clear hf2 hnb hL hx hw
            go_wp2_with fail
            refine (HD2.out _).mono ?_
            rintro _ w1 ⟨rfl, rfl⟩
            go_wp2_with fail
            refine (HU2.out _).mono ?_
            rintro _ w1 ⟨rfl, rfl⟩
            go_wp2_with fail
            refine (HL2.out _).mono ?_
            rintro _ w1 ⟨rfl, rfl⟩
            go_wp2_with fail
            exact bodyPost_ret (v := .tuple #[.agg #[.int .u8 0, .string ⟨#[]⟩, .int .i64 0], .int .i64 81]) (by simp [results, Tryd.results25, go_sem]) rfl (onePost_of (tx := ⟨#[]⟩) HF2.out (by simp) ((Below.refl _ _).alloc (Nat.le_refl _) _))
      · have hnext : k + 1 ≤ runB isDig l := runB_step hb.out hy0 (by rw [← HN.out]; exact hk)
        rw [← HN.out] at hnext
        rw [hy0] at hD
        have HD2 := Lib.hid hD
        have HX := Lib.hid hnext
        clear hL hD hb hc hy0 hnext
        go_wp2_with fail
        refine (HD2.out _).mono ?_
        rintro _ w1 ⟨rfl, rfl⟩
        go_wp2_with fail
        go_round
        case rel => exact ⟨k + 1, HX.out, by simp; omega⟩
        case measure => simp [intOf]; omega
    · have hfin : d = k := by omega
      subst hfin
      cases hnb : numB (l.take d)
      · have hf2 : firstT l = (0, 0, 81) := by rw [HF.out, hnb]; rfl
        have HF2 := Lib.hid hf2
        have hU := HU.out
        rw [hnb] at hU
        have HU2 := Lib.hid hU
        clear hf2 hU hnb
        go_wp2_with fail
        refine (HU2.out _).mono ?_
        rintro _ w1 ⟨rfl, rfl⟩
        go_wp2_with fail
        exact bodyPost_ret (v := .tuple #[.agg #[.int .u8 0, .string ⟨#[]⟩, .int .i64 0], .int .i64 81]) (by simp [results, Tryd.results25, go_sem]) rfl (onePost_of (tx := ⟨#[]⟩) HF2.out (by simp) ((Below.refl _ _).alloc (Nat.le_refl _) _))
      · have hU := HU.out
        rw [hnb] at hU
        have HU2 := Lib.hid hU
        clear hU
        have hf2 : firstT l = (2, d, 0) := by rw [HF.out, hnb, decide_eq_false (by have := runB_le isWd l; omega)]; rfl
        have HF2 := Lib.hid hf2
        have hpn : p + d ≤ s.size := by omega
        clear hf2 hnb
        go_wp2_with fail
        refine (HU2.out _).mono ?_
        rintro _ w1 ⟨rfl, rfl⟩
        go_wp2_with fail
        exact bodyPost_ret (v := .tuple #[.agg #[.int .u8 2, .string (s.extract p (p + d)), .int .i64 p], .int .i64 0]) (by simp [results, Tryd.results25, go_sem]) rfl (onePost_of HF2.out (HT.out d) ((Below.refl _ _).alloc (Nat.le_refl _) _))
end Go.Proofs.YtknckiblofochaaDoor
