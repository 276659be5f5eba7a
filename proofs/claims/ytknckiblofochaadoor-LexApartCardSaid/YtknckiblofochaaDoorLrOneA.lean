/-
  ref08.one: the token at a place: a word.
-/
import Derived.Test.YtknckiblofochaaDoorLrDec
namespace Go.Proofs.YtknckiblofochaaDoor
open Go.RowKit Go.Shelf
set_option linter.unusedVariables false
set_option linter.unusedSimpArgs false

/-- how ref08.one ends -/
def OnePost (l : List UInt8) (p : Nat) (W : World) (e : Ending) (w' : World) : Prop :=
  ∃ tx : ByteArray, tx.data.toList = l.take (firstT l).2.1 ∧ e = .returned (.tuple #[.agg #[.int .u8 (firstT l).1, .string tx, .int .i64 (if (firstT l).2.2 = 0 then p else 0)], .int .i64 (firstT l).2.2]) ∧ Below W.heap.size W w'
theorem onePost_of {l : List UInt8} {p : Nat} {W w' : World} {tx : ByteArray} {k er : Int} {n : Nat} (h : firstT l = (k, n, er)) (ht : tx.data.toList = l.take n) (hb : Below W.heap.size W w') :
    OnePost l p W (.returned (.tuple #[.agg #[.int .u8 k, .string tx, .int .i64 (if er = 0 then p else 0)], .int .i64 er])) w' :=
  ⟨tx, by rw [h]; exact ht, by rw [h], hb⟩
theorem at_drop (s : ByteArray) (p k : Nat) (h : p + k < s.size) : (s.data.toList.drop p)[k]? = some (s[p + k]'h) := by
  rw [List.getElem?_drop]; exact byte_at s (p + k) h
theorem sub_data (s : ByteArray) (p n : Nat) : (s.extract p (p + n)).data.toList = (s.data.toList.drop p).take n := by
  simp [List.take_drop]
set_option maxRecDepth 100000 in
set_option maxHeartbeats 3200000 in
theorem rone_word (s : ByteArray) (p : Nat) (hs : s.size ≤ 4096) (hp : p < s.size) (w : World) (hl : letR ((s[p]'hp).toNat : Int) = true) : Calls Tryd.prog 25 #[.string s, .int .i64 p] w (OnePost (s.data.toList.drop p) p w) := by
  obtain ⟨l, hll⟩ : ∃ l, l = s.data.toList.drop p := ⟨_, rfl⟩
  have hlen : l.length = s.size - p := by rw [hll, List.length_drop, size_len]
  have hat : ∀ k, ∀ h : p + k < s.size, l[k]? = some (s[p + k]'h) := fun k h => by rw [hll]; exact at_drop s p k h
  have htk : ∀ n, (s.extract p (p + n)).data.toList = l.take n := fun n => by rw [hll]; exact sub_data s p n
  rw [← hll]
  have h0 := hat 0 hp
  have hd0 : runB isDig l = 0 := by
    cases l with
    | nil => simp at h0
    | cons a r =>
      simp at h0
      apply runB_zero
      rw [h0, ← low_d]
      have := hl
      simp only [letR, Bool.or_eq_true, Bool.and_eq_true, decide_eq_true_eq, beq_iff_eq] at this
      simp only [digR]
      simp; omega
  have hn0 : 0 < runB isWd l := by
    cases l with
    | nil => simp at h0
    | cons a r =>
      simp at h0
      apply runB_pos
      rw [h0]
      unfold isWd
      rw [← low_l, hl]; rfl
  have hf : firstT l = if 16 < runB isWd l then (0, 0, 82) else (1, runB isWd l, 0) := by
    rw [firstT_none (by omega), if_pos hn0]
  obtain ⟨n, hn⟩ : ∃ n, n = runB isWd l := ⟨_, rfl⟩
  have hnl := runB_le isWd l
  rw [← hn] at hf hnl hn0
  have hcall : ∀ W, Calls Tryd.prog 26 #[.int .u8 (s[p]'hp).toNat] W fun e w' => e = .returned (.bool true) ∧ W = w' := fun W => by
    have := rletter_any ((s[p]'hp).toNat : Int) W
    rw [hl] at this; exact this
  have HC := Lib.hid hcall
  have HF := Lib.hid hf
  have HT := Lib.hid htk
  have HA := Lib.hid hat
  have HN := Lib.hid hn
  have HL := Lib.hid hlen
  clear hcall hf htk hat hn hl h0 hd0 hll
  go_enter Tryd.func25, Tryd.ntmps25
  go_wp2_with fail
  refine (HC.out _).mono ?_
  rintro _ w1 ⟨rfl, rfl⟩
  go_wp2_with fail
  go_loop [6] (fun i => ∃ k : Nat, k ≤ n ∧ i = .int .i64 (↑p + ↑k)) (fun i => s.size - (intOf i).toNat)
  case atStart => exact ⟨0, Nat.zero_le _, by simp⟩
  case round =>
    obtain ⟨k, hk, rfl⟩ := hrel
    by_cases hend : p + k < s.size
    · have hb := HA.out k hend
      obtain ⟨c, hc⟩ : ∃ c, c = s[p + k]'hend := ⟨_, rfl⟩
      have hL : ∀ W, Calls Tryd.prog 26 #[.int .u8 (s[p + k]'hend).toNat] W fun e w' => e = .returned (.bool (isLet c)) ∧ W = w' := fun W => by
        have := rletter_any ((s[p + k]'hend).toNat : Int) W
        rw [low_l, show isLet (s[p + k]'hend) = isLet c by rw [hc]] at this; exact this
      have hD : ∀ W, Calls Tryd.prog 27 #[.int .u8 (s[p + k]'hend).toNat] W fun e w' => e = .returned (.bool (isDig c)) ∧ W = w' := fun W => by
        have := rdigit_any ((s[p + k]'hend).toNat : Int) W
        rw [low_d, show isDig (s[p + k]'hend) = isDig c by rw [hc]] at this; exact this
      rw [← hc] at hb
      cases hx : isLet c
      · cases hy : isDig c
        · have hfin : runB isWd l = k := runB_stop hb (by unfold isWd; rw [hx, hy]; rfl) (by rw [← HN.out]; exact hk)
          rw [← HN.out] at hfin
          subst hfin
          rw [hx] at hL
          rw [hy] at hD
          have HL2 := Lib.hid hL
          have HD2 := Lib.hid hD
          clear hL hD hb hc hx hy
          go_wp2_with fail
          refine (HL2.out _).mono ?_
          rintro _ w1 ⟨rfl, rfl⟩
          go_wp2_with fail
          refine (HD2.out _).mono ?_
          rintro _ w1 ⟨rfl, rfl⟩
          by_cases h16 : 16 < n
          · have hf2 : firstT l = (0, 0, 82) := by rw [HF.out, if_pos h16]
            have HF2 := Lib.hid hf2
            have e2 : decide ((16 : Int) < ↑p + ↑n - ↑p) = true := by simp; omega
            clear hf2 h16
            go_wp2_with fail
            exact bodyPost_ret (v := .tuple #[.agg #[.int .u8 0, .string ⟨#[]⟩, .int .i64 0], .int .i64 82]) (by simp [results, Tryd.results25, go_sem]) rfl (onePost_of (tx := ⟨#[]⟩) HF2.out (by simp) ((Below.refl _ _).alloc (Nat.le_refl _) _))
          · have hf2 : firstT l = (1, n, 0) := by rw [HF.out, if_neg h16]
            have HF2 := Lib.hid hf2
            have e2 : decide ((16 : Int) < ↑p + ↑n - ↑p) = false := by simp; omega
            have hpn : p + n ≤ s.size := by omega
            clear hf2 h16
            go_wp2_with fail
            exact bodyPost_ret (v := .tuple #[.agg #[.int .u8 1, .string (s.extract p (p + n)), .int .i64 p], .int .i64 0]) (by simp [results, Tryd.results25, go_sem]) rfl (onePost_of HF2.out (HT.out n) ((Below.refl _ _).alloc (Nat.le_refl _) _))
        · have hnext : k + 1 ≤ runB isWd l := runB_step hb (by unfold isWd; rw [hy]; simp) (by rw [← HN.out]; exact hk)
          rw [← HN.out] at hnext
          rw [hx] at hL
          rw [hy] at hD
          have HL2 := Lib.hid hL
          have HD2 := Lib.hid hD
          have HX := Lib.hid hnext
          clear hL hD hb hc hx hy hnext
          go_wp2_with fail
          refine (HL2.out _).mono ?_
          rintro _ w1 ⟨rfl, rfl⟩
          go_wp2_with fail
          refine (HD2.out _).mono ?_
          rintro _ w1 ⟨rfl, rfl⟩
          go_wp2_with fail
          go_round
          case rel => exact ⟨k + 1, HX.out, by simp; omega⟩
          case measure => simp [intOf]; omega
      · have hnext : k + 1 ≤ runB isWd l := runB_step hb (by unfold isWd; rw [hx]; simp) (by rw [← HN.out]; exact hk)
        rw [← HN.out] at hnext
        rw [hx] at hL
        have HL2 := Lib.hid hL
        have HX := Lib.hid hnext
        clear hL hD hb hc hx hnext
        go_wp2_with fail
        refine (HL2.out _).mono ?_
        rintro _ w1 ⟨rfl, rfl⟩
        go_wp2_with fail
        go_round
        case rel => exact ⟨k + 1, HX.out, by simp; omega⟩
        case measure => simp [intOf]; omega
    · have hfin : n = k := by omega
      subst hfin
      by_cases h16 : 16 < n
      · have hf2 : firstT l = (0, 0, 82) := by rw [HF.out, if_pos h16]
        have HF2 := Lib.hid hf2
        have e2 : decide ((16 : Int) < ↑p + ↑n - ↑p) = true := by simp; omega
        clear hf2 h16
        go_wp2_with fail
        exact bodyPost_ret (v := .tuple #[.agg #[.int .u8 0, .string ⟨#[]⟩, .int .i64 0], .int .i64 82]) (by simp [results, Tryd.results25, go_sem]) rfl (onePost_of (tx := ⟨#[]⟩) HF2.out (by simp) ((Below.refl _ _).alloc (Nat.le_refl _) _))
      · have hf2 : firstT l = (1, n, 0) := by rw [HF.out, if_neg h16]
        have HF2 := Lib.hid hf2
        have e2 : decide ((16 : Int) < ↑p + ↑n - ↑p) = false := by simp; omega
        have hpn : p + n ≤ s.size := by omega
        clear hf2 h16
        go_wp2_with fail
        exact bodyPost_ret (v := .tuple #[.agg #[.int .u8 1, .string (s.extract p (p + n)), .int .i64 p], .int .i64 0]) (by simp [results, Tryd.results25, go_sem]) rfl (onePost_of HF2.out (HT.out n) ((Below.refl _ _).alloc (Nat.le_refl _) _))
end Go.Proofs.YtknckiblofochaaDoor
