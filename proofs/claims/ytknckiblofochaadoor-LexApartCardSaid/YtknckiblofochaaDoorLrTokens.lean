/-
  ref08.Tokens: a text's tokens, or the error, and where.
-/
import Derived.Test.YtknckiblofochaaDoorLrOneC
import Derived.Test.YtknckiblofochaaDoorLxTokens
namespace Go.Proofs.YtknckiblofochaaDoor
open Go.RowKit Go.Shelf
set_option linter.unusedVariables false
set_option linter.unusedSimpArgs false

theorem rtokens_long (s : ByteArray) (w : World) (h : 4096 < s.size) (hs : s.size ≤ 9223372036854775807) : Calls Tryd.prog 12 #[.string s] w (TokPost (toks s.data.toList) w) := by
  have hr : toks s.data.toList = ([], 0, 3) := by unfold toks; rw [if_pos (by rw [size_len]; exact h)]
  have HR := Lib.hid hr
  have h2 : decide (4096 < (s.size : Int)) = true := by simp; omega
  clear hr
  go_enter Tryd.func12, Tryd.ntmps12
  go_wp2
  go_ret3
  exact tokPost_of HR.out (World.ownsRow_nil _ _ _ _) (Below.refl _ _)
theorem runB_cons {p : UInt8 → Bool} {b : UInt8} {l : List UInt8} (h : p b = true) : runB p (b :: l) = runB p l + 1 := by simp [runB, List.takeWhile, h]
theorem tok_blank {s : ByteArray} {p : Nat} (hp : p < s.size) (h : isBlk (s[p]'hp) = true) :
    toksF (s.data.toList.length + 1 - p) (s.data.toList.drop p) p = toksF (s.data.toList.length + 1 - (p + 1)) (s.data.toList.drop (p + 1)) (p + 1) := by
  have hsz := size_len s
  have h0 := at_drop s p 0 hp
  obtain ⟨l, hl⟩ : ∃ l, l = s.data.toList.drop p := ⟨_, rfl⟩
  have hd : s.data.toList.drop (p + 1) = l.drop 1 := by rw [hl, List.drop_drop]
  rw [hd, ← hl]
  rw [← hl] at h0
  have hlen : l.length = s.size - p := by rw [hl, List.length_drop, size_len]
  cases l with
  | nil => simp at h0
  | cons a r =>
    simp at h0
    have ha : isBlk a = true := by rw [h0]; exact h
    simp only [List.length_cons] at hlen
    obtain ⟨g, hg⟩ : ∃ g, s.data.toList.length + 1 - p = g + 1 := ⟨s.data.toList.length - p, by omega⟩
    rw [hg]
    rw [show List.drop 1 (a :: r) = r from rfl, ← toksF_fuel (g + 1) (s.data.toList.length + 1 - (p + 1)) r (p + 1) (by omega) (by omega)]
    have e : p + runB isBlk (a :: r) = p + 1 + runB isBlk r := by rw [runB_cons ha]; omega
    rw [toksF, toksF]
    simp only [e]
    rw [runB_cons ha]
    simp only [List.drop_succ_cons]
set_option maxRecDepth 100000 in
set_option maxHeartbeats 3200000 in
theorem rtokens_short (s : ByteArray) (w : World) (hs : s.size ≤ 4096) : Calls Tryd.prog 12 #[.string s] w (TokPost (toks s.data.toList) w) := by
  have hr : toks s.data.toList = prepT [] (toksF (s.data.toList.length + 1 - 0) (s.data.toList.drop 0) 0) := by
    unfold toks
    rw [if_neg (by rw [size_len]; omega)]
    unfold prepT
    by_cases h : (toksF (s.data.toList.length + 1) s.data.toList 0).2.2 = 0
    · rw [if_pos (by simpa using h)]
      have h2 := toksF_ok _ _ _ h
      simp only [Nat.sub_zero, List.drop_zero, List.nil_append]
      rw [Prod.ext_iff, Prod.ext_iff]
      exact ⟨rfl, h2, h⟩
    · rw [if_neg (by simpa using h)]; simp
  have HR := Lib.hid hr
  clear hr
  obtain ⟨i0, hi, hz0, hz1, hz2⟩ := info_parts infoTk
  go_enter Tryd.func12, Tryd.ntmps12
  go_wp2
  go_loopw [5, 6] (fun v2 v3 wr => ∃ (p : Nat) (acc : List Tk), p ≤ s.size ∧ v3 = .int .i64 p ∧ acc.length ≤ p ∧ wr.ownsRow w.heap.size 28 3 v2 acc.length (acc.flatMap tkC) ∧ Below w.heap.size w wr ∧ Hid (toks s.data.toList = prepT acc (toksF (s.data.toList.length + 1 - p) (s.data.toList.drop p) p))) (fun _ v3 _ => s.size - (intOf v3).toNat)
  case atStart => exact ⟨0, [], Nat.zero_le _, rfl, Nat.zero_le _, World.ownsRow_nil _ _ _ _, Below.refl _ _, HR.out⟩
  case round =>
    obtain ⟨p, acc, hp, rfl, hap, hown, hb, hR⟩ := hrel
    have hlen := size_len s
    have HO := Lib.hid hown
    have HB := Lib.hid hb
    have HL := Lib.hid hlen
    clear hown hb hlen
    by_cases hend : p < s.size
    · have hbc : ∀ W, Calls Tryd.prog 24 #[.int .u8 (s[p]'hend).toNat] W fun e w' => e = .returned (.bool (isBlk (s[p]'hend))) ∧ W = w' := fun W => by
        have := rblank_any ((s[p]'hend).toNat : Int) W
        rw [low_b] at this; exact this
      cases hk : isBlk (s[p]'hend)
      · have hone := rone_any s p hs hend
        have hb0 : runB isBlk (s.data.toList.drop p) = 0 := by
          have h0 := at_drop s p 0 hend
          cases hq : s.data.toList.drop p with
          | nil => rfl
          | cons a r =>
            rw [hq] at h0
            simp at h0
            exact runB_zero (by rw [h0]; exact hk)
        have hne : ¬ (s.data.toList.drop (p + 0)).length = 0 := by rw [List.length_drop, HL.out]; omega
        have hfle := firstT_le (l := s.data.toList.drop p)
        obtain ⟨⟨k, n, er⟩, hq⟩ : ∃ q, q = firstT (s.data.toList.drop p) := ⟨_, rfl⟩
        unfold OnePost at hone
        rw [← hq] at hone hfle
        simp only at hone hfle
        rw [List.length_drop, HL.out] at hfle
        rw [hk] at hbc
        have HC := Lib.hid hone
        have HQ := Lib.hid hq
        have HNE := Lib.hid hne
        have HB0 := Lib.hid hb0
        have HBC := Lib.hid hbc
        clear hone hq hne hb0 hbc hk
        go_wp2_with fail
        refine (HBC.out _).mono ?_
        rintro _ w1 ⟨rfl, rfl⟩
        go_wp2_with fail
        refine (HC.out _).mono ?_
        rintro _ w2 ⟨tx, htx, rfl, hb2⟩
        have htl : tx.size = n := by
          have := congrArg List.length htx
          rw [List.length_take, List.length_drop, HL.out, size_len] at this
          omega
        have hown := HO.out.kept (only_of_below hb2 none) (by rcases Option.eq_none_or_eq_some u5.ownBlock with h | ⟨_, h⟩ <;> simp [h])
        have hbw := HB.out.trans (hb2.mono HB.out.size)
        have hlt := hown.lt
        have HO2 := Lib.hid hown
        have HB2 := Lib.hid hbw
        have HLT := Lib.hid hlt
        have HTX := Lib.hid (tx_eq htx)
        obtain rfl : n = tx.size := htl.symm
        clear hown hbw hb2 htx htl hlt HC HO HB
        by_cases her : er = 0
        · subst her
          simp only [if_true]
          have hbig : (acc.length + 1) * 32 ≤ 140737488355328 := by omega
          go_wp2_with (at_builtin; refine wpList_append_own _ rfl _ _ 23 rfl w.heap.size 28 i0 (.agg #[.int .u8 0, .string ⟨#[]⟩, .int .i64 0]) 3 32 Tryd.underlying23 hi hz0 hz1 hz2 rfl (by decide) _ _ _ rfl ((HO2.out.alloc _).alloc _) ⟨w2.heap.size + 1, 0, none⟩ 1 1 [.int .u8 k, .string tx, .int .i64 p] rfl rfl ?c1 ?c2 ?c3 ?c4 ?c5 ?_)
          case c1 =>
            intro j u hj
            match j, hj with
            | 0, hj => simp at hj; subst hj; simp [Addr.add]
            | 1, hj => simp at hj; subst hj; simp [Addr.add]
            | 2, hj => simp at hj; subst hj; simp [Addr.add]
          case c2 =>
            intro u hu
            simp only [List.mem_cons, List.not_mem_nil, or_false] at hu
            rcases hu with rfl | rfl | rfl <;> rfl
          case c3 => unfold maxLen; omega
          case c4 => exact hbig
          case c5 => simp; have := HB2.out.size; omega
          intro v' w3 hown3 hgrow _
          obtain ⟨tk, htk⟩ : ∃ tk : Tk, tk = { kind := k, text := (s.data.toList.drop (p + 0)).take tx.size, at_ := p + 0 } := ⟨_, rfl⟩
          have htp : 0 < tx.size := by have := firstT_pos (l := s.data.toList.drop p) (by rw [← HQ.out]); rw [← HQ.out] at this; exact this
          have hcell : w3.cell? ⟨w2.heap.size, 1, none⟩ = some (.string tx) := by
            refine (World.cell?_of_block (hgrow.block w2.heap.size (by simp; omega) (fun e => ?_))).trans (by simp)
            have := HLT.out w2.heap.size e.symm
            omega
          have hbn : Below w.heap.size w w3 := ((HB2.out.alloc HB2.out.size _).alloc (by simp; have := HB2.out.size; omega) _).grown hgrow (by simp; have := HB2.out.size; omega) (fun g hg => (HLT.out g hg).1)
          have hgo := tok_go HB0.out.symm HNE.out HQ.out.symm (by rw [HL.out]; exact hp) hR.out
          rw [← htk] at hgo
          have hown4 : w3.ownsRow w.heap.size 28 3 v' (acc ++ [tk]).length ((acc ++ [tk]).flatMap tkC) := by
            rw [List.flatMap_append, List.length_append]
            have e : ([tk] : List Tk).flatMap tkC = [.int .u8 k, .string tx, .int .i64 p] := by
              rw [htk]
              simp only [List.flatMap_cons, List.flatMap_nil, List.append_nil, tkC, Nat.add_zero, ← HTX.out]
            rw [e]
            exact hown3
          simp only [Nat.add_zero] at hgo
          have HG := Lib.hid hgo
          have HO4 := Lib.hid hown4
          have HB4 := Lib.hid hbn
          clear hown3 hgrow hgo hown4 hbn hR htk
          go_wp2_with fail
          go_roundw
          case rel => exact ⟨p + tx.size, acc ++ [tk], by omega, by go_num, by rw [List.length_append]; simp; omega, HO4.out, HB4.out, HG.out⟩
          case measure => simp [intOf]; omega
        · have e2 : (er != 0) = true := by simpa using her
          rw [if_neg her]
          have hfin : toks s.data.toList = ([], p, er) := by
            have h0 := HNE.out
            rw [hR.out, tok_err (by rw [HB0.out]; exact h0) (by rw [HL.out]; omega) (by rw [HB0.out, Nat.add_zero, ← HQ.out]; exact her), HB0.out, Nat.add_zero, ← HQ.out]
            simp [prepT, her]
          have hP : ∀ W, Below w.heap.size w W → TokPost (toks s.data.toList) w (.returned (.tuple #[.slice none 0 0, .int .i64 p, .int .i64 er])) W := fun W h => tokPost_of (v := .slice none 0 0) hfin (World.ownsRow_nil W w.heap.size 28 3) h
          have HP := Lib.hid hP
          clear hP hfin her
          go_wp2_with fail
          go_ret3
          exact HP.out _ (HB2.out.alloc HB2.out.size _)
      · have hbl := tok_blank hend hk
        have hR2 : toks s.data.toList = prepT acc (toksF (s.data.toList.length + 1 - (p + 1)) (s.data.toList.drop (p + 1)) (p + 1)) := by rw [hR.out, hbl]
        have HR2 := Lib.hid hR2
        rw [hk] at hbc
        have HBC := Lib.hid hbc
        clear hbl hR2 hbc hk hR
        go_wp2_with fail
        refine (HBC.out _).mono ?_
        rintro _ w1 ⟨rfl, rfl⟩
        go_wp2_with fail
        go_roundw
        case rel => exact ⟨p + 1, acc, hend, by go_num, by omega, HO.out, HB.out, HR2⟩
        case measure => simp [intOf]; omega
    · have hfin : toks s.data.toList = (acc, 0, 0) := by
        rw [hR.out, tok_end (by rw [List.length_drop, HL.out]; omega) (by rw [HL.out]; omega)]
        simp [prepT]
      have HF := Lib.hid hfin
      clear hfin hR
      go_wp2_with fail
      go_ret3
      exact tokPost_of HF.out HO.out HB.out
/-- THE CONTRACT of ref08.Tokens -/
theorem rtokens_any (s : ByteArray) (w : World) (hs : s.size ≤ 9223372036854775807) : Calls Tryd.prog 12 #[.string s] w (TokPost (toks s.data.toList) w) := by
  by_cases h : s.size ≤ 4096
  · exact rtokens_short s w h
  · exact rtokens_long s w (by omega) hs
end Go.Proofs.YtknckiblofochaaDoor
