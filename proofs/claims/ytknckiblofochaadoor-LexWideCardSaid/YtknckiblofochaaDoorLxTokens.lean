/-
  lex.Tokens: a text's tokens, or the error, and where.
-/
import Derived.Test.YtknckiblofochaaDoorLxTok
import Derived.OwnWalk
namespace Go.Proofs.YtknckiblofochaaDoor
open Go.RowKit Go.Shelf
set_option linter.unusedVariables false
set_option linter.unusedSimpArgs false

theorem infoTk : (Tryd.prog.info? 28).map (fun i => (i.zero, i.size, i.bytes)) = some (some (.agg #[.int .u8 0, .string ⟨#[]⟩, .int .i64 0]), 3, 32) := by kernel_rfl
theorem tokens_long (s : ByteArray) (w : World) (h : 4096 < s.size) (hs : s.size ≤ 9223372036854775807) : Calls Tryd.prog 8 #[.string s] w (TokPost (toks s.data.toList) w) := by
  have hr : toks s.data.toList = ([], 0, 3) := by unfold toks; rw [if_pos (by rw [size_len]; exact h)]
  have HR := Lib.hid hr
  have h2 : decide (4096 < (s.size : Int)) = true := by simp; omega
  clear hr
  go_enter Tryd.func8, Tryd.ntmps8
  go_wp2
  go_ret3
  exact tokPost_of HR.out (World.ownsRow_nil _ _ _ _) (Below.refl _ _)

theorem toksF_ok : ∀ (f : Nat) (l : List UInt8) (p : Nat), (toksF f l p).2.2 = 0 → (toksF f l p).2.1 = 0
  | 0, _, _, _ => rfl
  | f + 1, l, p, h => by
    rw [toksF] at h ⊢
    simp only at h ⊢
    split
    · rfl
    · rename_i h1
      rw [if_neg h1] at h
      split
      · rename_i h2
        rw [if_pos h2] at h
        split
        · rfl
        · rename_i h3
          rw [if_neg h3] at h
          exact absurd h h3
      · rename_i h2
        rw [if_neg h2] at h
        exact absurd h h2
set_option maxRecDepth 100000 in
set_option maxHeartbeats 3200000 in
theorem tokens_short (s : ByteArray) (w : World) (hs : s.size ≤ 4096) (he : LexEnv w) : Calls Tryd.prog 8 #[.string s] w (TokPost (toks s.data.toList) w) := by
  have hr : toks s.data.toList = prepT [] (toksF (s.data.toList.length + 1 - 0) (s.data.toList.drop 0) 0) := by
    unfold toks
    rw [if_neg (by rw [size_len]; omega)]
    unfold prepT
    by_cases h : (toksF (s.data.toList.length + 1) s.data.toList 0).2.2 = 0
    · rw [if_pos (by simpa using h)]
      have h2 := toksF_ok _ _ _ h
      simp only [Nat.sub_zero, List.drop_zero, List.nil_append]
      rw [Prod.ext_iff, Prod.ext_iff]
      exact ⟨rfl, h2, h⟩
    · rw [if_neg (by simpa using h)]; simp
  have HR := Lib.hid hr
  have HE := Lib.hid he
  clear hr he
  obtain ⟨i0, hi, hz0, hz1, hz2⟩ := info_parts infoTk
  go_enter Tryd.func8, Tryd.ntmps8
  go_wp2
  go_loopw [2, 3] (fun v2 v3 wr => ∃ (p : Nat) (acc : List Tk), p ≤ s.size ∧ v3 = .int .i64 p ∧ acc.length ≤ p ∧ wr.ownsRow w.heap.size 28 3 v2 acc.length (acc.flatMap tkC) ∧ Below w.heap.size w wr ∧ Hid (toks s.data.toList = prepT acc (toksF (s.data.toList.length + 1 - p) (s.data.toList.drop p) p))) (fun _ v3 _ => s.size - (intOf v3).toNat)
  case atStart => exact ⟨0, [], Nat.zero_le _, rfl, Nat.zero_le _, World.ownsRow_nil _ _ _ _, Below.refl _ _, HR.out⟩
  case round =>
    obtain ⟨p, acc, hp, rfl, hap, hown, hb, hR⟩ := hrel
    have hlen := size_len s
    have hrun : ∀ W, Calls Tryd.prog 16 #[.string (s.extract p s.size), .func (.func 17) #[] #[]] W (RunPost (runB isBlk (s.data.toList.drop p)) W) := fun W => by
      have := run_any _ _ _ asks_b (s.extract p s.size) (by simp; omega) W
      rw [drop_data] at this
      exact this
    obtain ⟨b, hbq⟩ : ∃ b, b = runB isBlk (s.data.toList.drop p) := ⟨_, rfl⟩
    have hbl : p + b ≤ s.size := by
      have := runB_le isBlk (s.data.toList.drop p)
      rw [← hbq, List.length_drop] at this
      omega
    rw [← hbq] at hrun
    have HRUN := Lib.hid hrun
    have HBQ := Lib.hid hbq
    have HO := Lib.hid hown
    have HB := Lib.hid hb
    have HL := Lib.hid hlen
    clear hrun hbq hown hb hlen
    go_wp2_with fail
    refine (HRUN.out _).mono ?_
    rintro _ w1 ⟨rfl, hb1⟩
    have hown := HO.out.kept (only_of_below hb1 none) (by rcases Option.eq_none_or_eq_some u2.ownBlock with h | ⟨_, h⟩ <;> simp [h])
    have hbw := HB.out.trans (hb1.mono HB.out.size)
    have HO1 := Lib.hid hown
    have HB1 := Lib.hid hbw
    clear hown hbw hb1 HO HB
    by_cases hend : p + b = s.size
    · have hfin : toks s.data.toList = (acc, 0, 0) := by
        rw [hR.out, tok_end (by rw [← HBQ.out, List.length_drop, HL.out]; omega) (by rw [HL.out]; omega)]
        simp [prepT]
      have HF := Lib.hid hfin
      have e1 : ((↑p + ↑b : Int) == ↑s.size) = true := by simp; omega
      clear hfin hR
      go_wp2_with fail
      go_ret3
      exact tokPost_of HF.out HO1.out HB1.out
    · have e1 : ((↑p + ↑b : Int) == ↑s.size) = false := by simp; omega
      have hne : ¬ (s.data.toList.drop (p + b)).length = 0 := by rw [List.length_drop, HL.out]; omega
      have hfc := first_any (s.extract (p + b) s.size) (by simp; omega) w1 (HE.out.keep HB1.out)
      rw [drop_data] at hfc
      have hfle := firstT_le (l := s.data.toList.drop (p + b))
      obtain ⟨⟨k, n, er⟩, hq⟩ : ∃ q, q = firstT (s.data.toList.drop (p + b)) := ⟨_, rfl⟩
      unfold FirstPost at hfc
      rw [← hq] at hfc hfle
      simp only at hfc hfle
      rw [List.length_drop, HL.out] at hfle
      have HC := Lib.hid hfc
      have HQ := Lib.hid hq
      have HNE := Lib.hid hne
      clear hfc hq hne hend
      go_wp2_with fail
      refine HC.out.mono ?_
      rintro _ w2 ⟨tx, htx, rfl, hb2⟩
      have htl : tx.size = n := by
        have := congrArg List.length htx
        rw [List.length_take, List.length_drop, HL.out, size_len] at this
        omega
      have hown := HO1.out.kept (only_of_below hb2 none) (by rcases Option.eq_none_or_eq_some u2.ownBlock with h | ⟨_, h⟩ <;> simp [h])
      have hbw := HB1.out.trans (hb2.mono HB1.out.size)
      have hlt := hown.lt
      have HO2 := Lib.hid hown
      have HB2 := Lib.hid hbw
      have HLT := Lib.hid hlt
      have HTX := Lib.hid (tx_eq htx)
      obtain rfl : n = tx.size := htl.symm
      clear hown hbw hb2 htx htl hlt HC
      by_cases her : er = 0
      · subst her
        have hbig : (acc.length + 1) * 32 ≤ 140737488355328 := by omega
        go_wp2_with (at_builtin; refine wpList_append_own _ rfl _ _ 23 rfl w.heap.size 28 i0 (.agg #[.int .u8 0, .string ⟨#[]⟩, .int .i64 0]) 3 32 Tryd.underlying23 hi hz0 hz1 hz2 rfl (by decide) _ _ _ rfl ((HO2.out.alloc _).alloc _) ⟨w2.heap.size + 1, 0, none⟩ 1 1 [.int .u8 k, .string tx, .int .i64 (↑p + ↑b)] rfl rfl ?c1 ?c2 ?c3 ?c4 ?c5 ?_)
        case c1 =>
          intro j u hj
          match j, hj with
          | 0, hj => simp at hj; subst hj; simp [Addr.add]
          | 1, hj => simp at hj; subst hj; simp [Addr.add]
          | 2, hj => simp at hj; subst hj; simp [Addr.add]
        case c2 =>
          intro u hu
          simp only [List.mem_cons, List.not_mem_nil, or_false] at hu
          rcases hu with rfl | rfl | rfl <;> rfl
        case c3 => unfold maxLen; omega
        case c4 => exact hbig
        case c5 => simp; have := HB2.out.size; omega
        intro v' w3 hown3 hgrow _
        obtain ⟨tk, htk⟩ : ∃ tk : Tk, tk = { kind := k, text := (s.data.toList.drop (p + b)).take tx.size, at_ := p + b } := ⟨_, rfl⟩
        have htp : 0 < tx.size := by have := firstT_pos (l := s.data.toList.drop (p + b)) (by rw [← HQ.out]); rw [← HQ.out] at this; exact this
        have hcell : w3.cell? ⟨w2.heap.size, 1, none⟩ = some (.string tx) := by
          refine (World.cell?_of_block (hgrow.block w2.heap.size (by simp; omega) (fun e => ?_))).trans (by simp)
          have := HLT.out w2.heap.size e.symm
          omega
        have hbn : Below w.heap.size w w3 := ((HB2.out.alloc HB2.out.size _).alloc (by simp; have := HB2.out.size; omega) _).grown hgrow (by simp; have := HB2.out.size; omega) (fun g hg => (HLT.out g hg).1)
        have hgo := tok_go HBQ.out HNE.out HQ.out.symm (by rw [HL.out]; exact hp) hR.out
        rw [← htk] at hgo
        have hown4 : w3.ownsRow w.heap.size 28 3 v' (acc ++ [tk]).length ((acc ++ [tk]).flatMap tkC) := by
          rw [List.flatMap_append, List.length_append]
          have e : ([tk] : List Tk).flatMap tkC = [.int .u8 k, .string tx, .int .i64 (↑p + ↑b)] := by
            rw [htk]
            simp only [List.flatMap_cons, List.flatMap_nil, List.append_nil, tkC, ← HTX.out]
            rw [show (((p + b : Nat) : Int)) = ↑p + ↑b from by omega]
          rw [e]
          exact hown3
        have HG := Lib.hid hgo
        have HO4 := Lib.hid hown4
        have HB4 := Lib.hid hbn
        clear hown3 hgrow hgo hown4 hbn hR htk
        go_wp2_with fail
        go_roundw
        case rel => exact ⟨p + b + tx.size, acc ++ [tk], by omega, by go_num, by rw [List.length_append]; simp; omega, HO4.out, HB4.out, HG.out⟩
        case measure => simp [intOf]; omega
      · have e2 : (er != 0) = true := by simpa using her
        have hfin : toks s.data.toList = ([], p + b, er) := by
          have h0 := HNE.out
          rw [hR.out, tok_err (by rw [← HBQ.out]; exact h0) (by rw [HL.out]; omega) (by rw [← HBQ.out, ← HQ.out]; exact her), ← HBQ.out, ← HQ.out]
          simp [prepT, her]
        have hP : ∀ W, Below w.heap.size w W → TokPost (toks s.data.toList) w (.returned (.tuple #[.slice none 0 0, .int .i64 (↑p + ↑b), .int .i64 er])) W := fun W h => by
          have := tokPost_of (v := .slice none 0 0) hfin (World.ownsRow_nil W w.heap.size 28 3) h
          rw [show (((p + b : Nat) : Int)) = ↑p + ↑b from by omega] at this
          exact this
        have HP := Lib.hid hP
        clear hP hfin her
        go_wp2_with fail
        go_ret3
        exact HP.out _ (HB2.out.alloc HB2.out.size _)
end Go.Proofs.YtknckiblofochaaDoor
