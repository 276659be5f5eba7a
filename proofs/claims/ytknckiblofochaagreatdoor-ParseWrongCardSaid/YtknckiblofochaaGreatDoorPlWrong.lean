/-
  Plain law: what is wrong is told where it is. No program.
-/
import Derived.Test.YtknckiblofochaaGreatDoorJnLex
import Derived.Test.YtknckiblofochaaGreatDoorJnLoc
import Derived.Test.YtknckiblofochaaGreatDoorJnPs
namespace Go.Proofs.YtknckiblofochaaGreatDoor
open Go.RowKit Go.Shelf
set_option linter.unusedVariables false
set_option linter.unusedSimpArgs false

theorem tkQ_cells {w : World} {base : Nat} {v : Value} {l : List Tk} (h : w.ownsRow base 64 3 v l.length (l.flatMap tkC)) {k : Nat} {t : Tk} (hk : l[k]? = some t) :
    ∃ g cap, v = .slice (some ⟨g, 0, none⟩) l.length cap ∧ base ≤ g ∧ g < w.heap.size ∧ ∀ j, j < 3 → w.cell? ⟨g, k * 3 + j, none⟩ = (tkC t)[j]? := by
  have hkl := (List.getElem?_eq_some_iff.1 hk).1
  obtain ⟨g, cap, rfl, hb, hg⟩ := h.form (by omega)
  refine ⟨g, cap, rfl, hb, hg, fun j hj => ?_⟩
  rw [h.cellAt (k * 3 + j) (by omega), flat3 l k t hk j hj]
theorem rowQ_form {w : World} {base : Nat} {v : Value} {n : Nat} {xs : List Value} (h : w.ownsRow base 64 3 v n xs) : ∃ p cap, v = .slice p n cap := by
  obtain ⟨_, ⟨h1, h0⟩ | ⟨g, cap, cur, hv, _⟩⟩ := h
  · exact ⟨none, 0, by rw [h1, h0]⟩
  · exact ⟨_, cap, hv⟩
theorem fT_code (l : List UInt8) : (firstT l).2.2 = 0 ∨ (firstT l).2.2 = 80 ∨ (firstT l).2.2 = 81 ∨ (firstT l).2.2 = 82 := by
  by_cases hd : 0 < runB isDig l
  · rw [fT_num hd]
    split
    · exact .inl rfl
    · exact .inr (.inr (.inl rfl))
  · rw [fT_none hd]
    split
    · exact .inr (.inr (.inr rfl))
    split
    · exact .inl rfl
    split
    · exact .inl rfl
    · exact .inr (.inl rfl)
theorem tokL_err : ∀ (m : Nat) (l : List UInt8) (p : Nat), l.length ≤ m → (tokL l p).2.1 ≤ p + l.length ∧ ((tokL l p).2.2 = 0 ∨ (tokL l p).2.2 = 80 ∨ (tokL l p).2.2 = 81 ∨ (tokL l p).2.2 = 82)
  | m, l, p, hm => by
    have hb := runB_le isBlk l
    by_cases h0 : (l.drop (runB isBlk l)).length = 0
    · rw [tokL_nil h0]
      exact ⟨Nat.zero_le _, .inl rfl⟩
    · by_cases h1 : (firstT (l.drop (runB isBlk l))).2.2 = 0
      · have hp := firstT_pos h1
        have hle := firstT_le (l := l.drop (runB isBlk l))
        have hl := h0
        rw [List.length_drop] at hl hle
        obtain ⟨m, rfl⟩ : ∃ k, m = k + 1 := ⟨m - 1, by omega⟩
        have ih := tokL_err m ((l.drop (runB isBlk l)).drop (firstT (l.drop (runB isBlk l))).2.1) (p + runB isBlk l + (firstT (l.drop (runB isBlk l))).2.1) (by rw [List.length_drop, List.length_drop]; omega)
        rw [tokL_go h0 h1]
        split
        · exact ⟨Nat.zero_le _, .inl rfl⟩
        · refine ⟨Nat.le_trans ih.1 ?_, ih.2⟩
          rw [List.length_drop, List.length_drop]
          omega
      · rw [tokL_bad h0 h1]
        exact ⟨by simp only; omega, fT_code _⟩
theorem toks_err (s : List UInt8) : (toks s).2.1 ≤ s.length ∧ (toks s).2.2 ≠ 90 ∧ (toks s).2.2 ≠ 91 := by
  by_cases hl : 4096 < s.length
  · unfold toks
    rw [if_pos hl]
    exact ⟨Nat.zero_le _, by decide, by decide⟩
  · rw [tokL_toks (by omega)]
    have := tokL_err _ s 0 (Nat.le_refl _)
    refine ⟨by omega, ?_, ?_⟩ <;> rcases this.2 with h | h | h | h <;> rw [h] <;> decide
theorem lies_before {s : List UInt8} {t : Tk} {r : List Tk} : ∀ {pre : List Tk} {p : Nat}, Lies s p (pre ++ t :: r) → p ≤ t.at_ ∧ ∀ x ∈ pre, x.at_ < t.at_
  | [], p, h => ⟨h.1, fun x hx => by simp at hx⟩
  | a :: pre, p, h => by
    obtain ⟨h1, h2, h3, _, _, _, h7⟩ := h
    have ih := lies_before h7
    refine ⟨by omega, fun x hx => ?_⟩
    rcases List.mem_cons.1 hx with rfl | hx
    · omega
    · exact ih.2 x hx
theorem toks_live {s : List UInt8} (h : (toks s).2.2 = 0) : ∀ t ∈ (toks s).1, t.live := fun t ht hl => by
  have h1 := (toks_lies h).1.each t ht
  have hp := firstT_pos (l := t.text) (by rw [h1])
  rw [h1, hl.1] at hp
  simp at hp
theorem endT_dead (s : List UInt8) : ¬ (endT s).live := fun h => h ⟨rfl, rfl⟩
theorem parseB_ok {s : List UInt8} (h : (toks s).2.2 = 0) : parseB s = match treeP ((toks s).1 ++ [endT s]) with | .ok t _ => (t, 0, 0) | .err e a => (⟨[], [], [], .nil⟩, a, e) := by
  unfold parseB
  simp only
  rw [if_neg (by simpa using h)]
  rfl
theorem parseB_lex {s : List UInt8} (h : (toks s).2.2 ≠ 0) : parseB s = ((⟨[], [], [], .nil⟩ : Tre), ((toks s).2.1 : Int), (toks s).2.2) := by
  unfold parseB
  simp only
  rw [if_pos h]
theorem toks_zero {s : List UInt8} (h : (toks s).2.2 = 0) : toks s = ((toks s).1, 0, 0) := by
  have hs := (toks_lies h).2
  rw [tokL_toks hs] at h ⊢
  exact Prod.ext rfl (Prod.ext ((tokL_place _ s 0 (Nat.le_refl _)).1 h) h)
/-- an error's number is never 0 -/
theorem treeP_code {l : List Tk} (he : Ended l) {c a : Int} (h : treeP l = .err c a) : c = 90 ∨ c = 91 := by
  obtain ⟨_, _, _, _, _, h3, _⟩ := treeP_wrong he h
  rcases h3 with h | h
  · exact .inl h
  · exact .inr h.1
theorem parse_at0 {s : List UInt8} (h : (parseB s).2.2 = 0) : (parseB s).2.1 = 0 := by
  by_cases hq : (toks s).2.2 = 0
  · rw [parseB_ok hq] at h ⊢
    cases ht : treeP ((toks s).1 ++ [endT s]) with
    | ok t r => rfl
    | err c a =>
      rw [ht] at h
      have h : c = 0 := h
      rcases treeP_code ⟨_, _, rfl, endT_dead s⟩ ht with e | e <;> omega
  · rw [parseB_lex hq] at h
    exact absurd h hq
/-- WHAT IS WRONG, AND WHERE -/
theorem parse_wrong {s : List UInt8} (he : (parseB s).2.2 ≠ 0) :
    (parseB s).1.main.len = 0 ∧ 0 ≤ (parseB s).2.1 ∧ (parseB s).2.1 ≤ s.length ∧
    (((parseB s).2.2 = 90 ∨ (parseB s).2.2 = 91) → (parseB s).2.1 < s.length → ∃ p : Nat, (parseB s).2.1 = p ∧ p < s.length ∧
      ((parseB (s.take p)).2.2 = 0 ∨ ((parseB (s.take p)).2.2 = 90 ∧ (parseB (s.take p)).2.1 = p)) ∧
      ∃ x l, toks (s.drop p) = (x :: l, 0, 0) ∧ ∀ o m, toks o = (m, 0, 0) → (s.take p ++ x.text ++ 32 :: o).length ≤ 4096 →
        (parseB (s.take p ++ x.text ++ 32 :: o)).2.1 = (parseB s).2.1 ∧ (parseB (s.take p ++ x.text ++ 32 :: o)).2.2 = (parseB s).2.2) := by
  by_cases hq : (toks s).2.2 = 0
  rotate_left
  · have hte := toks_err s
    rw [parseB_lex hq]
    refine ⟨rfl, Int.natCast_nonneg _, by simp only; exact Int.ofNat_le.2 hte.1, fun h => ?_⟩
    rcases h with h | h
    · exact absurd h hte.2.1
    · exact absurd h hte.2.2
  have hok := parseB_ok hq
  cases ht : treeP ((toks s).1 ++ [endT s]) with
  | ok t r =>
    rw [ht] at hok
    rw [hok] at he
    exact absurd rfl he
  | err c a =>
    rw [ht] at hok
    rw [hok]
    simp only
    have hlies := (toks_lies hq).1
    have hend : Ended ((toks s).1 ++ [endT s]) := ⟨_, _, rfl, endT_dead s⟩
    obtain ⟨pre, post, e1, h1, h2, h3, h4⟩ := treeP_wrong hend ht
    have hpe : Ended post := Ended.back (pre := pre) (e1 ▸ hend) h1
    obtain ⟨x, rest, hpost⟩ : ∃ x rest, post = x :: rest := by
      cases post with
      | nil => exact absurd rfl hpe.ne
      | cons x r => exact ⟨x, r, rfl⟩
    subst hpost
    have h2 : a = (x.at_ : Int) := h2
    have hmem : x ∈ (toks s).1 ++ [endT s] := by rw [e1]; simp
    have hxat : x.at_ ≤ s.length := by
      rcases List.mem_append.1 hmem with h | h
      · have := lies_at hlies x h; omega
      · rw [List.mem_singleton.1 h]; exact Nat.le_refl _
    refine ⟨rfl, by omega, by omega, fun _ hlt => ⟨x.at_, h2, by omega, ?_⟩⟩
    have hxs : x.at_ < s.length := by omega
    obtain ⟨r', z, hr, hz⟩ : ∃ r' z, rest = r' ++ [z] ∧ True := by
      rcases List.eq_nil_or_concat rest with h | ⟨r', z, h⟩
      · exfalso
        rw [h] at e1
        have := List.append_inj' e1 rfl
        have hx : endT s = x := by simpa using this.2
        rw [← hx] at hxs
        exact absurd hxs (Nat.lt_irrefl _)
      · exact ⟨r', z, by simpa using h, trivial⟩
    subst hr
    have e2 : (toks s).1 ++ [endT s] = (pre ++ x :: r') ++ [z] := by rw [e1]; simp
    have e3 := List.append_inj' e2 rfl
    have hz2 : endT s = z := by simpa using e3.2
    subst hz2
    have hts : toks s = (pre ++ x :: r', 0, 0) := by rw [toks_zero hq, e3.1]
    obtain ⟨hs, hle, hcut, ⟨l, hl, hhd⟩, hrep⟩ := toks_cut hts
    rw [e3.1] at hlies
    have hbef := (lies_before hlies).2
    have hlive : ∀ t ∈ pre, t.live := h1
    refine ⟨?_, ?_⟩
    · have hcq : (toks (s.take x.at_)).2.2 = 0 := by rw [hcut]
      rw [parseB_ok hcq, hcut]
      simp only
      cases hc : treeP (pre ++ [endT (s.take x.at_)]) with
      | ok t r => exact .inl rfl
      | err c2 a2 =>
        right
        have hzat : (endT (s.take x.at_)).at_ = x.at_ := by
          show (s.take x.at_).length = _
          rw [List.length_take]; omega
        rcases treeP_cut (post := []) (endT_dead _) hlive hc with ⟨h5, h6⟩ | ⟨q, s2, h5, h6, h7, h8⟩
        · refine ⟨h5, ?_⟩
          rw [hzat] at h6
          exact h6
        · exfalso
          obtain ⟨y, s3, rfl⟩ : ∃ y s3, s2 = y :: s3 := by
            cases s2 with
            | nil => exact absurd rfl h6
            | cons y s3 => exact ⟨y, s3, rfl⟩
          have h9 := h8 (y :: s3 ++ x :: (r' ++ [endT s])) ⟨y :: s3 ++ x :: r', endT s, by simp, endT_dead s⟩ rfl (by simp; try omega)
          have e4 : q ++ (y :: s3 ++ x :: (r' ++ [endT s])) = (toks s).1 ++ [endT s] := by rw [e1, h5]; simp
          rw [e4, ht] at h9
          simp only [PR.err.injEq] at h9
          have hy := hbef y (by rw [h5]; simp)
          have h7 : a2 = (y.at_ : Int) := h7
          omega
    · cases l with
      | nil => simp at hhd
      | cons y l =>
        simp at hhd
        refine ⟨y, l, hl, fun o m ho hlen => ?_⟩
        have hyt : y.text = x.text := by rw [hhd]
        rw [hyt] at hlen ⊢
        have hrp := hrep o m ho hlen
        have hcq : (toks (s.take x.at_ ++ x.text ++ 32 :: o)).2.2 = 0 := by rw [hrp]
        rw [parseB_ok hcq, hrp]
        simp only
        have h9 := h4 (x :: (m.map (addAt (x.at_ + x.text.length + 1)) ++ [endT (s.take x.at_ ++ x.text ++ 32 :: o)])) ⟨x :: m.map (addAt (x.at_ + x.text.length + 1)), endT (s.take x.at_ ++ x.text ++ 32 :: o), by simp, endT_dead _⟩ rfl (by simp)
        have e5 : pre ++ x :: m.map (addAt (x.at_ + x.text.length + 1)) ++ [endT (s.take x.at_ ++ x.text ++ 32 :: o)] = pre ++ x :: (m.map (addAt (x.at_ + x.text.length + 1)) ++ [endT (s.take x.at_ ++ x.text ++ 32 :: o)]) := by simp
        rw [e5, h9]
        exact ⟨rfl, rfl⟩
end Go.Proofs.YtknckiblofochaaGreatDoor
