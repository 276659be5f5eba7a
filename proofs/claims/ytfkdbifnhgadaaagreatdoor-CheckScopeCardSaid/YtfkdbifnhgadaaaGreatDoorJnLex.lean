/-
  Plain laws on tokens: of a text that is cut at a token, or has another end behind one; blanks ahead. No program.
-/
import Derived.Test.YtfkdbifnhgadaaaGreatDoorLxPlain
namespace Go.Proofs.YtfkdbifnhgadaaaGreatDoor
open Go.RowKit
set_option linter.unusedVariables false
set_option linter.unusedSimpArgs false

theorem toksF_fuel2 : ∀ (f f' : Nat) (l : List UInt8) (p : Nat), l.length < f → l.length < f' → toksF f l p = toksF f' l p
  | 0, _, _, _, h, _ => absurd h (by omega)
  | _ + 1, 0, _, _, _, h => absurd h (by omega)
  | f + 1, f' + 1, l, p, h, h' => by
    simp only [toksF]
    by_cases h0 : (l.drop (runB isBlk l)).length = 0
    · rw [if_pos h0, if_pos h0]
    · rw [if_neg h0, if_neg h0]
      by_cases h1 : (firstT (l.drop (runB isBlk l))).2.2 = 0
      · rw [if_pos h1, if_pos h1]
        have hp := firstT_pos h1
        rw [List.length_drop] at h0
        rw [toksF_fuel2 f f' ((l.drop (runB isBlk l)).drop (firstT (l.drop (runB isBlk l))).2.1) _ (by rw [List.length_drop, List.length_drop]; omega) (by rw [List.length_drop, List.length_drop]; omega)]
      · rw [if_neg h1, if_neg h1]
/-- the tokens of what is left at a place -/
def tokL (l : List UInt8) (p : Nat) : List Tk × Nat × Int := toksF (l.length + 1) l p
theorem tokL_toks {l : List UInt8} (h : l.length ≤ 4096) : toks l = tokL l 0 := by unfold toks; rw [if_neg (by omega)]; rfl
theorem tokL_nil {l : List UInt8} {p : Nat} (h : (l.drop (runB isBlk l)).length = 0) : tokL l p = ([], 0, 0) := by
  unfold tokL
  simp only [toksF]
  rw [if_pos h]
theorem tokL_bad {l : List UInt8} {p : Nat} (h : ¬ (l.drop (runB isBlk l)).length = 0) (h1 : ¬ (firstT (l.drop (runB isBlk l))).2.2 = 0) : tokL l p = ([], p + runB isBlk l, (firstT (l.drop (runB isBlk l))).2.2) := by
  unfold tokL
  simp only [toksF]
  rw [if_neg h, if_neg h1]
theorem tokL_go {l : List UInt8} {p : Nat} (h : ¬ (l.drop (runB isBlk l)).length = 0) (h1 : (firstT (l.drop (runB isBlk l))).2.2 = 0) :
    tokL l p = if (tokL ((l.drop (runB isBlk l)).drop (firstT (l.drop (runB isBlk l))).2.1) (p + runB isBlk l + (firstT (l.drop (runB isBlk l))).2.1)).2.2 = 0
      then (⟨(firstT (l.drop (runB isBlk l))).1, (l.drop (runB isBlk l)).take (firstT (l.drop (runB isBlk l))).2.1, p + runB isBlk l⟩ :: (tokL ((l.drop (runB isBlk l)).drop (firstT (l.drop (runB isBlk l))).2.1) (p + runB isBlk l + (firstT (l.drop (runB isBlk l))).2.1)).1, 0, 0)
      else tokL ((l.drop (runB isBlk l)).drop (firstT (l.drop (runB isBlk l))).2.1) (p + runB isBlk l + (firstT (l.drop (runB isBlk l))).2.1) := by
  have hp := firstT_pos h1
  have hl := h
  rw [List.length_drop] at hl
  have e : toksF l.length ((l.drop (runB isBlk l)).drop (firstT (l.drop (runB isBlk l))).2.1) (p + runB isBlk l + (firstT (l.drop (runB isBlk l))).2.1) = tokL ((l.drop (runB isBlk l)).drop (firstT (l.drop (runB isBlk l))).2.1) (p + runB isBlk l + (firstT (l.drop (runB isBlk l))).2.1) :=
    toksF_fuel2 _ _ _ _ (by rw [List.length_drop, List.length_drop]; omega) (by omega)
  rw [← e]
  show toksF (l.length + 1) l p = _
  simp only [toksF]
  rw [if_neg h, if_pos h1]
theorem drop_blank (B l : List UInt8) (hB : ∀ b ∈ B, isBlk b = true) : (B ++ l).drop (runB isBlk (B ++ l)) = l.drop (runB isBlk l) := by
  rw [runB_pre _ _ _ hB, List.drop_append, List.drop_eq_nil_of_le (by omega), List.nil_append]
  congr 1
  omega
/-- blanks ahead turn nothing but places -/
theorem tokL_blank (B l : List UInt8) (p : Nat) (hB : ∀ b ∈ B, isBlk b = true) : tokL (B ++ l) p = tokL l (p + B.length) := by
  have e1 := drop_blank B l hB
  have e2 := runB_pre isBlk B l hB
  have e3 : p + (B.length + runB isBlk l) = p + B.length + runB isBlk l := by omega
  by_cases h0 : (l.drop (runB isBlk l)).length = 0
  · rw [tokL_nil h0, tokL_nil (by rw [e1]; exact h0)]
  · by_cases h1 : (firstT (l.drop (runB isBlk l))).2.2 = 0
    · rw [tokL_go h0 h1, tokL_go (by rw [e1]; exact h0) (by rw [e1]; exact h1)]
      simp only [e1]
      rw [e2, e3]
    · rw [tokL_bad h0 h1, tokL_bad (by rw [e1]; exact h0) (by rw [e1]; exact h1)]
      simp only [e1]
      rw [e2, e3]
def addAt (q : Nat) (t : Tk) : Tk := ⟨t.kind, t.text, q + t.at_⟩
theorem tokL_shift : ∀ (m : Nat) (l : List UInt8) (p q : Nat), l.length ≤ m → (tokL l (q + p)).2.2 = (tokL l p).2.2 ∧ (tokL l (q + p)).1 = (tokL l p).1.map (addAt q)
  | m, l, p, q, hm => by
    by_cases h0 : (l.drop (runB isBlk l)).length = 0
    · rw [tokL_nil h0, tokL_nil h0]
      exact ⟨rfl, rfl⟩
    · by_cases h1 : (firstT (l.drop (runB isBlk l))).2.2 = 0
      · have hp := firstT_pos h1
        have hl := h0
        rw [List.length_drop] at hl
        obtain ⟨m, rfl⟩ : ∃ k, m = k + 1 := ⟨m - 1, by omega⟩
        have ih := tokL_shift m ((l.drop (runB isBlk l)).drop (firstT (l.drop (runB isBlk l))).2.1) (p + runB isBlk l + (firstT (l.drop (runB isBlk l))).2.1) q (by rw [List.length_drop, List.length_drop]; omega)
        rw [tokL_go h0 h1, tokL_go h0 h1]
        rw [show q + p + runB isBlk l + (firstT (l.drop (runB isBlk l))).2.1 = q + (p + runB isBlk l + (firstT (l.drop (runB isBlk l))).2.1) from by omega]
        rw [ih.1]
        split
        · exact ⟨rfl, by simp only [List.map_cons, ih.2, addAt]; rw [show q + p + runB isBlk l = q + (p + runB isBlk l) from by omega]⟩
        · exact ih
      · rw [tokL_bad h0 h1, tokL_bad h0 h1]
        exact ⟨rfl, rfl⟩
/-! what a token is depends on the byte behind it alone -/
theorem pre_take2 {x l : List UInt8} (hx : x.length ≤ 2) : x.isPrefixOf l = x.isPrefixOf (l.take 2) := by
  match x, l, hx with
  | [], _, _ => simp
  | [a], [], _ => rfl
  | [a], b :: l, _ => simp [List.isPrefixOf]
  | [a, b], [], _ => rfl
  | [a, b], [c], _ => rfl
  | [a, b], c :: d :: l, _ => simp [List.isPrefixOf]
  | _ :: _ :: _ :: _, _, h => simp at h
theorem signL_le : ∀ s ∈ signL, s.length ≤ 2 ∧ 0 < s.length := by decide
/-- a byte that is a token by itself, whatever is around it -/
def Lone (c : UInt8) : Prop := isWd c = false ∧ ∀ s ∈ signL, s[1]? ≠ some c
/-- what begins alike, or with bytes that are tokens by themselves -/
def Kin (v v' : List UInt8) : Prop := v.head? = v'.head? ∨ ∃ c r c' r', v = c :: r ∧ v' = c' :: r' ∧ Lone c ∧ Lone c'
theorem Kin.app {v v' : List UInt8} (h : Kin v v') (a : List UInt8) : Kin (a ++ v) (a ++ v') := by
  cases a with
  | nil => exact h
  | cons x a => exact .inl rfl
theorem isDig_wd {b : UInt8} (h : isDig b = true) : isWd b = true := by unfold isWd; rw [h]; simp
theorem Lone.dig {c : UInt8} (h : Lone c) : isDig c = false := by
  cases hd : isDig c
  · rfl
  · have := isDig_wd hd
    rw [h.1] at this
    exact this.symm
theorem sign_kin {u v v' : List UInt8} (hu : 0 < u.length) (hk : Kin v v') : ∀ x ∈ signL, x.isPrefixOf (u ++ v) = x.isPrefixOf (u ++ v') := by
  intro x hx
  have hl := signL_le x hx
  match u, hu with
  | a :: b :: u, _ => rw [pre_take2 hl.1, pre_take2 (l := a :: b :: u ++ v') hl.1]; simp
  | [a], _ =>
    match x, hl with
    | [d], _ => simp [List.isPrefixOf]
    | [d, e], _ =>
      rcases hk with hk | ⟨c, r, c', r', rfl, rfl, h1, h2⟩
      · cases v with
        | nil =>
          cases v' with
          | nil => rfl
          | cons c r => simp at hk
        | cons b r =>
          cases v' with
          | nil => simp at hk
          | cons c r' =>
            have e : b = c := by simpa using hk
            subst e
            simp [List.isPrefixOf]
      · have e1 : e ≠ c := fun e' => h1.2 _ hx (by rw [e']; rfl)
        have e2 : e ≠ c' := fun e' => h2.2 _ hx (by rw [e']; rfl)
        have e3 : (e == c) = false := by simpa using e1
        have e4 : (e == c') = false := by simpa using e2
        simp [List.isPrefixOf, e3, e4]
    | _ :: _ :: _ :: _, h => simp at h
theorem find_kin {l l' : List UInt8} : ∀ (L : List (List UInt8)), (∀ x ∈ L, x.isPrefixOf l = x.isPrefixOf l') → L.find? (fun x => x.isPrefixOf l) = L.find? (fun x => x.isPrefixOf l')
  | [], _ => rfl
  | a :: L, hL => by
    simp only [List.find?_cons, hL a List.mem_cons_self, find_kin L fun s hs => hL s (List.mem_cons_of_mem _ hs)]
theorem runB_stopped {p : UInt8 → Bool} {u v v' : List UInt8} (h : runB p (u ++ v) ≤ u.length) (hp : ∀ c, Lone c → p c = false) (hh : Kin v v') : runB p (u ++ v') = runB p (u ++ v) := by
  induction u with
  | nil =>
    rcases hh with hh | ⟨c, r, c', r', rfl, rfl, h1, h2⟩
    · cases v with
      | nil =>
        cases v' with
        | nil => rfl
        | cons a r => simp at hh
      | cons b r =>
        cases v' with
        | nil => simp at hh
        | cons a r' =>
          have e : b = a := by simpa using hh
          subst e
          cases hp : p b with
          | false => rw [List.nil_append, List.nil_append, runB_zero hp, runB_zero hp]
          | true =>
            have := runB_pos (l := r) hp
            rw [List.nil_append] at h
            simp only [List.length_nil] at h
            omega
    · rw [List.nil_append, List.nil_append, runB_zero (hp _ h1), runB_zero (hp _ h2)]
  | cons a u ih =>
    cases hp : p a with
    | false => simp [runB, List.takeWhile, hp]
    | true =>
      simp only [runB, List.cons_append, List.takeWhile, hp, List.length_cons] at h ih ⊢
      rw [ih (by omega)]
/-- a token with something else behind it, that is kin, is the same token -/
theorem fT_swap {u v v' : List UInt8} {k : Int} (h : firstT (u ++ v) = (k, u.length, 0)) (hh : Kin v v') : firstT (u ++ v') = (k, u.length, 0) := by
  have hpos := firstT_pos (l := u ++ v) (by rw [h])
  rw [h] at hpos
  simp only at hpos
  by_cases hd : 0 < runB isDig (u ++ v)
  · rw [fT_num hd] at h
    split at h
    · rename_i hb
      simp only [Prod.mk.injEq] at h
      obtain ⟨hk, hn, _⟩ := h
      simp only [Bool.and_eq_true, Bool.not_eq_true', decide_eq_false_iff_not] at hb
      have e1 := runB_stopped (p := isDig) (u := u) (v := v) (v' := v') (by omega) (fun c hc => hc.dig) hh
      have e2 := runB_stopped (p := isWd) (u := u) (v := v) (v' := v') (by omega) (fun c hc => hc.1) hh
      rw [fT_num (by rw [e1]; exact hd), e1, e2, hn]
      rw [hn] at hb
      have e3 : (u ++ v').take u.length = (u ++ v).take u.length := by simp
      rw [e3, hb.1, ← hk]
      have e4 : decide (u.length < runB isWd (u ++ v)) = false := by simpa using hb.2
      rw [e4]
      rfl
    · simp at h
  · rw [fT_none hd] at h
    split at h
    · simp at h
    · rename_i h16
      split at h
      · rename_i hp
        simp only [Prod.mk.injEq] at h
        obtain ⟨hk, hn, _⟩ := h
        have e1 := runB_stopped (p := isDig) (u := u) (v := v) (v' := v') (by omega) (fun c hc => hc.dig) hh
        have e2 := runB_stopped (p := isWd) (u := u) (v := v) (v' := v') (by omega) (fun c hc => hc.1) hh
        rw [fT_none (by rw [e1]; omega), e2, if_neg h16, if_pos hp, hn, ← hk]
      · rename_i hp
        split at h
        · rename_i s hs
          simp only [Prod.mk.injEq] at h
          obtain ⟨hk, hn, _⟩ := h
          have e1 := runB_stopped (p := isDig) (u := u) (v := v) (v' := v') (by omega) (fun c hc => hc.dig) hh
          have e2 := runB_stopped (p := isWd) (u := u) (v := v) (v' := v') (by omega) (fun c hc => hc.1) hh
          have e3 := find_kin signL (sign_kin hpos hh)
          rw [fT_none (by rw [e1]; omega), e2, if_neg h16, if_neg hp]
          simp only [← e3, hs, hk, hn]
        · simp at h
/-! a text with another end -/
theorem tokL_place : ∀ (m : Nat) (l : List UInt8) (p : Nat), l.length ≤ m → ((tokL l p).2.2 = 0 → (tokL l p).2.1 = 0) ∧ (∀ t ∈ (tokL l p).1, p ≤ t.at_)
  | m, l, p, hm => by
    by_cases h0 : (l.drop (runB isBlk l)).length = 0
    · rw [tokL_nil h0]
      exact ⟨fun _ => rfl, fun t ht => by simp at ht⟩
    · by_cases h1 : (firstT (l.drop (runB isBlk l))).2.2 = 0
      · have hp := firstT_pos h1
        have hl := h0
        rw [List.length_drop] at hl
        obtain ⟨m, rfl⟩ : ∃ k, m = k + 1 := ⟨m - 1, by omega⟩
        have ih := tokL_place m ((l.drop (runB isBlk l)).drop (firstT (l.drop (runB isBlk l))).2.1) (p + runB isBlk l + (firstT (l.drop (runB isBlk l))).2.1) (by rw [List.length_drop, List.length_drop]; omega)
        rw [tokL_go h0 h1]
        split
        · refine ⟨fun _ => rfl, fun t ht => ?_⟩
          rcases List.mem_cons.1 ht with rfl | ht
          · show p ≤ p + runB isBlk l
            omega
          · have := ih.2 t ht
            omega
        · exact ⟨ih.1, fun t ht => by have := ih.2 t ht; omega⟩
      · rw [tokL_bad h0 h1]
        exact ⟨fun h => absurd h h1, fun t ht => by simp at ht⟩
theorem runB_inside {p : UInt8 → Bool} {u v v' : List UInt8} (h : runB p (u ++ v) < u.length) : runB p (u ++ v') = runB p (u ++ v) := by
  induction u with
  | nil => simp at h
  | cons a u ih =>
    cases hp : p a with
    | false => simp [runB, List.takeWhile, hp]
    | true =>
      simp only [runB, List.cons_append, List.takeWhile, hp, List.length_cons] at h ih ⊢
      rw [ih (by omega)]
/-- the first token, and what is behind it -/
theorem tokL_cons {l : List UInt8} {p : Nat} {x : Tk} {r : List Tk} (h : tokL l p = (x :: r, 0, 0)) :
    x.at_ = p + runB isBlk l ∧ x.text = (l.drop (runB isBlk l)).take x.text.length ∧ firstT (l.drop (runB isBlk l)) = (x.kind, x.text.length, 0) ∧ 0 < x.text.length ∧ runB isBlk l + x.text.length ≤ l.length ∧ tokL (l.drop (runB isBlk l + x.text.length)) (p + runB isBlk l + x.text.length) = (r, 0, 0) := by
  by_cases h0 : (l.drop (runB isBlk l)).length = 0
  · rw [tokL_nil h0] at h; simp at h
  · by_cases h1 : (firstT (l.drop (runB isBlk l))).2.2 = 0
    · have hp := firstT_pos h1
      have hle := firstT_le (l := l.drop (runB isBlk l))
      have hpl := (tokL_place _ ((l.drop (runB isBlk l)).drop (firstT (l.drop (runB isBlk l))).2.1) (p + runB isBlk l + (firstT (l.drop (runB isBlk l))).2.1) (Nat.le_refl _)).1
      rw [tokL_go h0 h1] at h
      split at h
      · rename_i h2
        obtain ⟨⟨k, n, e⟩, hq⟩ : ∃ q, q = firstT (l.drop (runB isBlk l)) := ⟨_, rfl⟩
        rw [← hq] at h h1 hp hle h2 hpl
        simp only at h h1 hp hle h2 hpl
        simp only [Prod.mk.injEq, List.cons.injEq, and_true] at h
        obtain ⟨hx, hr⟩ := h
        have hn : x.text.length = n := by rw [← hx]; simp only [List.length_take]; omega
        rw [hn]
        rw [List.length_drop] at hle
        have hbl := runB_le isBlk l
        refine ⟨by rw [← hx], by rw [← hx], by rw [← hq, ← hx, ← h1], hp, by omega, ?_⟩
        rw [List.drop_drop] at hr h2 hpl
        exact Prod.ext hr (Prod.ext (hpl h2) h2)
      · rename_i h2
        rw [h] at h2
        exact absurd rfl h2
    · rw [tokL_bad h0 h1] at h; simp at h
theorem tokL_mk {l : List UInt8} {p : Nat} {k : Int} {u v : List UInt8} {r : List Tk} (hl : l.drop (runB isBlk l) = u ++ v) (h : firstT (u ++ v) = (k, u.length, 0)) (hr : tokL v (p + runB isBlk l + u.length) = (r, 0, 0)) : tokL l p = (⟨k, u, p + runB isBlk l⟩ :: r, 0, 0) := by
  have hp := firstT_pos (l := u ++ v) (by rw [h])
  rw [h] at hp
  simp only at hp
  rw [tokL_go (by rw [hl, List.length_append]; omega) (by rw [hl, h])]
  rw [hl, h]
  simp only [List.drop_left, List.take_left, hr]
  rfl
/-- what is ahead of a token is as it was, with nothing, or with what begins alike, behind it -/
theorem tokL_swap : ∀ (pre : List Tk) (a b b' : List UInt8) (p : Nat) (post r : List Tk) (t : Tk), (b' = [] ∨ Kin b b') → tokL (a ++ b) p = (pre ++ t :: post, 0, 0) → t.at_ = p + a.length →
    tokL b (p + a.length) = (t :: post, 0, 0) ∧ (tokL b' (p + a.length) = (r, 0, 0) → tokL (a ++ b') p = (pre ++ r, 0, 0))
  | [], a, b, b', p, post, r, t, hb, h, ht => by
    have hc := tokL_cons (x := t) (r := post) h
    have e : runB isBlk (a ++ b) = a.length := by omega
    have hal : ∀ x ∈ a, isBlk x = true := by
      intro x hx
      obtain ⟨i, hi, rfl⟩ := List.getElem_of_mem hx
      have h2 := runB_take isBlk (a ++ b) a.length
      rw [List.take_left, e, Nat.min_self] at h2
      by_cases hx : isBlk a[i] = true
      · exact hx
      · have := runB_stop (p := isBlk) (l := a) (i := i) (b := a[i]) (by simp [hi]) (by simpa using hx) (by omega)
        omega
    rw [tokL_blank a b p hal] at h
    rw [tokL_blank a b' p hal]
    exact ⟨h, fun h => h⟩
  | x :: pre, a, b, b', p, post, r, t, hb, h, ht => by
    have hc := tokL_cons (x := x) (r := pre ++ t :: post) h
    obtain ⟨n, hn⟩ : ∃ n, n = x.text.length := ⟨_, rfl⟩
    obtain ⟨B, hB⟩ : ∃ n, n = runB isBlk (a ++ b) := ⟨_, rfl⟩
    rw [← hn, ← hB] at hc
    obtain ⟨h1, h2, h3, h4, h5, h6⟩ := hc
    have hge := (tokL_place _ ((a ++ b).drop (B + n)) (p + B + n) (Nat.le_refl _)).2 t (by rw [h6]; simp)
    have hle : B + n ≤ a.length := by omega
    have ed : ∀ c : List UInt8, (a ++ c).drop (B + n) = a.drop (B + n) ++ c := fun c => List.drop_append_of_le_length hle
    rw [ed b] at h6
    have ih := tokL_swap pre (a.drop (B + n)) b b' (p + B + n) post r t hb h6 (by rw [List.length_drop]; omega)
    rw [List.length_drop, show p + B + n + (a.length - (B + n)) = p + a.length from by omega] at ih
    refine ⟨ih.1, fun hr => ?_⟩
    have hr2 := ih.2 hr
    have hu : a.drop B = (a.drop B).take n ++ a.drop (B + n) := by rw [← List.drop_drop, List.take_append_drop]
    have hul : ((a.drop B).take n).length = n := by rw [List.length_take, List.length_drop]; omega
    have ed1 : ∀ c : List UInt8, (a ++ c).drop B = (a.drop B).take n ++ (a.drop (B + n) ++ c) := fun c => by
      rw [List.drop_append_of_le_length (by omega), ← List.append_assoc, ← hu]
    have eB : runB isBlk (a ++ b') = B := by rw [hB]; exact runB_inside (by omega)
    rw [ed1 b] at h3 h2
    have hx : x.text = (a.drop B).take n := by rw [h2]; exact List.take_left' hul
    have hf : firstT ((a.drop B).take n ++ (a.drop (B + n) ++ b')) = (x.kind, ((a.drop B).take n).length, 0) := by
      rw [hul]
      by_cases hz : Kin (a.drop (B + n) ++ b) (a.drop (B + n) ++ b')
      · have := fT_swap (u := (a.drop B).take n) (k := x.kind) (by rw [hul]; exact h3) hz
        rwa [hul] at this
      · have hnil : a.drop (B + n) ++ b' = [] := by
          cases ha : a.drop (B + n) with
          | cons c d => rw [ha] at hz; exact absurd (.inl rfl) hz
          | nil =>
            rw [ha] at hz
            rcases hb with rfl | hb
            · rfl
            · exact absurd hb hz
        have := (fT_own h3).1
        rw [List.take_left' hul] at this
        rw [hnil, List.append_nil]
        exact this
    have := tokL_mk (l := a ++ b') (p := p) (by rw [eB]; exact ed1 b') hf (by rw [eB, hul]; exact hr2)
    rw [this, eB]
    show (_ :: (pre ++ r), (0 : Nat), (0 : Int)) = (x :: (pre ++ r), 0, 0)
    rw [← hx, ← h1]
theorem lies_ends {s : List UInt8} : ∀ {ts : List Tk} {p : Nat}, Lies s p ts → ∀ t ∈ ts, t.at_ + t.text.length ≤ s.length
  | [], _, _, t, ht => by simp at ht
  | a :: r, p, h, t, ht => by
    obtain ⟨_, h2, _, _, _, h6, h7⟩ := h
    rcases List.mem_cons.1 ht with rfl | ht
    · exact h2
    · exact lies_ends h7 t ht
/-- THE TEXT CUT AHEAD OF A TOKEN -/
theorem toks_cut {s : List UInt8} {pre post : List Tk} {t : Tk} (h : toks s = (pre ++ t :: post, 0, 0)) :
    s.length ≤ 4096 ∧ t.at_ ≤ s.length ∧ toks (s.take t.at_) = (pre, 0, 0) ∧ (∃ l, toks (s.drop t.at_) = (l, 0, 0) ∧ l.head? = some ⟨t.kind, t.text, 0⟩) ∧
      ∀ (o : List UInt8) (m : List Tk), toks o = (m, 0, 0) → (s.take t.at_ ++ t.text ++ 32 :: o).length ≤ 4096 → toks (s.take t.at_ ++ t.text ++ 32 :: o) = (pre ++ t :: m.map (addAt (t.at_ + t.text.length + 1)), 0, 0) := by
  have hs : s.length ≤ 4096 := (toks_lies (by rw [h])).2
  rw [tokL_toks hs] at h
  have hlen : ∀ t' ∈ pre ++ t :: post, t'.at_ + t'.text.length ≤ s.length := by
    have := (toks_lies (s := s) (by rw [tokL_toks hs, h])).1
    rw [tokL_toks hs, h] at this
    exact lies_ends this
  have hat : t.at_ + t.text.length ≤ s.length := hlen t (by simp)
  have e : s.take t.at_ ++ s.drop t.at_ = s := List.take_append_drop _ _
  have hl : (s.take t.at_).length = t.at_ := by rw [List.length_take]; omega
  have key := fun b' r hb => tokL_swap pre (s.take t.at_) (s.drop t.at_) b' 0 post r t hb (by rw [e]; exact h) (by rw [hl, Nat.zero_add])
  rw [hl, Nat.zero_add] at key
  have hdr := (key [] [] (.inl rfl)).1
  have hc := tokL_cons hdr
  have hb0 : runB isBlk (s.drop t.at_) = 0 := by have := hc.1; omega
  rw [hb0] at hc
  simp only [List.drop_zero, Nat.add_zero, Nat.zero_add] at hc
  obtain ⟨_, c2, c3, c4, c5, c6⟩ := hc
  refine ⟨hs, by omega, ?_, ?_, fun o m ho hol => ?_⟩
  · rw [tokL_toks (by omega)]
    have := (key [] [] (.inl rfl)).2 (tokL_nil rfl)
    simpa using this
  · have hsh := tokL_shift _ (s.drop t.at_) 0 t.at_ (Nat.le_refl _)
    rw [Nat.add_zero, hdr] at hsh
    obtain ⟨q, hq⟩ : ∃ q, q = tokL (s.drop t.at_) 0 := ⟨_, rfl⟩
    rw [← hq] at hsh
    have hpl := (tokL_place _ (s.drop t.at_) 0 (Nat.le_refl _)).1
    rw [← hq] at hpl
    refine ⟨q.1, ?_, ?_⟩
    · rw [tokL_toks (by rw [List.length_drop]; omega), ← hq]
      exact Prod.ext rfl (Prod.ext (hpl hsh.1.symm) hsh.1.symm)
    · have h2 := hsh.2
      cases hq1 : q.1 with
      | nil => rw [hq1] at h2; simp at h2
      | cons y r =>
        rw [hq1] at h2
        simp only [List.map_cons, List.cons.injEq] at h2
        have h3 := h2.1
        unfold addAt at h3
        rw [h3]
        have : y.at_ = 0 := by
          have := congrArg Tk.at_ h3
          simp only at this
          omega
        show some y = some ⟨y.kind, y.text, 0⟩
        rw [← this]
  · have ho1 : o.length ≤ 4096 := (toks_lies (by rw [ho])).2
    have ho2 := ho
    rw [tokL_toks ho1] at ho2
    have hsh := tokL_shift _ o 0 (t.at_ + t.text.length + 1) (Nat.le_refl _)
    rw [Nat.add_zero, ho2] at hsh
    have hpl := (tokL_place _ o (t.at_ + t.text.length + 1) (Nat.le_refl _)).1 hsh.1
    have ho3 : tokL o (t.at_ + t.text.length + 1) = (m.map (addAt (t.at_ + t.text.length + 1)), 0, 0) := Prod.ext hsh.2 (Prod.ext hpl hsh.1)
    have hbl : tokL (32 :: o) (t.at_ + t.text.length) = (m.map (addAt (t.at_ + t.text.length + 1)), 0, 0) := by
      have := tokL_blank [32] o (t.at_ + t.text.length) (by decide)
      rw [List.singleton_append] at this
      rw [this]
      exact ho3
    have hf : firstT (t.text ++ 32 :: o) = (t.kind, t.text.length, 0) := by
      have := (fT_own c3).2 o
      rwa [← c2] at this
    have hb2 : runB isBlk (t.text ++ 32 :: o) = 0 := fT_blk hf
    have hmk := tokL_mk (l := t.text ++ 32 :: o) (p := t.at_) (k := t.kind) (u := t.text) (v := 32 :: o) (by rw [hb2]; rfl) hf (by rw [hb2, Nat.add_zero]; exact hbl)
    rw [hb2, Nat.add_zero] at hmk
    rw [tokL_toks hol, List.append_assoc]
    have := (key (t.text ++ 32 :: o) (t :: m.map (addAt (t.at_ + t.text.length + 1))) (.inr (.inl ?_))).2 hmk
    · simpa using this
    · rw [c2]
      obtain ⟨x, y, hxy⟩ : ∃ x y, s.drop t.at_ = x :: y := by
        cases hd : s.drop t.at_ with
        | nil => rw [hd] at c5; simp only [List.length_nil] at c5; omega
        | cons x y => exact ⟨x, y, rfl⟩
      rw [hxy]
      obtain ⟨k, hk⟩ : ∃ k, t.text.length = k + 1 := ⟨t.text.length - 1, by omega⟩
      rw [hk]
      rfl
end Go.Proofs.YtfkdbifnhgadaaaGreatDoor

/-
  Plain laws on tokens: where a byte stands that is a token by itself. No program.
-/
namespace Go.Proofs.YtfkdbifnhgadaaaGreatDoor
open Go.RowKit
set_option linter.unusedVariables false
set_option linter.unusedSimpArgs false

theorem lone59 : Lone 59 := ⟨by decide, by decide⟩
theorem lone41 : Lone 41 := ⟨by decide, by decide⟩
theorem fT_lone {u v : List UInt8} {c : UInt8} {k : Int} {n : Nat} (hu : 0 < u.length) (hc : Lone c) (h : firstT (u ++ c :: v) = (k, n, 0)) : n ≤ u.length := by
  have hD := runB_app isDig u v c hc.dig
  have hW := runB_app isWd u v c hc.1
  have hDl := runB_le isDig u
  have hWl := runB_le isWd u
  by_cases hd : 0 < runB isDig (u ++ c :: v)
  · rw [fT_num hd] at h
    split at h
    · simp only [Prod.mk.injEq] at h
      omega
    · simp at h
  · rw [fT_none hd] at h
    split at h
    · simp at h
    · split at h
      · simp only [Prod.mk.injEq] at h
        omega
      · split at h
        · rename_i s hs
          simp only [Prod.mk.injEq] at h
          have hm := List.mem_of_find?_eq_some hs
          have hpf := List.find?_some hs
          have hl := signL_le s hm
          match u, hu with
          | a :: b :: u, _ => simp only [List.length_cons]; omega
          | [a], _ =>
            match s, hl with
            | [d], _ => simp only [List.length_cons, List.length_nil] at h ⊢; omega
            | [d, e], _ =>
              exfalso
              have h2 : e = c := by
                simp [List.isPrefixOf] at hpf
                exact hpf.2
              exact hc.2 _ hm (by rw [h2]; rfl)
            | _ :: _ :: _ :: _, h => simp at h
        · simp at h
theorem tokL_lone : ∀ (m : Nat) (a v : List UInt8) (c : UInt8) (p : Nat) (ts : List Tk), a.length ≤ m → Lone c → isBlk c = false → (∃ k, firstT (c :: v) = (k, 1, 0)) → tokL (a ++ c :: v) p = (ts, 0, 0) →
    ∃ pre t post, ts = pre ++ t :: post ∧ t.at_ = p + a.length ∧ t.text = [c]
  | m, a, v, c, p, ts, hm, hc, hb, hf, h => by
    have hB := runB_app isBlk a v c hb
    have hBl := runB_le isBlk a
    cases ts with
    | nil =>
      by_cases h0 : ((a ++ c :: v).drop (runB isBlk (a ++ c :: v))).length = 0
      · rw [List.length_drop, List.length_append, List.length_cons] at h0
        omega
      · by_cases h1 : (firstT ((a ++ c :: v).drop (runB isBlk (a ++ c :: v)))).2.2 = 0
        · rw [tokL_go h0 h1] at h
          split at h
          · simp at h
          · rename_i h2
            rw [h] at h2
            exact absurd rfl h2
        · rw [tokL_bad h0 h1] at h
          simp only [Prod.mk.injEq] at h
          exact absurd h.2.2 h1
    | cons x r =>
      obtain ⟨h1, h2, h3, h4, h5, h6⟩ := tokL_cons h
      obtain ⟨B, hBe⟩ : ∃ B, B = runB isBlk (a ++ c :: v) := ⟨_, rfl⟩
      rw [← hBe] at h1 h2 h3 h5 h6
      by_cases hz : B = a.length
      · refine ⟨[], x, r, rfl, by omega, ?_⟩
        obtain ⟨k, hk⟩ := hf
        have e : (a ++ c :: v).drop B = c :: v := by rw [hz, List.drop_left]
        rw [e, hk] at h3
        simp only [Prod.mk.injEq] at h3
        rw [h2, e, ← h3.2.1]
        rfl
      · have hlt : B < a.length := by omega
        have e : (a ++ c :: v).drop B = a.drop B ++ c :: v := List.drop_append_of_le_length (by omega)
        rw [e] at h3
        have hn := fT_lone (by rw [List.length_drop]; omega) hc h3
        rw [List.length_drop] at hn
        have e2 : (a ++ c :: v).drop (B + x.text.length) = a.drop (B + x.text.length) ++ c :: v := List.drop_append_of_le_length (by omega)
        rw [e2] at h6
        obtain ⟨m, rfl⟩ : ∃ k, m = k + 1 := ⟨m - 1, by omega⟩
        obtain ⟨pre, t, post, e3, h7, h8⟩ := tokL_lone m (a.drop (B + x.text.length)) v c (p + B + x.text.length) r (by rw [List.length_drop]; omega) hc hb hf h6
        exact ⟨x :: pre, t, post, by rw [e3]; rfl, by rw [h7, List.length_drop]; omega, h8⟩
/-- "main{x=" and what is behind it -/
def mainL : List UInt8 := [109, 97, 105, 110, 123, 120, 61]
def mainT : List Tk := [⟨1, [109, 97, 105, 110], 0⟩, ⟨3, [123], 4⟩, ⟨1, [120], 5⟩, ⟨3, [61], 6⟩]
theorem fT_main (r : List UInt8) : firstT (109 :: 97 :: 105 :: 110 :: 123 :: r) = (1, 4, 0) := rfl
theorem fT_brace (r : List UInt8) : firstT (123 :: r) = (3, 1, 0) := rfl
theorem fT_x (r : List UInt8) : firstT (120 :: 61 :: r) = (1, 1, 0) := rfl
theorem fT_eq {r : List UInt8} (h : r.head? ≠ some 61) : firstT (61 :: r) = (3, 1, 0) := by
  cases r with
  | nil => rfl
  | cons c r =>
    have hc : ¬ c = 61 := by simpa using h
    have e : ∀ x ∈ signL, x.isPrefixOf (61 :: c :: r) = x.isPrefixOf [61] := by
      intro x hx
      have hl := signL_le x hx
      match x, hl with
      | [d], _ => simp [List.isPrefixOf]
      | [d, e], _ =>
        have : ¬ (d = 61 ∧ e = c) := fun ⟨h1, h2⟩ => by
          subst h1
          have : ∀ y ∈ signL, y[0]? = some 61 → y[1]? = none ∨ y[1]? = some 61 := by decide
          rcases this _ hx rfl with h | h
          · simp at h
          · simp at h
            exact hc (h2 ▸ h)
        simp [List.isPrefixOf]
        intro h1 h2
        exact this ⟨h1, h2⟩
      | _ :: _ :: _ :: _, h => simp at h
    have e2 := find_kin signL e
    have h1 : ¬ 0 < runB isDig (61 :: c :: r) := by rw [runB_zero (by decide)]; omega
    have h2 : runB isWd (61 :: c :: r) = 0 := runB_zero (by decide)
    rw [fT_none h1, h2, if_neg (by omega), if_neg (by omega)]
    have e3 : signL.find? (fun x => x.isPrefixOf [61]) = some [61] := by decide
    simp only [e2, e3]
    rfl
theorem fT_eq2 (r : List UInt8) : firstT (61 :: 61 :: r) = (3, 2, 0) := rfl
theorem blk_main (r : List UInt8) : runB isBlk (109 :: r) = 0 := rfl
theorem blk_brace (r : List UInt8) : runB isBlk (123 :: r) = 0 := rfl
theorem blk_x (r : List UInt8) : runB isBlk (120 :: r) = 0 := rfl
theorem blk_eq (r : List UInt8) : runB isBlk (61 :: r) = 0 := rfl
/-- the tokens of it -/
theorem tokL_main {w : List UInt8} (hw : w.head? ≠ some 61) {ts : List Tk} (h : tokL w 7 = (ts, 0, 0)) : tokL (mainL ++ w) 0 = (mainT ++ ts, 0, 0) := by
  have h3 : tokL (61 :: w) 6 = (⟨3, [61], 6⟩ :: ts, 0, 0) := tokL_mk (l := 61 :: w) (p := 6) (k := 3) (u := [61]) (v := w) rfl (fT_eq hw) h
  have h2 : tokL (120 :: 61 :: w) 5 = (⟨1, [120], 5⟩ :: ⟨3, [61], 6⟩ :: ts, 0, 0) := tokL_mk (l := 120 :: 61 :: w) (p := 5) (k := 1) (u := [120]) (v := 61 :: w) rfl (fT_x w) h3
  have h1 : tokL (123 :: 120 :: 61 :: w) 4 = (⟨3, [123], 4⟩ :: ⟨1, [120], 5⟩ :: ⟨3, [61], 6⟩ :: ts, 0, 0) := tokL_mk (l := 123 :: 120 :: 61 :: w) (p := 4) (k := 3) (u := [123]) (v := 120 :: 61 :: w) rfl (fT_brace _) h2
  exact tokL_mk (l := mainL ++ w) (p := 0) (k := 1) (u := [109, 97, 105, 110]) (v := 123 :: 120 :: 61 :: w) rfl (fT_main _) h1
theorem tokL_tail {l : List UInt8} {p : Nat} {k : Int} {n : Nat} {ts : List Tk} (h : tokL l p = (ts, 0, 0)) (hb : runB isBlk l = 0) (hf : firstT l = (k, n, 0)) : ∃ r, ts = ⟨k, l.take n, p⟩ :: r ∧ tokL (l.drop n) (p + n) = (r, 0, 0) := by
  cases ts with
  | nil =>
    have hpos := firstT_pos (l := l) (by rw [hf])
    have hle := firstT_le (l := l)
    rw [hf] at hpos hle
    simp only at hpos hle
    have h0 : ¬ (l.drop (runB isBlk l)).length = 0 := by rw [hb, List.drop_zero]; omega
    have h1 : (firstT (l.drop (runB isBlk l))).2.2 = 0 := by rw [hb, List.drop_zero, hf]
    rw [tokL_go h0 h1] at h
    split at h
    · simp at h
    · rename_i h2
      rw [h] at h2
      exact absurd rfl h2
  | cons x r =>
    obtain ⟨h1, h2, h3, h4, h5, h6⟩ := tokL_cons h
    rw [hb] at h1 h2 h3 h5 h6
    rw [List.drop_zero] at h2 h3
    rw [hf] at h3
    simp only [Prod.mk.injEq, and_true] at h3
    simp only [Nat.add_zero, Nat.zero_add] at h1 h5 h6
    rw [← h3.2] at h2 h6
    exact ⟨r, by rw [← h2, h3.1, ← h1], h6⟩
theorem tokL_main_back {w : List UInt8} {ts : List Tk} (h : tokL (mainL ++ w) 0 = (ts, 0, 0)) : (w.head? ≠ some 61 ∧ ∃ r, ts = mainT ++ r ∧ tokL w 7 = (r, 0, 0)) ∨ ∃ r, ts = ⟨1, [109, 97, 105, 110], 0⟩ :: ⟨3, [123], 4⟩ :: ⟨1, [120], 5⟩ :: ⟨3, [61, 61], 6⟩ :: r := by
  obtain ⟨r1, e1, h1⟩ := tokL_tail (l := mainL ++ w) h rfl (fT_main _)
  obtain ⟨r2, e2, h2⟩ := tokL_tail (l := 123 :: 120 :: 61 :: w) h1 rfl (fT_brace _)
  obtain ⟨r3, e3, h3⟩ := tokL_tail (l := 120 :: 61 :: w) h2 rfl (fT_x _)
  by_cases hw : w.head? = some 61
  · right
    obtain ⟨y, rfl⟩ : ∃ y, w = 61 :: y := by
      cases w with
      | nil => simp at hw
      | cons a b => exact ⟨b, by simp at hw; rw [hw]⟩
    obtain ⟨r4, e4, h4⟩ := tokL_tail (l := 61 :: 61 :: y) h3 rfl (fT_eq2 _)
    exact ⟨r4, by rw [e1, e2, e3, e4]; rfl⟩
  · left
    obtain ⟨r4, e4, h4⟩ := tokL_tail (l := 61 :: w) h3 rfl (fT_eq hw)
    exact ⟨hw, r4, by rw [e1, e2, e3, e4]; rfl, h4⟩
/-- THE TOKENS OF "main{x=" text ";}", and of "main{x=(" text ");}" -/
theorem toks_deep {t : List UInt8} {l : List Tk} (hl : t.length ≤ 1000) (h : toks (mainL ++ (t ++ [59, 125])) = (l, 0, 0)) :
    (∃ E a b, l = mainT ++ (E ++ [⟨3, [59], a⟩, ⟨3, [125], b⟩]) ∧ ∃ E' o c a' b', E'.map kt = E.map kt ∧ toks (mainL ++ (40 :: (t ++ [41, 59, 125]))) = (mainT ++ (⟨3, [40], o⟩ :: (E' ++ [⟨3, [41], c⟩, ⟨3, [59], a'⟩, ⟨3, [125], b'⟩])), 0, 0)) ∨
      ∃ r, l = ⟨1, [109, 97, 105, 110], 0⟩ :: ⟨3, [123], 4⟩ :: ⟨1, [120], 5⟩ :: ⟨3, [61, 61], 6⟩ :: r := by
  rw [tokL_toks (by simp [mainL]; omega)] at h
  rcases tokL_main_back h with ⟨hw, r, e1, h1⟩ | h2
  · left
    obtain ⟨pre, x, post, e2, hx, hxt⟩ := tokL_lone _ t [125] 59 7 r (Nat.le_refl _) lone59 (by decide) ⟨3, rfl⟩ h1
    rw [e2] at h1
    have key := fun (b' : List UInt8) (r' : List Tk) hb => tokL_swap pre t (59 :: [125]) b' 7 post r' x hb h1 hx
    have k0 := (key [] [] (.inl rfl)).1
    have k1 : tokL (59 :: [125]) (7 + t.length) = ([⟨3, [59], 7 + t.length⟩, ⟨3, [125], 7 + t.length + 1⟩], 0, 0) :=
      tokL_mk (l := 59 :: [125]) (k := 3) (u := [59]) (v := [125]) rfl rfl (tokL_mk (l := [125]) (k := 3) (u := [125]) (v := []) rfl rfl (tokL_nil rfl))
    rw [k1] at k0
    simp only [Prod.mk.injEq, and_true] at k0
    have kk := (key (41 :: [59, 125]) ([⟨3, [41], 7 + t.length⟩, ⟨3, [59], 7 + t.length + 1⟩, ⟨3, [125], 7 + t.length + 1 + 1⟩] : List Tk) (.inr (.inr ⟨59, [125], 41, [59, 125], rfl, rfl, lone59, lone41⟩))).2
      (tokL_mk (l := 41 :: [59, 125]) (k := 3) (u := [41]) (v := [59, 125]) rfl rfl (tokL_mk (l := [59, 125]) (k := 3) (u := [59]) (v := [125]) rfl rfl (tokL_mk (l := [125]) (k := 3) (u := [125]) (v := []) rfl rfl (tokL_nil rfl))))
    have hsh := tokL_shift _ (t ++ [41, 59, 125]) 7 1 (Nat.le_refl _)
    rw [show t ++ [41, 59, 125] = t ++ 41 :: [59, 125] from rfl, kk] at hsh
    have hpl := (tokL_place _ (t ++ 41 :: [59, 125]) (1 + 7) (Nat.le_refl _)).1 hsh.1
    have h8 : tokL (t ++ [41, 59, 125]) 8 = ((pre ++ ([⟨3, [41], 7 + t.length⟩, ⟨3, [59], 7 + t.length + 1⟩, ⟨3, [125], 7 + t.length + 1 + 1⟩] : List Tk)).map (addAt 1), 0, 0) := Prod.ext hsh.2 (Prod.ext hpl hsh.1)
    have h7 : tokL (40 :: (t ++ [41, 59, 125])) 7 = (⟨3, [40], 7⟩ :: (pre ++ ([⟨3, [41], 7 + t.length⟩, ⟨3, [59], 7 + t.length + 1⟩, ⟨3, [125], 7 + t.length + 1 + 1⟩] : List Tk)).map (addAt 1), 0, 0) :=
      tokL_mk (l := 40 :: (t ++ [41, 59, 125])) (p := 7) (k := 3) (u := [40]) (v := t ++ [41, 59, 125]) rfl rfl h8
    refine ⟨pre, 7 + t.length, 7 + t.length + 1, by rw [e1, e2, ← k0], pre.map (addAt 1), 7, 1 + (7 + t.length), 1 + (7 + t.length + 1), 1 + (7 + t.length + 1 + 1), ?_, ?_⟩
    · rw [List.map_map]
      rfl
    · rw [tokL_toks (by simp [mainL]; omega), tokL_main (by simp) h7, List.map_append]
      rfl
  · exact .inr h2
end Go.Proofs.YtfkdbifnhgadaaaGreatDoor
