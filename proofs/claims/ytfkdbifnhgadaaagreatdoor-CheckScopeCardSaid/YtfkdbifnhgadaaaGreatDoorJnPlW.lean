/-
  Plain law: what is wrong is told where it is. No program.
-/
import Derived.Test.YtfkdbifnhgadaaaGreatDoorJnLex
import Derived.Test.YtfkdbifnhgadaaaGreatDoorJnLoc
import Derived.Test.YtfkdbifnhgadaaaGreatDoorJnPs
import Derived.Test.YtfkdbifnhgadaaaGreatDoorJnGrA
import Derived.Test.YtfkdbifnhgadaaaGreatDoorJnCkC
namespace Go.Proofs.YtfkdbifnhgadaaaGreatDoor
open Go.RowKit Go.Shelf
set_option linter.unusedVariables false
set_option linter.unusedSimpArgs false

theorem tkQ_cells {w : World} {base : Nat} {v : Value} {l : List Tk} (h : w.ownsRow base 112 3 v l.length (l.flatMap tkC)) {k : Nat} {t : Tk} (hk : l[k]? = some t) :
    ∃ g cap, v = .slice (some ⟨g, 0, none⟩) l.length cap ∧ base ≤ g ∧ g < w.heap.size ∧ ∀ j, j < 3 → w.cell? ⟨g, k * 3 + j, none⟩ = (tkC t)[j]? := by
  have hkl := (List.getElem?_eq_some_iff.1 hk).1
  obtain ⟨g, cap, rfl, hb, hg⟩ := h.form (by omega)
  refine ⟨g, cap, rfl, hb, hg, fun j hj => ?_⟩
  rw [h.cellAt (k * 3 + j) (by omega), flat3 l k t hk j hj]
theorem rowQ_form {w : World} {base : Nat} {v : Value} {n : Nat} {xs : List Value} (h : w.ownsRow base 112 3 v n xs) : ∃ p cap, v = .slice p n cap := by
  obtain ⟨_, ⟨h1, h0⟩ | ⟨g, cap, cur, hv, _⟩⟩ := h
  · exact ⟨none, 0, by rw [h1, h0]⟩
  · exact ⟨_, cap, hv⟩
theorem fT_code (l : List UInt8) : (firstT l).2.2 = 0 ∨ (firstT l).2.2 = 80 ∨ (firstT l).2.2 = 81 ∨ (firstT l).2.2 = 82 := by
  by_cases hd : 0 < runB isDig l
  · rw [fT_num hd]
    split
    · exact .inl rfl
    · exact .inr (.inr (.inl rfl))
  · rw [fT_none hd]
    split
    · exact .inr (.inr (.inr rfl))
    split
    · exact .inl rfl
    split
    · exact .inl rfl
    · exact .inr (.inl rfl)
theorem tokL_err : ∀ (m : Nat) (l : List UInt8) (p : Nat), l.length ≤ m → (tokL l p).2.1 ≤ p + l.length ∧ ((tokL l p).2.2 = 0 ∨ (tokL l p).2.2 = 80 ∨ (tokL l p).2.2 = 81 ∨ (tokL l p).2.2 = 82)
  | m, l, p, hm => by
    have hb := runB_le isBlk l
    by_cases h0 : (l.drop (runB isBlk l)).length = 0
    · rw [tokL_nil h0]
      exact ⟨Nat.zero_le _, .inl rfl⟩
    · by_cases h1 : (firstT (l.drop (runB isBlk l))).2.2 = 0
      · have hp := firstT_pos h1
        have hle := firstT_le (l := l.drop (runB isBlk l))
        have hl := h0
        rw [List.length_drop] at hl hle
        obtain ⟨m, rfl⟩ : ∃ k, m = k + 1 := ⟨m - 1, by omega⟩
        have ih := tokL_err m ((l.drop (runB isBlk l)).drop (firstT (l.drop (runB isBlk l))).2.1) (p + runB isBlk l + (firstT (l.drop (runB isBlk l))).2.1) (by rw [List.length_drop, List.length_drop]; omega)
        rw [tokL_go h0 h1]
        split
        · exact ⟨Nat.zero_le _, .inl rfl⟩
        · refine ⟨Nat.le_trans ih.1 ?_, ih.2⟩
          rw [List.length_drop, List.length_drop]
          omega
      · rw [tokL_bad h0 h1]
        exact ⟨by simp only; omega, fT_code _⟩
theorem toks_err (s : List UInt8) : (toks s).2.1 ≤ s.length ∧ (toks s).2.2 ≠ 90 ∧ (toks s).2.2 ≠ 91 := by
  by_cases hl : 4096 < s.length
  · unfold toks
    rw [if_pos hl]
    exact ⟨Nat.zero_le _, by decide, by decide⟩
  · rw [tokL_toks (by omega)]
    have := tokL_err _ s 0 (Nat.le_refl _)
    refine ⟨by omega, ?_, ?_⟩ <;> rcases this.2 with h | h | h | h <;> rw [h] <;> decide
theorem lies_before {s : List UInt8} {t : Tk} {r : List Tk} : ∀ {pre : List Tk} {p : Nat}, Lies s p (pre ++ t :: r) → p ≤ t.at_ ∧ ∀ x ∈ pre, x.at_ < t.at_
  | [], p, h => ⟨h.1, fun x hx => by simp at hx⟩
  | a :: pre, p, h => by
    obtain ⟨h1, h2, h3, _, _, _, h7⟩ := h
    have ih := lies_before h7
    refine ⟨by omega, fun x hx => ?_⟩
    rcases List.mem_cons.1 hx with rfl | hx
    · omega
    · exact ih.2 x hx
theorem toks_live {s : List UInt8} (h : (toks s).2.2 = 0) : ∀ t ∈ (toks s).1, t.live := fun t ht hl => by
  have h1 := (toks_lies h).1.each t ht
  have hp := firstT_pos (l := t.text) (by rw [h1])
  rw [h1, hl.1] at hp
  simp at hp
theorem endT_dead (s : List UInt8) : ¬ (endT s).live := fun h => h ⟨rfl, rfl⟩
theorem parseB_ok {s : List UInt8} (h : (toks s).2.2 = 0) : parseB s = match treeP ((toks s).1 ++ [endT s]) with | .ok t _ => (t, 0, 0) | .err e a => (⟨[], [], [], .nil⟩, a, e) := by
  unfold parseB
  simp only
  rw [if_neg (by simpa using h)]
  rfl
theorem parseB_lex {s : List UInt8} (h : (toks s).2.2 ≠ 0) : parseB s = ((⟨[], [], [], .nil⟩ : Tre), ((toks s).2.1 : Int), (toks s).2.2) := by
  unfold parseB
  simp only
  rw [if_pos h]
theorem toks_zero {s : List UInt8} (h : (toks s).2.2 = 0) : toks s = ((toks s).1, 0, 0) := by
  have hs := (toks_lies h).2
  rw [tokL_toks hs] at h ⊢
  exact Prod.ext rfl (Prod.ext ((tokL_place _ s 0 (Nat.le_refl _)).1 h) h)
/-- an error's number is never 0 -/
theorem treeP_code {l : List Tk} (he : Ended l) {c a : Int} (h : treeP l = .err c a) : c = 90 ∨ c = 91 := by
  obtain ⟨_, _, _, _, _, h3, _⟩ := treeP_wrong he h
  rcases h3 with h | h
  · exact .inl h
  · exact .inr h.1
theorem parse_at0 {s : List UInt8} (h : (parseB s).2.2 = 0) : (parseB s).2.1 = 0 := by
  by_cases hq : (toks s).2.2 = 0
  · rw [parseB_ok hq] at h ⊢
    cases ht : treeP ((toks s).1 ++ [endT s]) with
    | ok t r => rfl
    | err c a =>
      rw [ht] at h
      have h : c = 0 := h
      rcases treeP_code ⟨_, _, rfl, endT_dead s⟩ ht with e | e <;> omega
  · rw [parseB_lex hq] at h
    exact absurd h hq
/-- WHAT IS WRONG, AND WHERE -/
theorem parse_wrong {s : List UInt8} (he : (parseB s).2.2 ≠ 0) :
    (parseB s).1.main.len = 0 ∧ 0 ≤ (parseB s).2.1 ∧ (parseB s).2.1 ≤ s.length ∧
    (((parseB s).2.2 = 90 ∨ (parseB s).2.2 = 91) → (parseB s).2.1 < s.length → ∃ p : Nat, (parseB s).2.1 = p ∧ p < s.length ∧
      ((parseB (s.take p)).2.2 = 0 ∨ ((parseB (s.take p)).2.2 = 90 ∧ (parseB (s.take p)).2.1 = p)) ∧
      ∃ x l, toks (s.drop p) = (x :: l, 0, 0) ∧ ∀ o m, toks o = (m, 0, 0) → (s.take p ++ x.text ++ 32 :: o).length ≤ 4096 →
        (parseB (s.take p ++ x.text ++ 32 :: o)).2.1 = (parseB s).2.1 ∧ (parseB (s.take p ++ x.text ++ 32 :: o)).2.2 = (parseB s).2.2) := by
  by_cases hq : (toks s).2.2 = 0
  rotate_left
  · have hte := toks_err s
    rw [parseB_lex hq]
    refine ⟨rfl, Int.natCast_nonneg _, by simp only; exact Int.ofNat_le.2 hte.1, fun h => ?_⟩
    rcases h with h | h
    · exact absurd h hte.2.1
    · exact absurd h hte.2.2
  have hok := parseB_ok hq
  cases ht : treeP ((toks s).1 ++ [endT s]) with
  | ok t r =>
    rw [ht] at hok
    rw [hok] at he
    exact absurd rfl he
  | err c a =>
    rw [ht] at hok
    rw [hok]
    simp only
    have hlies := (toks_lies hq).1
    have hend : Ended ((toks s).1 ++ [endT s]) := ⟨_, _, rfl, endT_dead s⟩
    obtain ⟨pre, post, e1, h1, h2, h3, h4⟩ := treeP_wrong hend ht
    have hpe : Ended post := Ended.back (pre := pre) (e1 ▸ hend) h1
    obtain ⟨x, rest, hpost⟩ : ∃ x rest, post = x :: rest := by
      cases post with
      | nil => exact absurd rfl hpe.ne
      | cons x r => exact ⟨x, r, rfl⟩
    subst hpost
    have h2 : a = (x.at_ : Int) := h2
    have hmem : x ∈ (toks s).1 ++ [endT s] := by rw [e1]; simp
    have hxat : x.at_ ≤ s.length := by
      rcases List.mem_append.1 hmem with h | h
      · have := lies_at hlies x h; omega
      · rw [List.mem_singleton.1 h]; exact Nat.le_refl _
    refine ⟨rfl, by omega, by omega, fun _ hlt => ⟨x.at_, h2, by omega, ?_⟩⟩
    have hxs : x.at_ < s.length := by omega
    obtain ⟨r', z, hr, hz⟩ : ∃ r' z, rest = r' ++ [z] ∧ True := by
      rcases List.eq_nil_or_concat rest with h | ⟨r', z, h⟩
      · exfalso
        rw [h] at e1
        have := List.append_inj' e1 rfl
        have hx : endT s = x := by simpa using this.2
        rw [← hx] at hxs
        exact absurd hxs (Nat.lt_irrefl _)
      · exact ⟨r', z, by simpa using h, trivial⟩
    subst hr
    have e2 : (toks s).1 ++ [endT s] = (pre ++ x :: r') ++ [z] := by rw [e1]; simp
    have e3 := List.append_inj' e2 rfl
    have hz2 : endT s = z := by simpa using e3.2
    subst hz2
    have hts : toks s = (pre ++ x :: r', 0, 0) := by rw [toks_zero hq, e3.1]
    obtain ⟨hs, hle, hcut, ⟨l, hl, hhd⟩, hrep⟩ := toks_cut hts
    rw [e3.1] at hlies
    have hbef := (lies_before hlies).2
    have hlive : ∀ t ∈ pre, t.live := h1
    refine ⟨?_, ?_⟩
    · have hcq : (toks (s.take x.at_)).2.2 = 0 := by rw [hcut]
      rw [parseB_ok hcq, hcut]
      simp only
      cases hc : treeP (pre ++ [endT (s.take x.at_)]) with
      | ok t r => exact .inl rfl
      | err c2 a2 =>
        right
        have hzat : (endT (s.take x.at_)).at_ = x.at_ := by
          show (s.take x.at_).length = _
          rw [List.length_take]; omega
        rcases treeP_cut (post := []) (endT_dead _) hlive hc with ⟨h5, h6⟩ | ⟨q, s2, h5, h6, h7, h8⟩
        · refine ⟨h5, ?_⟩
          rw [hzat] at h6
          exact h6
        · exfalso
          obtain ⟨y, s3, rfl⟩ : ∃ y s3, s2 = y :: s3 := by
            cases s2 with
            | nil => exact absurd rfl h6
            | cons y s3 => exact ⟨y, s3, rfl⟩
          have h9 := h8 (y :: s3 ++ x :: (r' ++ [endT s])) ⟨y :: s3 ++ x :: r', endT s, by simp, endT_dead s⟩ rfl (by simp; try omega)
          have e4 : q ++ (y :: s3 ++ x :: (r' ++ [endT s])) = (toks s).1 ++ [endT s] := by rw [e1, h5]; simp
          rw [e4, ht] at h9
          simp only [PR.err.injEq] at h9
          have hy := hbef y (by rw [h5]; simp)
          have h7 : a2 = (y.at_ : Int) := h7
          omega
    · cases l with
      | nil => simp at hhd
      | cons y l =>
        simp at hhd
        refine ⟨y, l, hl, fun o m ho hlen => ?_⟩
        have hyt : y.text = x.text := by rw [hhd]
        rw [hyt] at hlen ⊢
        have hrp := hrep o m ho hlen
        have hcq : (toks (s.take x.at_ ++ x.text ++ 32 :: o)).2.2 = 0 := by rw [hrp]
        rw [parseB_ok hcq, hrp]
        simp only
        have h9 := h4 (x :: (m.map (addAt (x.at_ + x.text.length + 1)) ++ [endT (s.take x.at_ ++ x.text ++ 32 :: o)])) ⟨x :: m.map (addAt (x.at_ + x.text.length + 1)), endT (s.take x.at_ ++ x.text ++ 32 :: o), by simp, endT_dead _⟩ rfl (by simp)
        have e5 : pre ++ x :: m.map (addAt (x.at_ + x.text.length + 1)) ++ [endT (s.take x.at_ ++ x.text ++ 32 :: o)] = pre ++ x :: (m.map (addAt (x.at_ + x.text.length + 1)) ++ [endT (s.take x.at_ ++ x.text ++ 32 :: o)]) := by simp
        rw [e5, h9]
        exact ⟨rfl, rfl⟩
end Go.Proofs.YtfkdbifnhgadaaaGreatDoor

/-
  Plain grammar: the names of a text's tree are no longer than its tokens. No program.
-/
namespace Go.Proofs.YtfkdbifnhgadaaaGreatDoor
open Go.RowKit Go.Shelf
set_option linter.unusedVariables false
set_option linter.unusedSimpArgs false

/-- tokens that are short -/
def Sh (c : List Tk) : Prop := ∀ t ∈ c, t.text.length ≤ 9223372036854775807
theorem Sh.app {a b : List Tk} (h : Sh (a ++ b)) : Sh a ∧ Sh b := ⟨fun t ht => h t (by simp [ht]), fun t ht => h t (by simp [ht])⟩
theorem Sh.cons {t : Tk} {b : List Tk} (h : Sh (t :: b)) : t.text.length ≤ 9223372036854775807 ∧ Sh b := ⟨h t (by simp), fun x hx => h x (by simp [hx])⟩
theorem txt_size (t : Tk) : (txt t).size = t.text.length := by simp [txt, ByteArray.size]
theorem noB_sz : noB.size ≤ 9223372036854775807 := by decide
def szEx (x : Ex) : Prop := x.nm.size ≤ 9223372036854775807 ∧ szX x.args
theorem szEx_cons {x : Ex} {r : Exs} (h : szEx x) (hr : szX r) : szX (x.cons r) := ⟨h.1, h.2, hr⟩
theorem ExG.sz {d n : Nat} {c : List Tk} {x : Ex} (h : ExG d n c x) : Sh c → szEx x := by
  induction h with
  | num d n t h => exact fun _ => ⟨noB_sz, trivial⟩
  | var d n t h => exact fun hs => ⟨by rw [txt_size]; exact hs.cons.1, trivial⟩
  | load d n t b e c x h1 h2 h3 h4 ih => exact fun hs => ⟨by rw [txt_size]; exact hs.cons.1, szEx_cons (ih hs.cons.2.cons.2.app.1) trivial⟩
  | neg d n t c x h1 h2 ih => exact fun hs => ⟨noB_sz, szEx_cons (ih hs.cons.2) trivial⟩
  | par d n t e c x h1 h2 h3 ih => exact fun hs => ih hs.cons.2.app.1
  | two d n k t a b x y h1 h2 h3 h4 h5 h6 ih1 ih2 => exact fun hs => ⟨noB_sz, szEx_cons (ih1 hs.app.1) (szEx_cons (ih2 hs.app.2.cons.2) trivial)⟩
def szCo (x : Cn) : Prop := szX x.args ∧ szC x.of_
theorem szCo_cons {x : Cn} {r : Cds} (h : szCo x) (hr : szC r) : szC (x.cons r) := ⟨h.1, h.2, hr⟩
theorem CoG.sz {d n : Nat} {c : List Tk} {x : Cn} (h : CoG d n c x) : Sh c → szCo x := by
  induction h with
  | yes d n t h => exact fun _ => ⟨trivial, trivial⟩
  | no d n t h => exact fun _ => ⟨trivial, trivial⟩
  | not d n t c x h1 h2 ih => exact fun hs => ⟨trivial, szCo_cons (ih hs.cons.2) trivial⟩
  | br d n t e c x h1 h2 h3 ih => exact fun hs => ih hs.cons.2.app.1
  | cmp d n k t a b x y h1 h2 h3 h4 h5 => exact fun hs => ⟨szEx_cons (h3.sz hs.app.1) (szEx_cons (h5.sz hs.app.2.cons.2) trivial), trivial⟩
  | and d n t a b x y h1 h2 h3 h4 ih1 ih2 => exact fun hs => ⟨trivial, szCo_cons (ih1 hs.app.1) (szCo_cons (ih2 hs.app.2.cons.2) trivial)⟩
  | or d n t a b x y h1 h2 h3 h4 ih1 ih2 => exact fun hs => ⟨trivial, szCo_cons (ih1 hs.app.1) (szCo_cons (ih2 hs.app.2.cons.2) trivial)⟩
theorem AskG.sz {n : Nat} {c : List Tk} {cs : Cds} (h : AskG n c cs) (hs : Sh c) : szC cs := by
  obtain ⟨t, e, d, x, rfl, _, h2, _, rfl⟩ := h
  exact szCo_cons (h2.sz hs.cons.2.app.1) trivial
theorem someX_sz {n : Nat} {c : List Tk} {xs : List Ex} (h : SomeG (ExG n 1) c xs) : Sh c → szX (exsOf xs) := by
  induction h with
  | one c x hx => exact fun hs => szEx_cons (hx.sz hs) trivial
  | more c x t d xs hx ht _ ih => exact fun hs => szEx_cons (hx.sz hs.app.1) (ih hs.app.2.cons.2)
def szSt (x : St) : Prop := x.nm.size ≤ 9223372036854775807 ∧ szX x.args ∧ szC x.cond ∧ szS x.body ∧ szS x.els
theorem szSt_cons {x : St} {r : Sts} (h : szSt x) (hr : szS r) : szS (x.cons r) := ⟨h.1, h.2.1, h.2.2.1, h.2.2.2.1, h.2.2.2.2, hr⟩
mutual
theorem StG.sz {m : Nat} {c : List Tk} {x : St} : StG m c x → Sh c → szSt x
  | .skip _ t e h1 h2, hs => ⟨noB_sz, trivial, trivial, trivial, trivial⟩
  | .input _ t n e h1 h2 h3, hs => ⟨by rw [txt_size]; exact hs.cons.2.cons.1, trivial, trivial, trivial, trivial⟩
  | .assume _ t e c cs h1 h2 h3, hs => ⟨noB_sz, trivial, h2.sz hs.cons.2.app.1, trivial, trivial⟩
  | .assert _ t e c cs h1 h2 h3, hs => ⟨noB_sz, trivial, h2.sz hs.cons.2.app.1, trivial, trivial⟩
  | .ifs _ t c b cs xs h1 h2 h3, hs => ⟨noB_sz, trivial, h2.sz hs.cons.2.app.1, h3.sz hs.cons.2.app.2, trivial⟩
  | .ifelse _ t l c b d cs xs ys h1 h2 h3 h4 h5, hs => ⟨noB_sz, trivial, h2.sz hs.cons.2.app.1, h3.sz hs.cons.2.app.2.app.1, h5.sz hs.cons.2.app.2.app.2.cons.2⟩
  | .while _ t c b cs xs h1 h2 h3, hs => ⟨noB_sz, trivial, h2.sz hs.cons.2.app.1, h3.sz hs.cons.2.app.2, trivial⟩
  | .call _ t n o e s c xs h1 h2 h3 h4 h5 h6, hs => ⟨by rw [txt_size]; exact hs.cons.2.cons.1, by
      rcases h4 with ⟨_, rfl⟩ | h4
      · trivial
      · exact someX_sz h4 hs.cons.2.cons.2.cons.2.app.1, trivial, trivial, trivial⟩
  | .store _ n b e q s c d x y h1 h2 h3 h4 h5 h6 h7, hs => ⟨by rw [txt_size]; exact hs.cons.1, szEx_cons (h3.sz hs.cons.2.cons.2.app.1) (szEx_cons (h6.sz hs.cons.2.cons.2.app.2.cons.2.cons.2.app.1) trivial), trivial, trivial, trivial⟩
  | .set _ n q s c x h1 h2 h3 h4, hs => ⟨by rw [txt_size]; exact hs.cons.1, szEx_cons (h3.sz hs.cons.2.cons.2.app.1) trivial, trivial, trivial, trivial⟩
theorem BlG.sz {m : Nat} {c : List Tk} {xs : List St} : BlG m c xs → Sh c → szS (stsOf xs)
  | .mk _ t e c xs h1 h2 h3, hs => h2.sz hs.cons.2.app.1
theorem SsG.sz {m : Nat} {c : List Tk} {xs : List St} : SsG m c xs → Sh c → szS (stsOf xs)
  | .nil _, hs => trivial
  | .cons _ a b x xs h1 h2, hs => szSt_cons (h1.sz hs.app.1) (h2.sz hs.app.2)
end
theorem someV_sz {c : List Tk} {xs : List Va} (h : SomeG VaG c xs) : Sh c → ∀ x ∈ xs, x.nm.size ≤ 9223372036854775807 := by
  have h1 : ∀ c x, VaG c x → Sh c → x.nm.size ≤ 9223372036854775807 := by
    rintro c x ⟨t, rfl, _, rfl⟩ hs
    show (txt t).size ≤ _
    rw [txt_size]; exact hs.cons.1
  induction h with
  | one c x hx => exact fun hs y hy => by rw [List.mem_singleton.1 hy]; exact h1 _ _ hx hs
  | more c x t d xs hx ht _ ih =>
    intro hs y hy
    rcases List.mem_cons.1 hy with rfl | hy
    · exact h1 _ _ hx hs.app.1
    · exact ih hs.app.2.cons.2 y hy
theorem someA_sz {c : List Tk} {xs : List Arr} (h : SomeG ArG c xs) : Sh c → ∀ x ∈ xs, x.nm.size ≤ 9223372036854775807 := by
  have h1 : ∀ c x, ArG c x → Sh c → x.nm.size ≤ 9223372036854775807 := by
    rintro c x ⟨t, b, n, e, rfl, _, _, _, _, rfl⟩ hs
    show (txt t).size ≤ _
    rw [txt_size]; exact hs.cons.1
  induction h with
  | one c x hx => exact fun hs y hy => by rw [List.mem_singleton.1 hy]; exact h1 _ _ hx hs
  | more c x t d xs hx ht _ ih =>
    intro hs y hy
    rcases List.mem_cons.1 hy with rfl | hy
    · exact h1 _ _ hx hs.app.1
    · exact ih hs.app.2.cons.2 y hy
theorem HdG.sz {c : List Tk} {vs : List Va} {xs : List Arr} (h : HdG c vs xs) : Sh c → (∀ x ∈ vs, x.nm.size ≤ 9223372036854775807) ∧ ∀ x ∈ xs, x.nm.size ≤ 9223372036854775807 := by
  induction h with
  | nil => exact fun _ => ⟨fun x hx => by simp at hx, fun x hx => by simp at hx⟩
  | vars t e c d vs ws xs h1 h2 h3 h4 ih =>
    intro hs
    have := ih hs.cons.2.app.2.cons.2
    refine ⟨fun x hx => ?_, this.2⟩
    rcases List.mem_append.1 hx with hx | hx
    · exact someV_sz h2 hs.cons.2.app.1 x hx
    · exact this.1 x hx
  | arrays t e c d ws ys xs h1 h2 h3 h4 ih =>
    intro hs
    have := ih hs.cons.2.app.2.cons.2
    refine ⟨this.1, fun x hx => ?_⟩
    rcases List.mem_append.1 hx with hx | hx
    · exact someA_sz h2 hs.cons.2.app.1 x hx
    · exact this.2 x hx
theorem PcG.sz {c : List Tk} {x : Prc} (h : PcG c x) (hs : Sh c) : x.nm.size ≤ 9223372036854775807 ∧ (∀ y ∈ x.params, y.nm.size ≤ 9223372036854775807) ∧ szS x.body := by
  obtain ⟨t, o, e, d, b, ps, xs, rfl, _, _, h3, _, h5, rfl⟩ := h
  refine ⟨by show (txt t).size ≤ _; rw [txt_size]; exact hs.cons.1, fun y hy => ?_, h5.sz hs.cons.2.cons.2.app.2.cons.2⟩
  rcases h3 with ⟨_, e⟩ | h3
  · rw [show _ = ps from rfl, e] at hy; simp at hy
  · exact someV_sz h3 hs.cons.2.cons.2.app.1 y hy
theorem PsG.sz {c : List Tk} {xs : List Prc} (h : PsG c xs) : Sh c → ∀ x ∈ xs, x.nm.size ≤ 9223372036854775807 ∧ (∀ y ∈ x.params, y.nm.size ≤ 9223372036854775807) ∧ szS x.body := by
  induction h with
  | nil => exact fun _ x hx => by simp at hx
  | cons t c d p ps h1 h2 h3 ih =>
    intro hs x hx
    rcases List.mem_cons.1 hx with rfl | hx
    · exact h2.sz hs.cons.2.app.1
    · exact ih hs.cons.2.app.2 x hx
theorem TrG.sz {c : List Tk} {t : Tre} (h : TrG c t) (hs : Sh c) : SzT t := by
  obtain ⟨a, b, m, d, xs, rfl, h1, h2, _, h4, e⟩ := h
  have := h1.sz hs.app.1
  exact ⟨this.1, this.2, h2.sz hs.app.2.app.1, by rw [e]; exact h4.sz hs.app.2.app.2.cons.2⟩
/-- the tokens of a text are no longer than it -/
theorem toks_sh {s : List UInt8} (h : (toks s).2.2 = 0) : Sh (toks s).1 := fun t ht => by
  have h1 := lies_ends (toks_lies h).1 t ht
  have h2 := (toks_lies h).2
  omega
/-- a text that is right, by the grammar -/
theorem parseB_gram {s : List UInt8} (h : (parseB s).2.2 = 0) : (toks s).2.2 = 0 ∧ TrG (toks s).1 (parseB s).1 := by
  by_cases hq : (toks s).2.2 = 0
  · refine ⟨hq, ?_⟩
    rw [parseB_ok hq] at h ⊢
    cases ht : treeP ((toks s).1 ++ [endT s]) with
    | ok t r => exact treeP_gram (endT_dead s) ht
    | err c a =>
      rw [ht] at h
      have h : c = 0 := h
      rcases treeP_code ⟨_, _, rfl, endT_dead s⟩ ht with e | e <;> omega
  · rw [parseB_lex hq] at h
    exact absurd h hq
theorem parseB_sz {s : List UInt8} (h : (parseB s).2.2 = 0) : SzT (parseB s).1 := (parseB_gram h).2.sz (toks_sh (parseB_gram h).1)
end Go.Proofs.YtfkdbifnhgadaaaGreatDoor
