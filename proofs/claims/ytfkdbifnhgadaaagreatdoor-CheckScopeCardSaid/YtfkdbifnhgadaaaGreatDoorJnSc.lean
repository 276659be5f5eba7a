/-
  Plain grammar: texts by their tokens, places left out. No program.
-/
import Derived.Test.YtfkdbifnhgadaaaGreatDoorJnGrC
import Derived.Test.YtfkdbifnhgadaaaGreatDoorJnPl
import Derived.Test.YtfkdbifnhgadaaaGreatDoorJnPlW
import Derived.Test.YtfkdbifnhgadaaaGreatDoorJnCl
import Derived.Test.YtfkdbifnhgadaaaGreatDoorJnGrA
import Derived.Test.YtfkdbifnhgadaaaGreatDoorJnLex
import Derived.Test.YtfkdbifnhgadaaaGreatDoorCqTold
namespace Go.Proofs.YtfkdbifnhgadaaaGreatDoor
open Go.RowKit Go.Shelf
set_option linter.unusedVariables false
set_option linter.unusedSimpArgs false

/-- a text's tokens, places left out, wherever it stands -/
def KT (l : List UInt8) (ks : List Tk) : Prop := ∀ p, ∃ ts, tokL l p = (ts, 0, 0) ∧ ts.map Tk.bare = ks
theorem KT.nil : KT [] [] := fun p => ⟨[], tokL_nil rfl, rfl⟩
theorem KT.tok {k : Int} {u v : List UInt8} {ks : List Tk} (h : firstT (u ++ v) = (k, u.length, 0)) (hr : KT v ks) : KT (u ++ v) (⟨k, u, 0⟩ :: ks) := fun p => by
  have hb := fT_blk h
  obtain ⟨ts, h1, h2⟩ := hr (p + u.length)
  refine ⟨_, tokL_mk (l := u ++ v) (p := p) (by rw [hb]; rfl) h (by rw [hb, Nat.add_zero]; exact h1), ?_⟩
  rw [List.map_cons, h2]
  rfl
theorem KT.blank {B l : List UInt8} {ks : List Tk} (hB : ∀ b ∈ B, isBlk b = true) (h : KT l ks) : KT (B ++ l) ks := fun p => by
  obtain ⟨ts, h1, h2⟩ := h (p + B.length)
  exact ⟨ts, by rw [tokL_blank B l p hB]; exact h1, h2⟩
theorem KT.word {w v : List UInt8} {ks : List Tk} (h : nameB w = true) (hv : ∀ c r, v = c :: r → isWd c = false) (hr : KT v ks) : KT (w ++ v) (⟨1, w, 0⟩ :: ks) := by
  refine KT.tok ?_ hr
  obtain ⟨b, r, e, hb, hd, _⟩ := name_first h
  unfold nameB at h
  simp only [Bool.and_eq_true, beq_iff_eq, decide_eq_true_eq] at h
  have hw : runB isWd (w ++ v) = w.length := by
    cases v with
    | nil => rw [List.append_nil]; exact h.1.1.1.1
    | cons c r => rw [runB_app _ _ _ _ (hv c r rfl)]; exact h.1.1.1.1
  have hn : ¬ 0 < runB isDig (w ++ v) := by
    subst e
    rw [List.cons_append, runB_zero hd]
    omega
  rw [fT_none hn, hw, if_neg (by omega), if_pos (by omega)]
theorem KT.at0 {l : List UInt8} {ks : List Tk} (h : KT l ks) (hl : l.length ≤ 4096) : ∃ ts, toks l = (ts, 0, 0) ∧ ts.map Tk.bare = ks := by
  obtain ⟨ts, h1, h2⟩ := h 0
  exact ⟨ts, by rw [tokL_toks hl]; exact h1, h2⟩
/-- a text whose tokens are a tree's -/
theorem KT.parse {s : List UInt8} {ks : List Tk} {t0 : Tre} (hk : KT s ks) (hl : s.length ≤ 4096) (hg : TrG ks t0) : (parseB s).2.2 = 0 ∧ (parseB s).1.bare = t0 := by
  obtain ⟨ts, h1, h2⟩ := hk.at0 hl
  have hq : (toks s).2.2 = 0 := by rw [h1]
  have hb := treeP_bare ((toks s).1 ++ [endT s])
  rw [List.map_append, h1, h2] at hb
  have hz : [endT s].map Tk.bare = [(⟨0, [], 0⟩ : Tk)] := rfl
  rw [hz, treeP_in hg] at hb
  rw [parseB_ok hq, h1]
  cases ht : treeP (ts ++ [endT s]) with
  | ok t r =>
    rw [ht] at hb
    simp only [PR.bare, PR.ok.injEq] at hb
    exact ⟨rfl, hb.1.symm⟩
  | err c a =>
    rw [ht] at hb
    simp [PR.bare] at hb
end Go.Proofs.YtfkdbifnhgadaaaGreatDoor

/-
  Plain laws of names: places turn no error. No program.
-/
namespace Go.Proofs.YtfkdbifnhgadaaaGreatDoor
open Go.RowKit Go.Shelf Go.Maps
set_option linter.unusedVariables false
set_option linter.unusedSimpArgs false

theorem askC_b {st st' p p' : Int × Int} {is : Bool} (h : st.2 = st'.2) (hp : p.2 = p'.2) : (askC st is p).2 = (askC st' is p').2 := by
  cases is with
  | true => exact h
  | false =>
    show (failC st p).2 = (failC st' p').2
    unfold failC
    rw [← h]
    by_cases e : st.2 = 0
    · rw [if_pos e, if_pos e]; exact hp
    · rw [if_neg e, if_neg e]; exact h
theorem useC_b {kn : Kn} {st st' : Int × Int} {t : List UInt8} {k a a' : Int} (h : st.2 = st'.2) : (useC kn st t k a).2 = (useC kn st' t k a').2 := askC_b (askC_b h rfl) rfl
theorem bareX_len : ∀ xs : Exs, xs.bare.len = xs.len
  | .nil => rfl
  | .cons _ _ _ _ _ r => by simp only [Exs.bare, Exs.len, bareX_len r]
theorem bareC_len : ∀ xs : Cds, xs.bare.len = xs.len
  | .nil => rfl
  | .cons _ _ _ _ r => by simp only [Cds.bare, Cds.len, bareC_len r]
theorem bareS_len : ∀ xs : Sts, xs.bare.len = xs.len
  | .nil => rfl
  | .cons _ _ _ _ _ _ _ r => by simp only [Sts.bare, Sts.len, bareS_len r]
theorem exprsC_b {kn : Kn} : ∀ (xs : Exs) (st st' : Int × Int), st.2 = st'.2 → (exprsC kn xs st).2 = (exprsC kn xs.bare st').2
  | .nil, st, st', h => h
  | .cons k nm m args a r, st, st', h => by
    unfold exprsC Exs.bare
    refine exprsC_b r _ _ (exprsC_b args _ _ ?_)
    by_cases e : k = 2
    · rw [if_pos e, if_pos e]; exact useC_b h
    · rw [if_neg e, if_neg e]
      by_cases e2 : k = 3
      · rw [if_pos e2, if_pos e2]; exact useC_b h
      · rw [if_neg e2, if_neg e2]; exact h
theorem condsC_b {kn : Kn} : ∀ (xs : Cds) (st st' : Int × Int), st.2 = st'.2 → (condsC kn xs st).2 = (condsC kn xs.bare st').2
  | .nil, st, st', h => h
  | .cons k args of_ a r, st, st', h => by
    unfold condsC Cds.bare
    exact condsC_b r _ _ (condsC_b of_ _ _ (exprsC_b args _ _ h))
theorem headC_b {kn : Kn} {k : Int} {t : List UInt8} {na a a' : Int} {st st' : Int × Int} (h : st.2 = st'.2) : (headC kn k t na a st).2 = (headC kn k t na a' st').2 := by
  unfold headC
  by_cases e1 : k = 2 ∨ k = 4
  · rw [if_pos e1, if_pos e1]; exact useC_b h
  · rw [if_neg e1, if_neg e1]
    by_cases e2 : k = 3
    · rw [if_pos e2, if_pos e2]; exact useC_b h
    · rw [if_neg e2, if_neg e2]
      by_cases e3 : k = 9
      · rw [if_pos e3, if_pos e3]; exact askC_b (useC_b h) rfl
      · rw [if_neg e3, if_neg e3]; exact h
theorem stmtsC_b {kn : Kn} : ∀ (xs : Sts) (st st' : Int × Int), st.2 = st'.2 → (stmtsC kn xs st).2 = (stmtsC kn xs.bare st').2
  | .nil, st, st', h => h
  | .cons k nm args cond body els a r, st, st', h => by
    unfold stmtsC Sts.bare
    refine stmtsC_b r _ _ (stmtsC_b els _ _ (stmtsC_b body _ _ (condsC_b cond _ _ (exprsC_b args _ _ ?_))))
    rw [bareX_len]
    exact headC_b h
/-- checkers that know the same, and have the same error -/
def Sm (s s' : Cks) : Prop := s.1 = s'.1 ∧ s.2.2 = s'.2.2
theorem declC_b {s s' : Cks} {t : List UInt8} {a a' : Int} {v : Int × Int} (h : Sm s s') : Sm (declC s t a v) (declC s' t a' v) := by
  unfold declC Sm declK declE
  rw [← h.1]
  exact ⟨rfl, askC_b h.2 rfl⟩
theorem declVs_b {v : Int × Int} : ∀ (xs : List Va) (s s' : Cks), Sm s s' → Sm (declVs v xs s) (declVs v (xs.map Va.bare) s')
  | [], s, s', h => h
  | x :: r, s, s', h => declVs_b r _ _ (declC_b h)
theorem declArs_b : ∀ (xs : List Arr) (s s' : Cks), Sm s s' → Sm (declArs xs s) (declArs (xs.map Arr.bare) s')
  | [], s, s', h => h
  | x :: r, s, s', h => by
    refine declArs_b r _ _ ?_
    have h1 : Sm (declC s x.nm.data.toList x.at_ (2, 0)) (declC s' x.nm.data.toList 0 (2, 0)) := declC_b h
    exact ⟨h1.1, askC_b h1.2 rfl⟩
theorem declPrs_b : ∀ (xs : List Prc) (s s' : Cks), Sm s s' → Sm (declPrs xs s) (declPrs (xs.map Prc.bare) s')
  | [], s, s', h => h
  | x :: r, s, s', h => declPrs_b r _ _ (declC_b h)
theorem delVs_b : ∀ (xs : List Va) (kn : Kn), delVs xs kn = delVs (xs.map Va.bare) kn
  | [], kn => rfl
  | x :: r, kn => delVs_b r _
theorem procC_b {x : Prc} {s s' : Cks} (h : Sm s s') : Sm (procC x.nm.data.toList x.params x.body x.at_ s) (procC x.bare.nm.data.toList x.bare.params x.bare.body x.bare.at_ s') := by
  have hl : x.bare.params.length = x.params.length := by simp [Prc.bare]
  unfold procC
  rw [hl]
  have h1 : Sm (declVs (1, 0) x.params (s.1, askC s.2 (decide ((x.params.length : Int) ≤ 4)) (x.at_, 4))) (declVs (1, 0) (x.params.map Va.bare) (s'.1, askC s'.2 (decide ((x.params.length : Int) ≤ 4)) (x.bare.at_, 4))) := declVs_b _ _ _ ⟨h.1, askC_b h.2 rfl⟩
  show Sm (if _ then _ else _) (if (declVs (1, 0) (x.params.map Va.bare) _).2.2 = 0 then _ else _)
  by_cases e : (declVs (1, 0) x.params (s.1, askC s.2 (decide ((x.params.length : Int) ≤ 4)) (x.at_, 4))).2.2 = 0
  · rw [if_pos e, if_pos (h1.2 ▸ e)]
    refine ⟨?_, ?_⟩
    · show (delVs x.params _).put _ _ = (delVs (x.params.map Va.bare) _).put _ _
      rw [delVs_b, h1.1]
      rfl
    · show (stmtsC _ x.body _).2 = (stmtsC _ x.body.bare _).2
      rw [h1.1]
      exact stmtsC_b _ _ _ h1.2
  · rw [if_neg e, if_neg (h1.2 ▸ e)]
    exact h1
theorem procsC_b : ∀ (xs : List Prc) (s s' : Cks), Sm s s' → Sm (procsC xs s).1 (procsC (xs.map Prc.bare) s').1 ∧ (procsC xs s).2 = (procsC (xs.map Prc.bare) s').2
  | [], s, s', h => ⟨h, rfl⟩
  | x :: r, s, s', h => by
    have h1 := procC_b (x := x) h
    rw [List.map_cons]
    unfold procsC
    by_cases e : (procC x.nm.data.toList x.params x.body x.at_ s).2.2 = 0
    · rw [if_pos e, if_pos (h1.2 ▸ e)]
      exact procsC_b r _ _ h1
    · rw [if_neg e, if_neg (h1.2 ▸ e)]
      exact ⟨h1, rfl⟩
theorem okX_b : ∀ xs : Exs, okX xs.bare = okX xs
  | .nil => rfl
  | .cons k nm m args a r => by simp only [Exs.bare, okX, bareX_len, okX_b args, okX_b r]
theorem okC_b : ∀ xs : Cds, okC xs.bare = okC xs
  | .nil => rfl
  | .cons k args of_ a r => by simp only [Cds.bare, okC, bareX_len, bareC_len, okX_b args, okC_b of_, okC_b r]
theorem okS_b : ∀ xs : Sts, okS xs.bare = okS xs
  | .nil => rfl
  | .cons k nm args cond body els a r => by simp only [Sts.bare, okS, bareX_len, bareC_len, bareS_len, okX_b args, okC_b cond, okS_b body, okS_b els, okS_b r]
theorem okVs_b (xs : List Va) : okVs (xs.map Va.bare) = okVs xs := by
  unfold okVs allVa
  rw [List.all_map]
  rfl
theorem okTr_b (t : Tre) : okTr t.bare = okTr t := by
  unfold okTr okAs okPs allAr allPr
  simp only [Tre.bare, okVs_b, okS_b, List.all_map]
  congr 1
  refine List.all_congr rfl fun x => ?_
  simp only [Function.comp, Prc.bare, okVs_b, okS_b]
/-- PLACES TURN NO ERROR -/
theorem treeC_b (t : Tre) : (treeC t).2 = (treeC t.bare).2 := by
  have hf : fewT t.bare = fewT t := by unfold fewT Tre.bare; simp
  unfold treeC
  rw [okTr_b, hf]
  by_cases h1 : okTr t = true
  · rw [if_pos h1, if_pos h1]
    by_cases h2 : fewT t = true
    · rw [if_pos h2, if_pos h2]
      have hd : Sm (declT t) (declT t.bare) := declPrs_b _ _ _ (declArs_b _ _ _ (declVs_b _ _ _ ⟨rfl, rfl⟩))
      obtain ⟨h3, h4⟩ := procsC_b t.procs _ _ hd
      show _ = (if (procsC (t.procs.map Prc.bare) (declT t.bare)).2 = true then _ else stmtsC _ t.main.bare _).2
      rw [← h4]
      by_cases h5 : (procsC t.procs (declT t)).2 = true
      · rw [if_pos h5, if_pos h5]; exact h3.2
      · rw [if_neg h5, if_neg h5]
        show _ = (stmtsC (procsC (t.procs.map Prc.bare) (declT t.bare)).1.1 t.main.bare (procsC (t.procs.map Prc.bare) (declT t.bare)).1.2).2
        rw [← h3.1]
        exact stmtsC_b _ _ _ h3.2
    · rw [if_neg h2, if_neg h2]
  · rw [if_neg h1, if_neg h1]
end Go.Proofs.YtfkdbifnhgadaaaGreatDoor

/-
  Plain law: what a text is made of, if "var x;proc p(" name "){" name "=x;}main{call p(1);}" is right: the name is one, with blanks. No program.
-/
namespace Go.Proofs.YtfkdbifnhgadaaaGreatDoor
open Go.RowKit Go.Shelf
set_option linter.unusedVariables false
set_option linter.unusedSimpArgs false

def scA : List UInt8 := [118, 97, 114, 32, 120, 59, 112, 114, 111, 99, 32, 112, 40]
def scC : List UInt8 := [61, 120, 59, 125, 109, 97, 105, 110, 123, 99, 97, 108, 108, 32, 112, 40, 49, 41, 59, 125]
def sc1 (nm : List UInt8) : List UInt8 := scA ++ (nm ++ (41 :: 123 :: (nm ++ scC)))
def scT : List Tk := [⟨1, [118, 97, 114], 0⟩, ⟨1, [120], 4⟩, ⟨3, [59], 5⟩, ⟨1, [112, 114, 111, 99], 6⟩, ⟨1, [112], 11⟩, ⟨3, [40], 12⟩]
theorem scA_toks {X : List UInt8} {ts : List Tk} (h : tokL (scA ++ X) 0 = (ts, 0, 0)) : ∃ r, ts = scT ++ r ∧ tokL X 13 = (r, 0, 0) := by
  obtain ⟨r1, e1, h1⟩ := tokL_tail (l := scA ++ X) (k := 1) (n := 3) h rfl rfl
  have h1 : tokL ([32] ++ (120 :: 59 :: 112 :: 114 :: 111 :: 99 :: 32 :: 112 :: 40 :: X)) 3 = (r1, 0, 0) := h1
  rw [tokL_blank [32] _ 3 (by decide)] at h1
  obtain ⟨r2, e2, h2⟩ := tokL_tail (k := 1) (n := 1) h1 rfl rfl
  obtain ⟨r3, e3, h3⟩ := tokL_tail (l := 59 :: 112 :: 114 :: 111 :: 99 :: 32 :: 112 :: 40 :: X) (k := 3) (n := 1) h2 rfl rfl
  obtain ⟨r4, e4, h4⟩ := tokL_tail (l := 112 :: 114 :: 111 :: 99 :: 32 :: 112 :: 40 :: X) (k := 1) (n := 4) h3 rfl rfl
  have h4 : tokL ([32] ++ (112 :: 40 :: X)) 10 = (r4, 0, 0) := h4
  rw [tokL_blank [32] _ 10 (by decide)] at h4
  obtain ⟨r5, e5, h5⟩ := tokL_tail (k := 1) (n := 1) h4 rfl rfl
  obtain ⟨r6, e6, h6⟩ := tokL_tail (l := 40 :: X) (k := 3) (n := 1) h5 rfl rfl
  exact ⟨r6, by rw [e1, e2, e3, e4, e5, e6]; rfl, h6⟩
/-- what the parser asks of the tokens behind "var x;proc p(" -/
theorem scT_parse {X : List Tk} {t : Tre} {r : List Tk} (h : treeP (scT ++ X) = .ok t r) : ∃ ps q b q2, someP nameP [41] true X = .ok ps q ∧ blockP 24 q = .ok b q2 := by
  unfold treeP at h
  obtain ⟨vx, l1, h1, h2⟩ := PR.then_ok h
  have hh : headF (scT ++ X).length [] [] (scT ++ X) = .ok ([⟨txt ⟨1, [120], 4⟩, 4⟩], []) (scT.drop 3 ++ X) := by
    have hg : HdG (scT.take 3) [⟨txt ⟨1, [120], 4⟩, 4⟩] [] := HdG.vars ⟨1, [118, 97, 114], 0⟩ ⟨3, [59], 5⟩ [⟨1, [120], 4⟩] [] [⟨txt ⟨1, [120], 4⟩, 4⟩] [] [] ⟨rfl, by decide⟩ (.one _ _ ⟨_, rfl, ⟨rfl, by decide⟩, rfl⟩) ⟨rfl, by decide⟩ .nil
    exact headF_in hg _ [] [] (scT.drop 3 ++ X) (may_out (t := ⟨1, [112, 114, 111, 99], 6⟩) (by decide)) (may_out (t := ⟨1, [112, 114, 111, 99], 6⟩) (by decide)) (by simp [scT])
  rw [hh] at h1
  simp only [PR.ok.injEq] at h1
  obtain ⟨_, rfl⟩ := h1
  obtain ⟨ps, l2, h3, _⟩ := PR.then_ok h2
  have h3 : procsF (X.length + 3) [] (⟨1, [112, 114, 111, 99], 6⟩ :: ⟨1, [112], 11⟩ :: ⟨3, [40], 12⟩ :: X) = .ok ps l2 := by
    have e : (scT.drop 3 ++ X).length = X.length + 3 := by simp [scT]
    rw [e] at h3
    exact h3
  simp only [procsF] at h3
  rw [if_pos (may_in (t := ⟨1, [112, 114, 111, 99], 6⟩) ⟨rfl, by decide⟩)] at h3
  obtain ⟨p, l3, h4, _⟩ := PR.then_ok h3
  simp only [List.tail_cons] at h4
  unfold procP at h4
  rw [name_in (t := ⟨1, [112], 11⟩) ⟨rfl, by decide⟩] at h4
  simp only [PR.then] at h4
  rw [take_in (t := ⟨3, [40], 12⟩) ⟨rfl, by decide⟩] at h4
  simp only at h4
  obtain ⟨qs, l4, h5, h6⟩ := PR.then_ok h4
  obtain ⟨b, l5, h7, _⟩ := PR.then_ok h6
  exact ⟨qs, l4, b, l5, h5, h7⟩
/-- .. the first one, and the second one -/
theorem scT_first {X : List Tk} {ps : List Va} {q : List Tk} {b : List St} {q2 : List Tk} (h1 : someP nameP [41] true X = .ok ps q) (h2 : blockP 24 q = .ok b q2) :
    (∃ w r, X = w :: r ∧ isT w [41]) ∨ ∃ w v r, X = w :: v :: r ∧ isN w ∧ (isT v [44] ∨ isT v [41]) := by
  have hq : q ≠ [] := by
    intro e
    subst e
    unfold blockP at h2
    rw [if_neg (by decide)] at h2
    simp at h2
  obtain ⟨c, e, rfl, he, h⟩ := someP_eats (by simp) nameP_eats.some_ h1 hq
  rcases h with h | ⟨_, rfl, _⟩
  · right
    cases h with
    | one c x hx =>
      obtain ⟨t, rfl, hn, _⟩ := hx
      exact ⟨t, e, q, rfl, hn, .inr he⟩
    | more c x t d xs hx ht _ =>
      obtain ⟨u, rfl, hn, _⟩ := hx
      exact ⟨u, t, _, rfl, hn, .inl ht⟩
  · exact .inl ⟨e, q, rfl, he⟩
theorem mem_tw {p : UInt8 → Bool} {b : UInt8} : ∀ {l : List UInt8}, b ∈ l.takeWhile p → p b = true
  | [], h => by simp at h
  | a :: l, h => by
    rw [List.takeWhile_cons] at h
    split at h
    · rename_i ha
      rcases List.mem_cons.1 h with rfl | h
      · exact ha
      · exact mem_tw h
    · simp at h
theorem all_blank {l : List UInt8} {p : Nat} (h : tokL l p = ([], 0, 0)) : ∀ b ∈ l, isBlk b = true := by
  have h0 : (l.drop (runB isBlk l)).length = 0 := by
    by_cases h0 : (l.drop (runB isBlk l)).length = 0
    · exact h0
    · exfalso
      by_cases h1 : (firstT (l.drop (runB isBlk l))).2.2 = 0
      · rw [tokL_go h0 h1] at h
        split at h
        · simp at h
        · rename_i h2
          rw [h] at h2
          exact h2 rfl
      · rw [tokL_bad h0 h1] at h
        simp only [Prod.mk.injEq, true_and] at h
        exact h1 h.2
  rw [List.length_drop] at h0
  have h1 := runB_le isBlk l
  have h2 : l.takeWhile isBlk = l := (List.takeWhile_sublist isBlk).eq_of_length (by unfold runB at h0 h1; omega)
  intro b hb
  rw [← h2] at hb
  exact mem_tw hb
theorem blank_split (l : List UInt8) : ∃ B r, l = B ++ r ∧ (∀ b ∈ B, isBlk b = true) ∧ B.length = runB isBlk l ∧ r = l.drop (runB isBlk l) :=
  ⟨l.take (runB isBlk l), l.drop (runB isBlk l), (List.take_append_drop _ _).symm, fun b hb => by
    have : l.take (runB isBlk l) = l.takeWhile isBlk := (List.prefix_iff_eq_take.1 (List.takeWhile_prefix isBlk)).symm
    rw [this] at hb
    exact mem_tw hb, by rw [List.length_take]; have := runB_le isBlk l; omega, rfl⟩
theorem not_isT {k : Int} {u v : List UInt8} {p : Nat} (h : u ≠ v) : ¬ isT ⟨k, u, p⟩ v := fun g => h g.1
theorem eq_not_good {p : Nat} {ts : List Tk} (h : tokL scC p = (ts, 0, 0)) : ¬ GoodB ts := by
  obtain ⟨r, e, _⟩ := tokL_tail (l := scC) (k := 3) (n := 1) h rfl rfl
  rintro ⟨y, c3, e2, hg⟩
  rw [e] at e2
  simp only [List.cons.injEq] at e2
  obtain ⟨rfl, _⟩ := e2
  rcases hg with hg | hg | ⟨hg, _⟩
  · exact absurd (show ([61] : List UInt8) = _ from hg.1) (by decide)
  · exact hg (show keyK [61] = 0 by decide)
  · exact absurd (show nameB [61] = true from hg.2) (by decide)
theorem sign_not_good {c : UInt8} {k : Int} {p : Nat} {r : List Tk} (hc : c = 41) : ¬ GoodB (⟨k, [c], p⟩ :: r) := by
  subst hc
  rintro ⟨y, c3, e2, hg⟩
  simp only [List.cons.injEq] at e2
  obtain ⟨rfl, _⟩ := e2
  rcases hg with hg | hg | ⟨hg, _⟩
  · exact absurd (show ([41] : List UInt8) = _ from hg.1) (by decide)
  · exact hg (show keyK [41] = 0 by decide)
  · exact absurd (show nameB [41] = true from hg.2) (by decide)
set_option maxHeartbeats 1600000 in
/-- THE NAME IS ONE -/
theorem scope_name {nm : List UInt8} (hp : (parseB (sc1 nm)).2.2 = 0) : ∃ B w B', nm = B ++ (w ++ B') ∧ (∀ b ∈ B, isBlk b = true) ∧ (∀ b ∈ B', isBlk b = true) ∧ nameB w = true := by
  obtain ⟨hq, hg⟩ := parseB_gram hp
  have hadj := hg.adj
  have hlen := (toks_lies hq).2
  have htok : tokL (sc1 nm) 0 = ((toks (sc1 nm)).1, 0, 0) := by rw [← tokL_toks hlen]; exact toks_zero hq
  obtain ⟨R, hR, hX⟩ := scA_toks htok
  obtain ⟨pre, t, post, rfl, ht, htt⟩ := tokL_lone _ nm (123 :: (nm ++ scC)) 41 13 R (Nat.le_refl _) lone41 (by decide) ⟨3, rfl⟩ hX
  obtain ⟨hb, hpre⟩ := tokL_swap pre nm (41 :: 123 :: (nm ++ scC)) [] 13 post [] t (.inl rfl) hX ht
  have hpre := hpre (tokL_nil rfl)
  rw [List.append_nil, List.append_nil] at hpre
  obtain ⟨post1, e1, hb1⟩ := tokL_tail (l := 41 :: 123 :: (nm ++ scC)) (k := 3) (n := 1) hb rfl rfl
  obtain ⟨post2, e2, hb2⟩ := tokL_tail (l := 123 :: (nm ++ scC)) (k := 3) (n := 1) hb1 rfl rfl
  have hb2 : tokL (nm ++ scC) (13 + nm.length + 1 + 1) = (post2, 0, 0) := hb2
  simp only [List.cons.injEq] at e1
  obtain ⟨rfl, rfl⟩ := e1
  have hgood : GoodB post2 := by
    refine hadj (scT ++ (pre ++ [⟨3, [41], 13 + nm.length⟩])) ⟨3, [123], 13 + nm.length + 1⟩ post2 ?_ ⟨rfl, (by decide : (3 : Int) ≠ 2)⟩
    rw [hR, e2]
    simp
  have htr := treeP_in hg (endT (sc1 nm))
  rw [hR, List.append_assoc, e2] at htr
  obtain ⟨ps, q, b, q2, hs1, hs2⟩ := scT_parse htr
  have hfirst := scT_first hs1 hs2
  cases pre with
  | nil =>
    exfalso
    have hbl := all_blank hpre
    rw [tokL_blank nm _ _ hbl] at hb2
    exact eq_not_good hb2 hgood
  | cons w pre2 =>
    obtain ⟨g1, g2, g3, g4, g5, g6⟩ := tokL_cons hpre
    obtain ⟨B, rest, hBr, hB, hBl, hrest⟩ := blank_split nm
    rw [← hrest] at g2 g3
    obtain ⟨u, v, huv, hul⟩ : ∃ u v, rest = u ++ v ∧ u.length = w.text.length := ⟨rest.take w.text.length, rest.drop w.text.length, (List.take_append_drop _ _).symm, by
      rw [List.length_take]
      have : rest.length = nm.length - runB isBlk nm := by rw [hrest, List.length_drop]
      omega⟩
    have hwu : w.text = u := by rw [g2, huv, ← hul, List.take_left]
    have hv : nm.drop (runB isBlk nm + w.text.length) = v := by
      rw [← List.drop_drop, ← hrest, huv, ← hul, List.drop_left]
    rw [hv] at g6
    rw [huv, ← hul] at g3
    have hnm : nm = B ++ (u ++ v) := by rw [hBr, huv]
    have hb3 : tokL (u ++ (v ++ scC)) (13 + nm.length + 1 + 1 + B.length) = (post2, 0, 0) := by
      rw [hnm, List.append_assoc, List.append_assoc, tokL_blank B _ _ hB] at hb2
      rw [hnm]
      exact hb2
    -- the first token of the name, in the body
    have hsame : (isN w ∨ isT w [41]) → firstT (u ++ (v ++ scC)) = (w.kind, u.length, 0) := fun hk => by
      cases v with
      | cons c v =>
        exact fT_swap g3 (.inl rfl)
      | nil =>
        rcases hk with hk | hk
        · have hw := hk.2
          rw [hwu] at hw
          have hK := KT.word (v := scC) (ks := []) hw (fun c r e => by
            simp only [scC, List.cons.injEq] at e
            rw [← e.1]; decide)
          have := fT_swap (u := u) (v := []) (v' := []) g3 (.inl rfl)
          obtain ⟨b0, r0, e0, hb0, hd0, _⟩ := name_first hw
          unfold nameB at hw
          simp only [Bool.and_eq_true, beq_iff_eq, decide_eq_true_eq] at hw
          have hwr : runB isWd (u ++ ([] ++ scC)) = u.length := by
            rw [List.nil_append]
            show runB isWd (u ++ 61 :: _) = _
            rw [runB_app _ _ _ _ (by decide)]; exact hw.1.1.1.1
          have hn : ¬ 0 < runB isDig (u ++ ([] ++ scC)) := by
            rw [e0, List.cons_append, runB_zero hd0]; omega
          rw [fT_none hn, hwr, if_neg (by omega), if_pos (by omega), hk.1]
        · have hu : u = [41] := hwu.symm.trans hk.1
          subst hu
          have hkk : w.kind = 3 := by
            have : firstT ([41] ++ []) = (3, 1, 0) := rfl
            rw [this] at g3
            exact (Prod.mk.inj g3).1.symm
          rw [hkk]
          rfl
    have hblk0 : ∀ {k : Int} {n : Nat}, firstT (u ++ (v ++ scC)) = (k, n, 0) → runB isBlk (u ++ (v ++ scC)) = 0 := fun h => fT_blk h
    have hw1 : isN w ∨ isT w [41] := by
      rcases hfirst with ⟨w', r, e, h⟩ | ⟨w', v', r, e, h, _⟩
      · simp only [List.cons_append, List.cons.injEq] at e
        exact .inr (e.1 ▸ h)
      · simp only [List.cons_append, List.cons.injEq] at e
        exact .inl (e.1 ▸ h)
    have hf := hsame hw1
    obtain ⟨post3, e3, hb4⟩ := tokL_tail hb3 (hblk0 hf) hf
    rw [List.take_left] at e3
    rw [List.drop_left] at hb4
    have hwn : isN w := by
      rcases hw1 with h | h
      · exact h
      · exfalso
        rw [e3, show u = [41] from hwu.symm.trans h.1] at hgood
        exact sign_not_good rfl hgood
    cases pre2 with
    | nil =>
      exact ⟨B, u, v, hnm, hB, all_blank g6, by rw [← hwu]; exact hwn.2⟩
    | cons x pre3 =>
      exfalso
      -- the second token
      have hx : isT x [44] ∨ isT x [41] := by
        rcases hfirst with ⟨w', r, e, h⟩ | ⟨w', v', r, e, h, hv'⟩
        · simp only [List.cons_append, List.cons.injEq] at e
          rw [← e.1] at h
          exact absurd h.1 (isN_text hwn (by decide))
        · simp only [List.cons_append, List.cons.injEq] at e
          rw [← e.2.1] at hv'
          exact hv'
      obtain ⟨k1, k2, k3, k4, k5, k6⟩ := tokL_cons g6
      obtain ⟨B2, rest2, hBr2, hB2, hBl2, hrest2⟩ := blank_split v
      rw [← hrest2] at k2 k3
      have hxl : x.text.length = 1 := by rcases hx with h | h <;> rw [h.1] <;> rfl
      obtain ⟨c, r2, hr2⟩ : ∃ c r2, rest2 = c :: r2 := by
        cases hr : rest2 with
        | nil => rw [hr] at k2; rw [k2] at hxl; simp at hxl
        | cons c r2 => exact ⟨c, r2, rfl⟩
      have hxc : x.text = [c] := by rw [k2, hxl, hr2]; rfl
      have hc : c = 44 ∨ c = 41 := by
        rcases hx with h | h
        · have := h.1; rw [hxc] at this; exact .inl (by simpa using this)
        · have := h.1; rw [hxc] at this; exact .inr (by simpa using this)
      have hb5 : tokL (c :: (r2 ++ scC)) (13 + nm.length + 1 + 1 + B.length + u.length + B2.length) = (post3, 0, 0) := by
        rw [hBr2, hr2, List.append_assoc, tokL_blank B2 _ _ hB2] at hb4
        exact hb4
      have hf5 : firstT (c :: (r2 ++ scC)) = (3, 1, 0) := by rcases hc with rfl | rfl <;> rfl
      obtain ⟨post4, e5, _⟩ := tokL_tail hb5 (fT_blk hf5) hf5
      obtain ⟨y, c3, ey, hgy⟩ := hgood
      rw [e3] at ey
      simp only [List.cons.injEq] at ey
      obtain ⟨rfl, rfl⟩ := ey
      have hkey : keyK u = 0 := name_key (by rw [← hwu]; exact hwn.2)
      rcases hgy with hgy | hgy | ⟨_, z, c4, ez, hz⟩
      · exact isN_text hwn (by decide) (hwu.trans hgy.1)
      · exact hgy hkey
      · rw [e5] at ez
        simp only [List.cons.injEq] at ez
        obtain ⟨rfl, _⟩ := ez
        rcases hc with rfl | rfl
        · rcases hz with hz | hz <;> exact absurd (show ([44] : List UInt8) = _ from hz.1) (by decide)
        · rcases hz with hz | hz <;> exact absurd (show ([41] : List UInt8) = _ from hz.1) (by decide)
end Go.Proofs.YtfkdbifnhgadaaaGreatDoor

/-
  The five texts of CheckScope: their tokens, their trees, what is wrong with them. No program.
-/
namespace Go.Proofs.YtfkdbifnhgadaaaGreatDoor
open Go.RowKit Go.Shelf
set_option linter.unusedVariables false
set_option linter.unusedSimpArgs false

theorem blk32 : ∀ b ∈ ([32] : List UInt8), isBlk b = true := by decide
theorem blk_wd {b : UInt8} (h : isBlk b = true) : isWd b = false := by
  simp only [isBlk, isWd, isLet, isDig, Bool.or_eq_true, beq_iff_eq] at h ⊢
  rcases h with ((h | h) | h) | h <;> simp [h]
/-- a name with blanks -/
theorem KT.named {nm B w B' : List UInt8} (hn : nm = B ++ (w ++ B')) (hB : ∀ b ∈ B, isBlk b = true) (hB' : ∀ b ∈ B', isBlk b = true) (hw : nameB w = true) {c : UInt8} {r : List UInt8} {ks : List Tk} (hc : isWd c = false) (h : KT (c :: r) ks) :
    KT (nm ++ (c :: r)) (⟨1, w, 0⟩ :: ks) := by
  rw [hn, List.append_assoc, List.append_assoc]
  refine KT.blank hB (KT.word hw ?_ (KT.blank hB' h))
  intro d q e
  cases B' with
  | nil => simp only [List.nil_append, List.cons.injEq] at e; rw [← e.1]; exact hc
  | cons b B' =>
    simp only [List.cons_append, List.cons.injEq] at e
    have := hB' b (by simp)
    rw [← e.1]
    exact blk_wd this
def nv (l : List UInt8) : Va := ⟨⟨l.toArray⟩, 0⟩
def setV (w : List UInt8) (x : Ex) : Sts := .cons 2 ⟨w.toArray⟩ (x.cons .nil) .nil .nil .nil 0 .nil
def exX : Ex := ⟨2, ⟨#[120]⟩, 0, .nil, 0⟩
def ex1 : Ex := ⟨1, noB, 1, .nil, 0⟩
def callP (xs : Exs) : Sts := .cons 9 ⟨#[112]⟩ xs .nil .nil .nil 0 .nil
def tree1 (w : List UInt8) : Tre := ⟨[nv [120]], [], [⟨⟨#[112]⟩, [nv w], setV w exX, 0⟩], callP (ex1.cons .nil)⟩
def tree2 (w : List UInt8) : Tre := ⟨[nv [120]], [], [⟨⟨#[112]⟩, [nv w], setV w exX, 0⟩], setV w ex1⟩
def tree3 (w : List UInt8) : Tre := ⟨[nv [120], nv w], [], [⟨⟨#[112]⟩, [nv w], .nil, 0⟩], .nil⟩
def tree4 (w : List UInt8) : Tre := ⟨[nv [120], nv w], [], [⟨⟨#[112]⟩, [], setV w exX, 0⟩], setV w ex1⟩
def tree5 (w : List UInt8) : Tre := ⟨[nv [120]], [], [⟨⟨#[112]⟩, [nv w], .nil, 0⟩], callP .nil⟩

def sx1 (nm : List UInt8) : List UInt8 := 118 :: 97 :: 114 :: 32 :: 120 :: 59 :: 112 :: 114 :: 111 :: 99 :: 32 :: 112 :: 40 :: (nm ++ (41 :: 123 :: (nm ++ ([61, 120, 59, 125, 109, 97, 105, 110, 123, 99, 97, 108, 108, 32, 112, 40, 49, 41, 59, 125]))))

def kx1 (w : List UInt8) : List Tk := [⟨1, [118, 97, 114], 0⟩, ⟨1, [120], 0⟩, ⟨3, [59], 0⟩, ⟨1, [112, 114, 111, 99], 0⟩, ⟨1, [112], 0⟩, ⟨3, [40], 0⟩, ⟨1, w, 0⟩, ⟨3, [41], 0⟩, ⟨3, [123], 0⟩, ⟨1, w, 0⟩, ⟨3, [61], 0⟩, ⟨1, [120], 0⟩, ⟨3, [59], 0⟩, ⟨3, [125], 0⟩, ⟨1, [109, 97, 105, 110], 0⟩, ⟨3, [123], 0⟩, ⟨1, [99, 97, 108, 108], 0⟩, ⟨1, [112], 0⟩, ⟨3, [40], 0⟩, ⟨2, [49], 0⟩, ⟨3, [41], 0⟩, ⟨3, [59], 0⟩, ⟨3, [125], 0⟩]

set_option maxRecDepth 100000 in
theorem sx1_kt {nm B w B' : List UInt8} (hn : nm = B ++ (w ++ B')) (hB : ∀ b ∈ B, isBlk b = true) (hB' : ∀ b ∈ B', isBlk b = true) (hw : nameB w = true) : KT (sx1 nm) (kx1 w) :=
  KT.tok (k := 1) (u := [118, 97, 114]) rfl (KT.blank (B := [32]) blk32 (KT.tok (k := 1) (u := [120]) rfl (KT.tok (k := 3) (u := [59]) rfl (KT.tok (k := 1) (u := [112, 114, 111, 99]) rfl (KT.blank (B := [32]) blk32 (KT.tok (k := 1) (u := [112]) rfl (KT.tok (k := 3) (u := [40]) rfl (KT.named hn hB hB' hw rfl (KT.tok (k := 3) (u := [41]) rfl (KT.tok (k := 3) (u := [123]) rfl (KT.named hn hB hB' hw rfl (KT.tok (k := 3) (u := [61]) rfl (KT.tok (k := 1) (u := [120]) rfl (KT.tok (k := 3) (u := [59]) rfl (KT.tok (k := 3) (u := [125]) rfl (KT.tok (k := 1) (u := [109, 97, 105, 110]) rfl (KT.tok (k := 3) (u := [123]) rfl (KT.tok (k := 1) (u := [99, 97, 108, 108]) rfl (KT.blank (B := [32]) blk32 (KT.tok (k := 1) (u := [112]) rfl (KT.tok (k := 3) (u := [40]) rfl (KT.tok (k := 2) (u := [49]) rfl (KT.tok (k := 3) (u := [41]) rfl (KT.tok (k := 3) (u := [59]) rfl (KT.tok (k := 3) (u := [125]) rfl (KT.nil))))))))))))))))))))))))))

def sx2 (nm : List UInt8) : List UInt8 := 118 :: 97 :: 114 :: 32 :: 120 :: 59 :: 112 :: 114 :: 111 :: 99 :: 32 :: 112 :: 40 :: (nm ++ (41 :: 123 :: (nm ++ (61 :: 120 :: 59 :: 125 :: 109 :: 97 :: 105 :: 110 :: 123 :: (nm ++ ([61, 49, 59, 125]))))))

def kx2 (w : List UInt8) : List Tk := [⟨1, [118, 97, 114], 0⟩, ⟨1, [120], 0⟩, ⟨3, [59], 0⟩, ⟨1, [112, 114, 111, 99], 0⟩, ⟨1, [112], 0⟩, ⟨3, [40], 0⟩, ⟨1, w, 0⟩, ⟨3, [41], 0⟩, ⟨3, [123], 0⟩, ⟨1, w, 0⟩, ⟨3, [61], 0⟩, ⟨1, [120], 0⟩, ⟨3, [59], 0⟩, ⟨3, [125], 0⟩, ⟨1, [109, 97, 105, 110], 0⟩, ⟨3, [123], 0⟩, ⟨1, w, 0⟩, ⟨3, [61], 0⟩, ⟨2, [49], 0⟩, ⟨3, [59], 0⟩, ⟨3, [125], 0⟩]

set_option maxRecDepth 100000 in
theorem sx2_kt {nm B w B' : List UInt8} (hn : nm = B ++ (w ++ B')) (hB : ∀ b ∈ B, isBlk b = true) (hB' : ∀ b ∈ B', isBlk b = true) (hw : nameB w = true) : KT (sx2 nm) (kx2 w) :=
  KT.tok (k := 1) (u := [118, 97, 114]) rfl (KT.blank (B := [32]) blk32 (KT.tok (k := 1) (u := [120]) rfl (KT.tok (k := 3) (u := [59]) rfl (KT.tok (k := 1) (u := [112, 114, 111, 99]) rfl (KT.blank (B := [32]) blk32 (KT.tok (k := 1) (u := [112]) rfl (KT.tok (k := 3) (u := [40]) rfl (KT.named hn hB hB' hw rfl (KT.tok (k := 3) (u := [41]) rfl (KT.tok (k := 3) (u := [123]) rfl (KT.named hn hB hB' hw rfl (KT.tok (k := 3) (u := [61]) rfl (KT.tok (k := 1) (u := [120]) rfl (KT.tok (k := 3) (u := [59]) rfl (KT.tok (k := 3) (u := [125]) rfl (KT.tok (k := 1) (u := [109, 97, 105, 110]) rfl (KT.tok (k := 3) (u := [123]) rfl (KT.named hn hB hB' hw rfl (KT.tok (k := 3) (u := [61]) rfl (KT.tok (k := 2) (u := [49]) rfl (KT.tok (k := 3) (u := [59]) rfl (KT.tok (k := 3) (u := [125]) rfl (KT.nil)))))))))))))))))))))))

def sx3 (nm : List UInt8) : List UInt8 := 118 :: 97 :: 114 :: 32 :: 120 :: 44 :: (nm ++ (59 :: 112 :: 114 :: 111 :: 99 :: 32 :: 112 :: 40 :: (nm ++ ([41, 123, 125, 109, 97, 105, 110, 123, 125]))))

def kx3 (w : List UInt8) : List Tk := [⟨1, [118, 97, 114], 0⟩, ⟨1, [120], 0⟩, ⟨3, [44], 0⟩, ⟨1, w, 0⟩, ⟨3, [59], 0⟩, ⟨1, [112, 114, 111, 99], 0⟩, ⟨1, [112], 0⟩, ⟨3, [40], 0⟩, ⟨1, w, 0⟩, ⟨3, [41], 0⟩, ⟨3, [123], 0⟩, ⟨3, [125], 0⟩, ⟨1, [109, 97, 105, 110], 0⟩, ⟨3, [123], 0⟩, ⟨3, [125], 0⟩]

set_option maxRecDepth 100000 in
theorem sx3_kt {nm B w B' : List UInt8} (hn : nm = B ++ (w ++ B')) (hB : ∀ b ∈ B, isBlk b = true) (hB' : ∀ b ∈ B', isBlk b = true) (hw : nameB w = true) : KT (sx3 nm) (kx3 w) :=
  KT.tok (k := 1) (u := [118, 97, 114]) rfl (KT.blank (B := [32]) blk32 (KT.tok (k := 1) (u := [120]) rfl (KT.tok (k := 3) (u := [44]) rfl (KT.named hn hB hB' hw rfl (KT.tok (k := 3) (u := [59]) rfl (KT.tok (k := 1) (u := [112, 114, 111, 99]) rfl (KT.blank (B := [32]) blk32 (KT.tok (k := 1) (u := [112]) rfl (KT.tok (k := 3) (u := [40]) rfl (KT.named hn hB hB' hw rfl (KT.tok (k := 3) (u := [41]) rfl (KT.tok (k := 3) (u := [123]) rfl (KT.tok (k := 3) (u := [125]) rfl (KT.tok (k := 1) (u := [109, 97, 105, 110]) rfl (KT.tok (k := 3) (u := [123]) rfl (KT.tok (k := 3) (u := [125]) rfl (KT.nil)))))))))))))))))

def sx4 (nm : List UInt8) : List UInt8 := 118 :: 97 :: 114 :: 32 :: 120 :: 44 :: (nm ++ (59 :: 112 :: 114 :: 111 :: 99 :: 32 :: 112 :: 40 :: 41 :: 123 :: (nm ++ (61 :: 120 :: 59 :: 125 :: 109 :: 97 :: 105 :: 110 :: 123 :: (nm ++ ([61, 49, 59, 125]))))))

def kx4 (w : List UInt8) : List Tk := [⟨1, [118, 97, 114], 0⟩, ⟨1, [120], 0⟩, ⟨3, [44], 0⟩, ⟨1, w, 0⟩, ⟨3, [59], 0⟩, ⟨1, [112, 114, 111, 99], 0⟩, ⟨1, [112], 0⟩, ⟨3, [40], 0⟩, ⟨3, [41], 0⟩, ⟨3, [123], 0⟩, ⟨1, w, 0⟩, ⟨3, [61], 0⟩, ⟨1, [120], 0⟩, ⟨3, [59], 0⟩, ⟨3, [125], 0⟩, ⟨1, [109, 97, 105, 110], 0⟩, ⟨3, [123], 0⟩, ⟨1, w, 0⟩, ⟨3, [61], 0⟩, ⟨2, [49], 0⟩, ⟨3, [59], 0⟩, ⟨3, [125], 0⟩]

set_option maxRecDepth 100000 in
theorem sx4_kt {nm B w B' : List UInt8} (hn : nm = B ++ (w ++ B')) (hB : ∀ b ∈ B, isBlk b = true) (hB' : ∀ b ∈ B', isBlk b = true) (hw : nameB w = true) : KT (sx4 nm) (kx4 w) :=
  KT.tok (k := 1) (u := [118, 97, 114]) rfl (KT.blank (B := [32]) blk32 (KT.tok (k := 1) (u := [120]) rfl (KT.tok (k := 3) (u := [44]) rfl (KT.named hn hB hB' hw rfl (KT.tok (k := 3) (u := [59]) rfl (KT.tok (k := 1) (u := [112, 114, 111, 99]) rfl (KT.blank (B := [32]) blk32 (KT.tok (k := 1) (u := [112]) rfl (KT.tok (k := 3) (u := [40]) rfl (KT.tok (k := 3) (u := [41]) rfl (KT.tok (k := 3) (u := [123]) rfl (KT.named hn hB hB' hw rfl (KT.tok (k := 3) (u := [61]) rfl (KT.tok (k := 1) (u := [120]) rfl (KT.tok (k := 3) (u := [59]) rfl (KT.tok (k := 3) (u := [125]) rfl (KT.tok (k := 1) (u := [109, 97, 105, 110]) rfl (KT.tok (k := 3) (u := [123]) rfl (KT.named hn hB hB' hw rfl (KT.tok (k := 3) (u := [61]) rfl (KT.tok (k := 2) (u := [49]) rfl (KT.tok (k := 3) (u := [59]) rfl (KT.tok (k := 3) (u := [125]) rfl (KT.nil))))))))))))))))))))))))

def sx5 (nm : List UInt8) : List UInt8 := 118 :: 97 :: 114 :: 32 :: 120 :: 59 :: 112 :: 114 :: 111 :: 99 :: 32 :: 112 :: 40 :: (nm ++ ([41, 123, 125, 109, 97, 105, 110, 123, 99, 97, 108, 108, 32, 112, 40, 41, 59, 125]))

def kx5 (w : List UInt8) : List Tk := [⟨1, [118, 97, 114], 0⟩, ⟨1, [120], 0⟩, ⟨3, [59], 0⟩, ⟨1, [112, 114, 111, 99], 0⟩, ⟨1, [112], 0⟩, ⟨3, [40], 0⟩, ⟨1, w, 0⟩, ⟨3, [41], 0⟩, ⟨3, [123], 0⟩, ⟨3, [125], 0⟩, ⟨1, [109, 97, 105, 110], 0⟩, ⟨3, [123], 0⟩, ⟨1, [99, 97, 108, 108], 0⟩, ⟨1, [112], 0⟩, ⟨3, [40], 0⟩, ⟨3, [41], 0⟩, ⟨3, [59], 0⟩, ⟨3, [125], 0⟩]

set_option maxRecDepth 100000 in
theorem sx5_kt {nm B w B' : List UInt8} (hn : nm = B ++ (w ++ B')) (hB : ∀ b ∈ B, isBlk b = true) (hB' : ∀ b ∈ B', isBlk b = true) (hw : nameB w = true) : KT (sx5 nm) (kx5 w) :=
  KT.tok (k := 1) (u := [118, 97, 114]) rfl (KT.blank (B := [32]) blk32 (KT.tok (k := 1) (u := [120]) rfl (KT.tok (k := 3) (u := [59]) rfl (KT.tok (k := 1) (u := [112, 114, 111, 99]) rfl (KT.blank (B := [32]) blk32 (KT.tok (k := 1) (u := [112]) rfl (KT.tok (k := 3) (u := [40]) rfl (KT.named hn hB hB' hw rfl (KT.tok (k := 3) (u := [41]) rfl (KT.tok (k := 3) (u := [123]) rfl (KT.tok (k := 3) (u := [125]) rfl (KT.tok (k := 1) (u := [109, 97, 105, 110]) rfl (KT.tok (k := 3) (u := [123]) rfl (KT.tok (k := 1) (u := [99, 97, 108, 108]) rfl (KT.blank (B := [32]) blk32 (KT.tok (k := 1) (u := [112]) rfl (KT.tok (k := 3) (u := [40]) rfl (KT.tok (k := 3) (u := [41]) rfl (KT.tok (k := 3) (u := [59]) rfl (KT.tok (k := 3) (u := [125]) rfl (KT.nil)))))))))))))))))))))

theorem exX_g (d n : Nat) : ExG d n [⟨1, [120], 0⟩] exX := .var d n ⟨1, [120], 0⟩ ⟨rfl, by decide⟩
theorem ex1_g (d n : Nat) : ExG d n [⟨2, [49], 0⟩] ex1 := .num d n ⟨2, [49], 0⟩ rfl
theorem set_g {w : List UInt8} (hw : nameB w = true) (m : Nat) {t : Tk} {x : Ex} (hx : ExG m 1 [t] x) : BlG (m + 1) [⟨3, [123], 0⟩, ⟨1, w, 0⟩, ⟨3, [61], 0⟩, t, ⟨3, [59], 0⟩, ⟨3, [125], 0⟩] [⟨2, ⟨w.toArray⟩, x.cons .nil, .nil, .nil, .nil, 0⟩] :=
  .mk m ⟨3, [123], 0⟩ ⟨3, [125], 0⟩ [⟨1, w, 0⟩, ⟨3, [61], 0⟩, t, ⟨3, [59], 0⟩] _ ⟨rfl, by decide⟩ (.cons m [⟨1, w, 0⟩, ⟨3, [61], 0⟩, t, ⟨3, [59], 0⟩] [] _ [] (.set m ⟨1, w, 0⟩ ⟨3, [61], 0⟩ ⟨3, [59], 0⟩ [t] x ⟨rfl, hw⟩ ⟨rfl, by decide⟩ hx ⟨rfl, by decide⟩) (.nil m)) ⟨rfl, by decide⟩
theorem none_g (m : Nat) : BlG (m + 1) [⟨3, [123], 0⟩, ⟨3, [125], 0⟩] [] := .mk m ⟨3, [123], 0⟩ ⟨3, [125], 0⟩ [] _ ⟨rfl, by decide⟩ (.nil m) ⟨rfl, by decide⟩
theorem call1_g (m : Nat) : BlG (m + 1) [⟨3, [123], 0⟩, ⟨1, [99, 97, 108, 108], 0⟩, ⟨1, [112], 0⟩, ⟨3, [40], 0⟩, ⟨2, [49], 0⟩, ⟨3, [41], 0⟩, ⟨3, [59], 0⟩, ⟨3, [125], 0⟩] [⟨9, ⟨#[112]⟩, ex1.cons .nil, .nil, .nil, .nil, 0⟩] :=
  .mk m ⟨3, [123], 0⟩ ⟨3, [125], 0⟩ [⟨1, [99, 97, 108, 108], 0⟩, ⟨1, [112], 0⟩, ⟨3, [40], 0⟩, ⟨2, [49], 0⟩, ⟨3, [41], 0⟩, ⟨3, [59], 0⟩] _ ⟨rfl, by decide⟩ (.cons m [⟨1, [99, 97, 108, 108], 0⟩, ⟨1, [112], 0⟩, ⟨3, [40], 0⟩, ⟨2, [49], 0⟩, ⟨3, [41], 0⟩, ⟨3, [59], 0⟩] [] _ [] (.call m ⟨1, [99, 97, 108, 108], 0⟩ ⟨1, [112], 0⟩ ⟨3, [40], 0⟩ ⟨3, [41], 0⟩ ⟨3, [59], 0⟩ [⟨2, [49], 0⟩] [ex1] rfl ⟨rfl, by decide⟩ ⟨rfl, by decide⟩ (.inr (.one _ _ (ex1_g m 1))) ⟨rfl, by decide⟩ ⟨rfl, by decide⟩) (.nil m)) ⟨rfl, by decide⟩
theorem call0_g (m : Nat) : BlG (m + 1) [⟨3, [123], 0⟩, ⟨1, [99, 97, 108, 108], 0⟩, ⟨1, [112], 0⟩, ⟨3, [40], 0⟩, ⟨3, [41], 0⟩, ⟨3, [59], 0⟩, ⟨3, [125], 0⟩] [⟨9, ⟨#[112]⟩, .nil, .nil, .nil, .nil, 0⟩] :=
  .mk m ⟨3, [123], 0⟩ ⟨3, [125], 0⟩ [⟨1, [99, 97, 108, 108], 0⟩, ⟨1, [112], 0⟩, ⟨3, [40], 0⟩, ⟨3, [41], 0⟩, ⟨3, [59], 0⟩] _ ⟨rfl, by decide⟩ (.cons m [⟨1, [99, 97, 108, 108], 0⟩, ⟨1, [112], 0⟩, ⟨3, [40], 0⟩, ⟨3, [41], 0⟩, ⟨3, [59], 0⟩] [] _ [] (.call m ⟨1, [99, 97, 108, 108], 0⟩ ⟨1, [112], 0⟩ ⟨3, [40], 0⟩ ⟨3, [41], 0⟩ ⟨3, [59], 0⟩ [] [] rfl ⟨rfl, by decide⟩ ⟨rfl, by decide⟩ (.inl ⟨rfl, rfl⟩) ⟨rfl, by decide⟩ ⟨rfl, by decide⟩) (.nil m)) ⟨rfl, by decide⟩
def hx1 : List Tk := [⟨1, [118, 97, 114], 0⟩, ⟨1, [120], 0⟩, ⟨3, [59], 0⟩]
def hx2 (w : List UInt8) : List Tk := [⟨1, [118, 97, 114], 0⟩, ⟨1, [120], 0⟩, ⟨3, [44], 0⟩, ⟨1, w, 0⟩, ⟨3, [59], 0⟩]
theorem nv_g {w : List UInt8} (hw : nameB w = true) : VaG [⟨1, w, 0⟩] (nv w) := ⟨⟨1, w, 0⟩, rfl, ⟨rfl, hw⟩, rfl⟩
theorem hx1_g : HdG hx1 [nv [120]] [] := .vars ⟨1, [118, 97, 114], 0⟩ ⟨3, [59], 0⟩ [⟨1, [120], 0⟩] [] [nv [120]] [] [] ⟨rfl, by decide⟩ (.one _ _ (nv_g (by decide))) ⟨rfl, by decide⟩ .nil
theorem hx2_g {w : List UInt8} (hw : nameB w = true) : HdG (hx2 w) [nv [120], nv w] [] := .vars ⟨1, [118, 97, 114], 0⟩ ⟨3, [59], 0⟩ [⟨1, [120], 0⟩, ⟨3, [44], 0⟩, ⟨1, w, 0⟩] [] [nv [120], nv w] [] [] ⟨rfl, by decide⟩ (.more [⟨1, [120], 0⟩] _ ⟨3, [44], 0⟩ [⟨1, w, 0⟩] [nv w] (nv_g (by decide)) ⟨rfl, by decide⟩ (.one _ _ (nv_g hw))) ⟨rfl, by decide⟩ .nil
theorem pc_g {d b : List Tk} {ps : List Va} {xs : List St} (hd : ListG VaG d ps) (hb : BlG 24 b xs) : PsG (⟨1, [112, 114, 111, 99], 0⟩ :: ((⟨1, [112], 0⟩ :: ⟨3, [40], 0⟩ :: (d ++ ⟨3, [41], 0⟩ :: b)) ++ [])) [⟨⟨#[112]⟩, ps, stsOf xs, 0⟩] :=
  .cons ⟨1, [112, 114, 111, 99], 0⟩ _ [] _ [] ⟨rfl, by decide⟩ ⟨⟨1, [112], 0⟩, ⟨3, [40], 0⟩, ⟨3, [41], 0⟩, d, b, ps, xs, rfl, ⟨rfl, by decide⟩, ⟨rfl, by decide⟩, hd, ⟨rfl, by decide⟩, hb, rfl⟩ .nil
def mnT : Tk := ⟨1, [109, 97, 105, 110], 0⟩
theorem kx1_g {w : List UInt8} (hw : nameB w = true) : TrG (kx1 w) (tree1 w) := ⟨hx1, _, mnT, _, _, rfl, hx1_g, pc_g (.inr (.one _ _ (nv_g hw))) (set_g hw 23 (exX_g 23 1)), ⟨rfl, by decide⟩, call1_g 23, rfl⟩
theorem kx2_g {w : List UInt8} (hw : nameB w = true) : TrG (kx2 w) (tree2 w) := ⟨hx1, _, mnT, _, _, rfl, hx1_g, pc_g (.inr (.one _ _ (nv_g hw))) (set_g hw 23 (exX_g 23 1)), ⟨rfl, by decide⟩, set_g hw 23 (ex1_g 23 1), rfl⟩
theorem kx3_g {w : List UInt8} (hw : nameB w = true) : TrG (kx3 w) (tree3 w) := ⟨hx2 w, _, mnT, _, _, rfl, hx2_g hw, pc_g (.inr (.one _ _ (nv_g hw))) (none_g 23), ⟨rfl, by decide⟩, none_g 23, rfl⟩
theorem kx4_g {w : List UInt8} (hw : nameB w = true) : TrG (kx4 w) (tree4 w) := ⟨hx2 w, _, mnT, _, _, rfl, hx2_g hw, pc_g (.inl ⟨rfl, rfl⟩) (set_g hw 23 (exX_g 23 1)), ⟨rfl, by decide⟩, set_g hw 23 (ex1_g 23 1), rfl⟩
theorem kx5_g {w : List UInt8} (hw : nameB w = true) : TrG (kx5 w) (tree5 w) := ⟨hx1, _, mnT, _, _, rfl, hx1_g, pc_g (.inr (.one _ _ (nv_g hw))) (none_g 23), ⟨rfl, by decide⟩, call0_g 23, rfl⟩
/-- what is wrong, whatever the places -/
theorem told_tree {s : List UInt8} {ks : List Tk} {t0 : Tre} (hk : KT s ks) (hl : s.length ≤ 4096) (hg : TrG ks t0) : (toldB s).2 = (treeC t0).2 := by
  obtain ⟨h1, h2⟩ := hk.parse hl hg
  unfold toldB
  rw [if_pos h1, ← h2, treeC_b]
theorem told_at0 {s : List UInt8} (h : (toldB s).2 = 0) : toldB s = (0, 0) ∧ (parseB s).2.2 = 0 := by
  unfold toldB at h ⊢
  by_cases e : (parseB s).2.2 = 0
  · rw [if_pos e] at h ⊢
    exact ⟨treeC_at h, e⟩
  · rw [if_neg e] at h
    exact absurd h e
theorem treeC_main {t : Tre} (h0 : okTr t = true) (h00 : fewT t = true) (h1 : freshL (fun _ => none) (nmV t.vars)) (h2 : freshL (putL (1, 0) (nmV t.vars) fun _ => none) (nmA t.arrays)) (h3 : sizeOk t.arrays) (h4 : freshL (putL (2, 0) (nmA t.arrays) (putL (1, 0) (nmV t.vars) fun _ => none)) (nmP t.procs)) (h5 : okPs' t.procs (knT t)) :
    treeC t = stmtsC (putPs t.procs (knT t)) t.main (0, 0) := by
  unfold treeC
  rw [if_pos h0, if_pos h00, declT_ok h1 h2 h3 h4, procsC_ok _ _ h5 rfl]
  simp only [Bool.false_eq_true, if_false]
theorem bn (l : List UInt8) : (⟨l.toArray⟩ : ByteArray).data.toList = l := by simp
theorem set_ok {w : List UInt8} (hw : nameB w = true) {x : Ex} (hx : okX (x.cons .nil) = true) : okS (setV w x) = true := by
  simp [setV, okS, okC, nmdB, tabA, stShp, hw, Sts.len, Exs.len, Cds.len, Ex.cons]
  exact hx
theorem exX_ok : okX (exX.cons .nil) = true := by decide
theorem ex1_ok : okX (ex1.cons .nil) = true := by kernel_rfl
theorem call1_ok : okS (callP (ex1.cons .nil)) = true := by kernel_rfl
theorem call0_ok : okS (callP .nil) = true := by decide
theorem nx_ok : nameB [120] = true := by decide
theorem np_ok : nameB [112] = true := by decide
theorem scope_names {w : List UInt8} (h : (treeC (tree1 w)).2 = 0) : w ≠ [120] ∧ w ≠ [112] := by
  have := (treeC_no h).each.1.2.1
  refine ⟨fun e => ?_, fun e => ?_⟩ <;> simp [tree1, nmV, nv, freshL, knT, putL, nmP, nmA, e] at this
theorem tree2_wrong {w : List UInt8} (hw : nameB w = true) (h1 : w ≠ [120]) (h2 : w ≠ [112]) : (treeC (tree2 w)).2 = 110 := by
  have g1 : ¬ [120] = w := fun e => h1 e.symm
  have g2 : ¬ [112] = w := fun e => h2 e.symm
  rw [treeC_main]
  · simp [tree2, setV, stmtsC, headC, useC, askC, failC, putPs, knT, putL, Kn.put, nmV, nmA, nmP, nv, h1, h2, exprsC, condsC, Ex.cons, ex1]
  · simp [okTr, okVs, okAs, okPs, allVa, allAr, allPr, tree2, nv, set_ok hw exX_ok, set_ok hw ex1_ok, nx_ok, np_ok, hw]
  · rfl
  · simp [tree2, freshL, nmV, nv]
  · simp [tree2, freshL, nmA]
  · simp [tree2, sizeOk]
  · simp [tree2, freshL, nmP, putL, nmV, nmA, nv]
  · simp [tree2, okPs', okP, freshL, knT, putL, nmV, nmA, nmP, nv, h1, h2, setV, okUS, okUH, okUX, okUC, isK, Ex.cons, exX, g1, g2]
theorem tree3_wrong {w : List UInt8} (hw : nameB w = true) (h1 : w ≠ [120]) (h2 : w ≠ [112]) : (treeC (tree3 w)).2 = 111 := by
  have g1 : ¬ [120] = w := fun e => h1 e.symm
  have g2 : ¬ [112] = w := fun e => h2 e.symm
  have k1 : okTr (tree3 w) = true := by simp [okTr, okVs, okAs, okPs, allVa, allAr, allPr, tree3, nv, nx_ok, np_ok, hw, okS]
  have k2 : fewT (tree3 w) = true := rfl
  have k3 : declT (tree3 w) = (knT (tree3 w), (0, 0)) := declT_ok (by simp [tree3, freshL, nmV, nv, Kn.put, h1, g1]) (by simp [tree3, freshL, nmA]) (by simp [tree3, sizeOk]) (by simp [tree3, freshL, nmP, putL, nmV, nmA, nv, h1, h2, g1, g2])
  unfold treeC
  rw [if_pos k1, if_pos k2, k3]
  have k4 : procsC (tree3 w).procs (knT (tree3 w), (0, 0)) = ((procC [112] [nv w] .nil 0 (knT (tree3 w), (0, 0))), true) ∧ (procC [112] [nv w] .nil 0 (knT (tree3 w), (0, 0))).2 = (0, 111) := by
    have q : (procC [112] [nv w] .nil 0 (knT (tree3 w), (0, 0))).2 = (0, 111) := by
      simp [procC, declVs, declC, declE, askC, failC, nv, knT, putL, nmV, nmA, nmP, tree3, h1, h2]
    refine ⟨?_, q⟩
    show procsC [⟨⟨#[112]⟩, [nv w], .nil, 0⟩] (knT (tree3 w), (0, 0)) = _
    unfold procsC
    rw [if_neg]
    show ¬ (procC [112] [nv w] .nil 0 (knT (tree3 w), (0, 0))).2.2 = 0
    rw [q]
    decide
  rw [k4.1, if_pos rfl, k4.2]
theorem tree4_right {w : List UInt8} (hw : nameB w = true) (h1 : w ≠ [120]) (h2 : w ≠ [112]) : (treeC (tree4 w)).2 = 0 := by
  have g1 : ¬ [120] = w := fun e => h1 e.symm
  have g2 : ¬ [112] = w := fun e => h2 e.symm
  rw [treeC_ok]
  constructor
  · simp [okTr, okVs, okAs, okPs, allVa, allAr, allPr, tree4, nv, set_ok hw exX_ok, set_ok hw ex1_ok, nx_ok, np_ok, hw]
  · rfl
  · simp [tree4, freshL, nmV, nv, h1, g1, Kn.put]
  · simp [tree4, freshL, nmA]
  · simp [tree4, sizeOk]
  · simp [tree4, freshL, nmP, putL, nmV, nmA, nv, h1, h2, g1, g2]
  · simp [tree4, okPs', okP, freshL, knT, putL, nmV, nmA, nmP, nv, h1, h2, setV, okUS, okUH, okUX, okUC, isK, Ex.cons, exX, g1, g2]
  · simp [tree4, okUS, okUH, okUX, okUC, setV, isK, putPs, Kn.put, knT, putL, nmV, nmA, nmP, nv, Ex.cons, ex1, h1, h2, g1, g2]
theorem tree5_wrong {w : List UInt8} (hw : nameB w = true) (h1 : w ≠ [120]) (h2 : w ≠ [112]) : (treeC (tree5 w)).2 = 114 := by
  have g1 : ¬ [120] = w := fun e => h1 e.symm
  have g2 : ¬ [112] = w := fun e => h2 e.symm
  rw [treeC_main]
  · simp [tree5, callP, stmtsC, headC, useC, askC, failC, putPs, knT, putL, Kn.put, nmV, nmA, nmP, nv, h1, h2, exprsC, condsC, Ex.cons, ex1, Exs.len]
  · simp [okTr, okVs, okAs, okPs, allVa, allAr, allPr, tree5, nv, call0_ok, nx_ok, np_ok, hw, okS]
  · rfl
  · simp [tree5, freshL, nmV, nv]
  · simp [tree5, freshL, nmA]
  · simp [tree5, sizeOk]
  · simp [tree5, freshL, nmP, putL, nmV, nmA, nv]
  · simp [tree5, okPs', okP, freshL, knT, putL, nmV, nmA, nmP, nv, h1, h2, okUS]
theorem sx1_sc (nm : List UInt8) : sx1 nm = sc1 nm := rfl
/-- THE LAW of CheckScope -/
theorem scope_law {nm : List UInt8} (hl : nm.length ≤ 100) (h : (toldB (sx1 nm)).2 = 0) :
    toldB (sx1 nm) = (0, 0) ∧ (toldB (sx2 nm)).2 = 110 ∧ (toldB (sx3 nm)).2 = 111 ∧ (toldB (sx4 nm)).2 = 0 ∧ (toldB (sx5 nm)).2 = 114 := by
  obtain ⟨e0, hp⟩ := told_at0 h
  obtain ⟨B, w, B', hn, hB, hB', hw⟩ := scope_name (nm := nm) (by rw [← sx1_sc]; exact hp)
  have t1 := told_tree (sx1_kt hn hB hB' hw) (by simp [sx1]; omega) (kx1_g hw)
  rw [h] at t1
  obtain ⟨h1, h2⟩ := scope_names t1.symm
  refine ⟨e0, ?_, ?_, ?_, ?_⟩
  · rw [told_tree (sx2_kt hn hB hB' hw) (by simp [sx2]; omega) (kx2_g hw), tree2_wrong hw h1 h2]
  · rw [told_tree (sx3_kt hn hB hB' hw) (by simp [sx3]; omega) (kx3_g hw), tree3_wrong hw h1 h2]
  · rw [told_tree (sx4_kt hn hB hB' hw) (by simp [sx4]; omega) (kx4_g hw), tree4_right hw h1 h2]
  · rw [told_tree (sx5_kt hn hB hB' hw) (by simp [sx5]; omega) (kx5_g hw), tree5_wrong hw h1 h2]
end Go.Proofs.YtfkdbifnhgadaaaGreatDoor

/-
  law11.CheckScope: the walk.
-/
namespace Go.Proofs.YtfkdbifnhgadaaaGreatDoor
open Go.RowKit Go.Shelf
set_option linter.unusedVariables false
set_option linter.unusedSimpArgs false

def sb1 (s : ByteArray) : ByteArray := ⟨#[118, 97, 114, 32, 120, 59, 112, 114, 111, 99, 32, 112, 40]⟩ ++ s ++ ⟨#[41, 123]⟩ ++ s ++ ⟨#[61, 120, 59, 125, 109, 97, 105, 110, 123, 99, 97, 108, 108, 32, 112, 40, 49, 41, 59, 125]⟩
theorem sb1_list (s : ByteArray) : (sb1 s).data.toList = sx1 s.data.toList := by
  unfold sb1 sx1
  simp
theorem sb1_size (s : ByteArray) : (sb1 s).size = 13 + s.size + 2 + s.size + 20 := by
  unfold sb1
  simp [ByteArray.size_append]
  rfl
def sb2 (s : ByteArray) : ByteArray := ⟨#[118, 97, 114, 32, 120, 59, 112, 114, 111, 99, 32, 112, 40]⟩ ++ s ++ ⟨#[41, 123]⟩ ++ s ++ ⟨#[61, 120, 59, 125, 109, 97, 105, 110, 123]⟩ ++ s ++ ⟨#[61, 49, 59, 125]⟩
theorem sb2_list (s : ByteArray) : (sb2 s).data.toList = sx2 s.data.toList := by
  unfold sb2 sx2
  simp
theorem sb2_size (s : ByteArray) : (sb2 s).size = 13 + s.size + 2 + s.size + 9 + s.size + 4 := by
  unfold sb2
  simp [ByteArray.size_append]
  rfl
def sb3 (s : ByteArray) : ByteArray := ⟨#[118, 97, 114, 32, 120, 44]⟩ ++ s ++ ⟨#[59, 112, 114, 111, 99, 32, 112, 40]⟩ ++ s ++ ⟨#[41, 123, 125, 109, 97, 105, 110, 123, 125]⟩
theorem sb3_list (s : ByteArray) : (sb3 s).data.toList = sx3 s.data.toList := by
  unfold sb3 sx3
  simp
theorem sb3_size (s : ByteArray) : (sb3 s).size = 6 + s.size + 8 + s.size + 9 := by
  unfold sb3
  simp [ByteArray.size_append]
  rfl
def sb4 (s : ByteArray) : ByteArray := ⟨#[118, 97, 114, 32, 120, 44]⟩ ++ s ++ ⟨#[59, 112, 114, 111, 99, 32, 112, 40, 41, 123]⟩ ++ s ++ ⟨#[61, 120, 59, 125, 109, 97, 105, 110, 123]⟩ ++ s ++ ⟨#[61, 49, 59, 125]⟩
theorem sb4_list (s : ByteArray) : (sb4 s).data.toList = sx4 s.data.toList := by
  unfold sb4 sx4
  simp
theorem sb4_size (s : ByteArray) : (sb4 s).size = 6 + s.size + 10 + s.size + 9 + s.size + 4 := by
  unfold sb4
  simp [ByteArray.size_append]
  rfl
def sb5 (s : ByteArray) : ByteArray := ⟨#[118, 97, 114, 32, 120, 59, 112, 114, 111, 99, 32, 112, 40]⟩ ++ s ++ ⟨#[41, 123, 125, 109, 97, 105, 110, 123, 99, 97, 108, 108, 32, 112, 40, 41, 59, 125]⟩
theorem sb5_list (s : ByteArray) : (sb5 s).data.toList = sx5 s.data.toList := by
  unfold sb5 sx5
  simp
theorem sb5_size (s : ByteArray) : (sb5 s).size = 13 + s.size + 18 := by
  unfold sb5
  simp [ByteArray.size_append]
  rfl
theorem toldA {s b : ByteArray} {l : List UInt8} (w : World) (he : NameEnv w) (hb : b.data.toList = l) (hz : b.size ≤ 9223372036854775807) : ∀ W, Fr NoT w W → Calls Tryz.prog 13 #[.string b] W (AtE (toldB l) W) := fun W hf => by
  have := told_any b hz W (he.keep hf.plain)
  rw [hb] at this
  exact this
set_option maxRecDepth 100000 in
set_option maxHeartbeats 3200000 in
theorem cscope_long (s : ByteArray) (w : World) (he : NameEnv w) (hs : ¬ s.size ≤ 100) : Calls Tryz.prog 7 #[.string s] w (TruePost w) := by
  have H1 := Lib.hid (calive_any w he)
  have e0 : decide ((100 : Int) < s.size) = true := by simp; omega
  clear he
  go_enter Tryz.func7, Tryz.ntmps7
  go_wp2_with fail
  refine H1.out.mono ?_
  rintro _ w1 ⟨rfl, hb⟩
  go_wp2_with fail
  go_ret
  exact ⟨rfl, hb⟩
set_option maxRecDepth 100000 in
set_option maxHeartbeats 3200000 in
theorem cscope_no (s : ByteArray) (w : World) (he : NameEnv w) (hs : s.size ≤ 100) (hn : (toldB (sx1 s.data.toList)).2 ≠ 0) : Calls Tryz.prog 7 #[.string s] w (TruePost w) := by
  have H1 := Lib.hid (calive_any w he)
  have h2 := toldA (s := s) w he (sb1_list s) (by rw [sb1_size]; omega)
  obtain ⟨⟨a, e⟩, hq⟩ : ∃ q, q = toldB (sx1 s.data.toList) := ⟨_, rfl⟩
  rw [← hq] at h2 hn
  have e1 : (e != 0) = true := by simpa using hn
  have e0 : decide ((100 : Int) < s.size) = false := by simp; omega
  unfold sb1 at h2
  have H2 := Lib.hid h2

  have z0 : 13 + s.size ≤ 9223372036854775807 := by omega
  have z1 : 13 + s.size + 2 ≤ 9223372036854775807 := by omega
  have z2 : 13 + s.size + 2 + s.size ≤ 9223372036854775807 := by omega
  have z3 : 13 + s.size + 2 + s.size + 20 ≤ 9223372036854775807 := by omega
  clear he h2 hq hn
  go_enter Tryz.func7, Tryz.ntmps7
  go_wp2_with fail
  refine H1.out.mono ?_
  rintro _ w1 ⟨rfl, hb⟩
  have HF1 := Lib.hid (Fr.below (T := NoT) hb)
  clear hb
  go_wp2_with fail
  refine (H2.out _ HF1.out).mono ?_
  rintro _ w2 ⟨rfl, hf2⟩
  have HF2 := Lib.hid (HF1.out.trans hf2)
  clear hf2
  go_wp2_with fail
  go_ret
  exact ⟨rfl, HF2.out.plain⟩
set_option maxRecDepth 100000 in
set_option maxHeartbeats 6400000 in
theorem cscope_yes (s : ByteArray) (w : World) (he : NameEnv w) (hs : s.size ≤ 100) (hn : (toldB (sx1 s.data.toList)).2 = 0) : Calls Tryz.prog 7 #[.string s] w (TruePost w) := by
  have H1 := Lib.hid (calive_any w he)
  obtain ⟨q1, q2, q3, q4, q5⟩ := scope_law (nm := s.data.toList) (by rw [size_len]; exact hs) hn
  have h2 := toldA (s := s) w he (sb1_list s) (by rw [sb1_size]; omega)
  have h3 := toldA (s := s) w he (sb2_list s) (by rw [sb2_size]; omega)
  have h4 := toldA (s := s) w he (sb3_list s) (by rw [sb3_size]; omega)
  have h5 := toldA (s := s) w he (sb4_list s) (by rw [sb4_size]; omega)
  have h6 := toldA (s := s) w he (sb5_list s) (by rw [sb5_size]; omega)
  rw [q1] at h2
  obtain ⟨⟨a2, e2⟩, hq2⟩ : ∃ q, q = toldB (sx2 s.data.toList) := ⟨_, rfl⟩
  rw [← hq2] at h3 q2
  obtain rfl : e2 = 110 := q2
  obtain ⟨⟨a3, e3⟩, hq3⟩ : ∃ q, q = toldB (sx3 s.data.toList) := ⟨_, rfl⟩
  rw [← hq3] at h4 q3
  obtain rfl : e3 = 111 := q3
  obtain ⟨⟨a4, e4⟩, hq4⟩ : ∃ q, q = toldB (sx4 s.data.toList) := ⟨_, rfl⟩
  rw [← hq4] at h5 q4
  obtain rfl : e4 = 0 := q4
  obtain ⟨⟨a5, e5⟩, hq5⟩ : ∃ q, q = toldB (sx5 s.data.toList) := ⟨_, rfl⟩
  rw [← hq5] at h6 q5
  obtain rfl : e5 = 114 := q5
  unfold sb1 at h2
  have H2 := Lib.hid h2
  unfold sb2 at h3
  have H3 := Lib.hid h3
  unfold sb3 at h4
  have H4 := Lib.hid h4
  unfold sb4 at h5
  have H5 := Lib.hid h5
  unfold sb5 at h6
  have H6 := Lib.hid h6
  have e0 : decide ((100 : Int) < s.size) = false := by simp; omega
  have z0 : 13 + s.size ≤ 9223372036854775807 := by omega
  have z1 : 13 + s.size + 2 ≤ 9223372036854775807 := by omega
  have z2 : 13 + s.size + 2 + s.size ≤ 9223372036854775807 := by omega
  have z3 : 13 + s.size + 2 + s.size + 20 ≤ 9223372036854775807 := by omega
  have z4 : 13 + s.size + 2 + s.size + 9 ≤ 9223372036854775807 := by omega
  have z5 : 13 + s.size + 2 + s.size + 9 + s.size ≤ 9223372036854775807 := by omega
  have z6 : 13 + s.size + 2 + s.size + 9 + s.size + 4 ≤ 9223372036854775807 := by omega
  have z7 : 6 + s.size ≤ 9223372036854775807 := by omega
  have z8 : 6 + s.size + 8 ≤ 9223372036854775807 := by omega
  have z9 : 6 + s.size + 8 + s.size ≤ 9223372036854775807 := by omega
  have z10 : 6 + s.size + 8 + s.size + 9 ≤ 9223372036854775807 := by omega
  have z11 : 6 + s.size + 10 ≤ 9223372036854775807 := by omega
  have z12 : 6 + s.size + 10 + s.size ≤ 9223372036854775807 := by omega
  have z13 : 6 + s.size + 10 + s.size + 9 ≤ 9223372036854775807 := by omega
  have z14 : 6 + s.size + 10 + s.size + 9 + s.size ≤ 9223372036854775807 := by omega
  have z15 : 6 + s.size + 10 + s.size + 9 + s.size + 4 ≤ 9223372036854775807 := by omega
  have z16 : 13 + s.size + 18 ≤ 9223372036854775807 := by omega
  clear he h2 h3 h4 h5 h6 hq2 hq3 hq4 hq5 hn q1
  go_enter Tryz.func7, Tryz.ntmps7
  go_wp2_with fail
  refine H1.out.mono ?_
  rintro _ w1 ⟨rfl, hb⟩
  have HF1 := Lib.hid (Fr.below (T := NoT) hb)
  clear hb
  go_wp2_with fail
  refine (H2.out _ HF1.out).mono ?_
  rintro _ w2 ⟨rfl, hf⟩
  have HF2 := Lib.hid (HF1.out.trans hf)
  clear hf
  go_wp2_with fail
  refine (H3.out _ HF2.out).mono ?_
  rintro _ w3 ⟨rfl, hf⟩
  have HF3 := Lib.hid (HF2.out.trans hf)
  clear hf
  go_wp2_with fail
  refine (H4.out _ HF3.out).mono ?_
  rintro _ w4 ⟨rfl, hf⟩
  have HF4 := Lib.hid (HF3.out.trans hf)
  clear hf
  go_wp2_with fail
  refine (H5.out _ HF4.out).mono ?_
  rintro _ w5 ⟨rfl, hf⟩
  have HF5 := Lib.hid (HF4.out.trans hf)
  clear hf
  go_wp2_with fail
  refine (H6.out _ HF5.out).mono ?_
  rintro _ w6 ⟨rfl, hf⟩
  have HF6 := Lib.hid (HF5.out.trans hf)
  clear hf
  go_wp2_with fail
  go_ret
  exact ⟨rfl, HF6.out.plain⟩
/-- CheckScope is true -/
theorem cscope_any (s : ByteArray) (w : World) (he : NameEnv w) : Calls Tryz.prog 7 #[.string s] w (TruePost w) := by
  by_cases hs : s.size ≤ 100
  · by_cases hn : (toldB (sx1 s.data.toList)).2 = 0
    · exact cscope_yes s w he hs hn
    · exact cscope_no s w he hs hn
  · exact cscope_long s w he hs
end Go.Proofs.YtfkdbifnhgadaaaGreatDoor
