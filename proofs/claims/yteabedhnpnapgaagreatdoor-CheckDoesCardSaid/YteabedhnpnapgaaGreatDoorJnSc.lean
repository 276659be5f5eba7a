/-
  Plain laws of names: places turn no error. No program.
-/
import Derived.Test.YteabedhnpnapgaaGreatDoorJnCl
import Derived.Test.YteabedhnpnapgaaGreatDoorTrBare
namespace Go.Proofs.YteabedhnpnapgaaGreatDoor
open Go.RowKit Go.Shelf Go.Maps
set_option linter.unusedVariables false
set_option linter.unusedSimpArgs false

theorem askC_b {st st' p p' : Int × Int} {is : Bool} (h : st.2 = st'.2) (hp : p.2 = p'.2) : (askC st is p).2 = (askC st' is p').2 := by
  cases is with
  | true => exact h
  | false =>
    show (failC st p).2 = (failC st' p').2
    unfold failC
    rw [← h]
    by_cases e : st.2 = 0
    · rw [if_pos e, if_pos e]; exact hp
    · rw [if_neg e, if_neg e]; exact h
theorem useC_b {kn : Kn} {st st' : Int × Int} {t : List UInt8} {k a a' : Int} (h : st.2 = st'.2) : (useC kn st t k a).2 = (useC kn st' t k a').2 := askC_b (askC_b h rfl) rfl
theorem exprsC_b {kn : Kn} : ∀ (xs : Exs) (st st' : Int × Int), st.2 = st'.2 → (exprsC kn xs st).2 = (exprsC kn xs.bare st').2
  | .nil, st, st', h => h
  | .cons k nm m args a r, st, st', h => by
    unfold exprsC Exs.bare
    refine exprsC_b r _ _ (exprsC_b args _ _ ?_)
    by_cases e : k = 2
    · rw [if_pos e, if_pos e]; exact useC_b h
    · rw [if_neg e, if_neg e]
      by_cases e2 : k = 3
      · rw [if_pos e2, if_pos e2]; exact useC_b h
      · rw [if_neg e2, if_neg e2]; exact h
theorem condsC_b {kn : Kn} : ∀ (xs : Cds) (st st' : Int × Int), st.2 = st'.2 → (condsC kn xs st).2 = (condsC kn xs.bare st').2
  | .nil, st, st', h => h
  | .cons k args of_ a r, st, st', h => by
    unfold condsC Cds.bare
    exact condsC_b r _ _ (condsC_b of_ _ _ (exprsC_b args _ _ h))
theorem headC_b {kn : Kn} {k : Int} {t : List UInt8} {na a a' : Int} {st st' : Int × Int} (h : st.2 = st'.2) : (headC kn k t na a st).2 = (headC kn k t na a' st').2 := by
  unfold headC
  by_cases e1 : k = 2 ∨ k = 4
  · rw [if_pos e1, if_pos e1]; exact useC_b h
  · rw [if_neg e1, if_neg e1]
    by_cases e2 : k = 3
    · rw [if_pos e2, if_pos e2]; exact useC_b h
    · rw [if_neg e2, if_neg e2]
      by_cases e3 : k = 9
      · rw [if_pos e3, if_pos e3]; exact askC_b (useC_b h) rfl
      · rw [if_neg e3, if_neg e3]; exact h
theorem stmtsC_b {kn : Kn} : ∀ (xs : Sts) (st st' : Int × Int), st.2 = st'.2 → (stmtsC kn xs st).2 = (stmtsC kn xs.bare st').2
  | .nil, st, st', h => h
  | .cons k nm args cond body els a r, st, st', h => by
    unfold stmtsC Sts.bare
    refine stmtsC_b r _ _ (stmtsC_b els _ _ (stmtsC_b body _ _ (condsC_b cond _ _ (exprsC_b args _ _ ?_))))
    rw [bareX_len]
    exact headC_b h
/-- checkers that know the same, and have the same error -/
def Sm (s s' : Cks) : Prop := s.1 = s'.1 ∧ s.2.2 = s'.2.2
theorem declC_b {s s' : Cks} {t : List UInt8} {a a' : Int} {v : Int × Int} (h : Sm s s') : Sm (declC s t a v) (declC s' t a' v) := by
  unfold declC Sm declK declE
  rw [← h.1]
  exact ⟨rfl, askC_b h.2 rfl⟩
theorem declVs_b {v : Int × Int} : ∀ (xs : List Va) (s s' : Cks), Sm s s' → Sm (declVs v xs s) (declVs v (xs.map Va.bare) s')
  | [], s, s', h => h
  | x :: r, s, s', h => declVs_b r _ _ (declC_b h)
theorem declArs_b : ∀ (xs : List Arr) (s s' : Cks), Sm s s' → Sm (declArs xs s) (declArs (xs.map Arr.bare) s')
  | [], s, s', h => h
  | x :: r, s, s', h => by
    refine declArs_b r _ _ ?_
    have h1 : Sm (declC s x.nm.data.toList x.at_ (2, 0)) (declC s' x.nm.data.toList 0 (2, 0)) := declC_b h
    exact ⟨h1.1, askC_b h1.2 rfl⟩
theorem declPrs_b : ∀ (xs : List Prc) (s s' : Cks), Sm s s' → Sm (declPrs xs s) (declPrs (xs.map Prc.bare) s')
  | [], s, s', h => h
  | x :: r, s, s', h => declPrs_b r _ _ (declC_b h)
theorem delVs_b : ∀ (xs : List Va) (kn : Kn), delVs xs kn = delVs (xs.map Va.bare) kn
  | [], kn => rfl
  | x :: r, kn => delVs_b r _
theorem procC_b {x : Prc} {s s' : Cks} (h : Sm s s') : Sm (procC x.nm.data.toList x.params x.body x.at_ s) (procC x.bare.nm.data.toList x.bare.params x.bare.body x.bare.at_ s') := by
  have hl : x.bare.params.length = x.params.length := by simp [Prc.bare]
  unfold procC
  rw [hl]
  have h1 : Sm (declVs (1, 0) x.params (s.1, askC s.2 (decide ((x.params.length : Int) ≤ 4)) (x.at_, 4))) (declVs (1, 0) (x.params.map Va.bare) (s'.1, askC s'.2 (decide ((x.params.length : Int) ≤ 4)) (x.bare.at_, 4))) := declVs_b _ _ _ ⟨h.1, askC_b h.2 rfl⟩
  show Sm (if _ then _ else _) (if (declVs (1, 0) (x.params.map Va.bare) _).2.2 = 0 then _ else _)
  by_cases e : (declVs (1, 0) x.params (s.1, askC s.2 (decide ((x.params.length : Int) ≤ 4)) (x.at_, 4))).2.2 = 0
  · rw [if_pos e, if_pos (h1.2 ▸ e)]
    refine ⟨?_, ?_⟩
    · show (delVs x.params _).put _ _ = (delVs (x.params.map Va.bare) _).put _ _
      rw [delVs_b, h1.1]
      rfl
    · show (stmtsC _ x.body _).2 = (stmtsC _ x.body.bare _).2
      rw [h1.1]
      exact stmtsC_b _ _ _ h1.2
  · rw [if_neg e, if_neg (h1.2 ▸ e)]
    exact h1
theorem procsC_b : ∀ (xs : List Prc) (s s' : Cks), Sm s s' → Sm (procsC xs s).1 (procsC (xs.map Prc.bare) s').1 ∧ (procsC xs s).2 = (procsC (xs.map Prc.bare) s').2
  | [], s, s', h => ⟨h, rfl⟩
  | x :: r, s, s', h => by
    have h1 := procC_b (x := x) h
    rw [List.map_cons]
    unfold procsC
    by_cases e : (procC x.nm.data.toList x.params x.body x.at_ s).2.2 = 0
    · rw [if_pos e, if_pos (h1.2 ▸ e)]
      exact procsC_b r _ _ h1
    · rw [if_neg e, if_neg (h1.2 ▸ e)]
      exact ⟨h1, rfl⟩
theorem okX_b : ∀ xs : Exs, okX xs.bare = okX xs
  | .nil => rfl
  | .cons k nm m args a r => by simp only [Exs.bare, okX, bareX_len, okX_b args, okX_b r]
theorem okC_b : ∀ xs : Cds, okC xs.bare = okC xs
  | .nil => rfl
  | .cons k args of_ a r => by simp only [Cds.bare, okC, bareX_len, bareC_len, okX_b args, okC_b of_, okC_b r]
theorem okS_b : ∀ xs : Sts, okS xs.bare = okS xs
  | .nil => rfl
  | .cons k nm args cond body els a r => by simp only [Sts.bare, okS, bareX_len, bareC_len, bareS_len, okX_b args, okC_b cond, okS_b body, okS_b els, okS_b r]
theorem okVs_b (xs : List Va) : okVs (xs.map Va.bare) = okVs xs := by
  unfold okVs allVa
  rw [List.all_map]
  rfl
theorem okTr_b (t : Tre) : okTr t.bare = okTr t := by
  unfold okTr okAs okPs allAr allPr
  simp only [Tre.bare, okVs_b, okS_b, List.all_map]
  congr 1
  refine List.all_congr rfl fun x => ?_
  simp only [Function.comp, Prc.bare, okVs_b, okS_b]
/-- PLACES TURN NO ERROR -/
theorem treeC_b (t : Tre) : (treeC t).2 = (treeC t.bare).2 := by
  have hf : fewT t.bare = fewT t := by unfold fewT Tre.bare; simp
  unfold treeC
  rw [okTr_b, hf]
  by_cases h1 : okTr t = true
  · rw [if_pos h1, if_pos h1]
    by_cases h2 : fewT t = true
    · rw [if_pos h2, if_pos h2]
      have hd : Sm (declT t) (declT t.bare) := declPrs_b _ _ _ (declArs_b _ _ _ (declVs_b _ _ _ ⟨rfl, rfl⟩))
      obtain ⟨h3, h4⟩ := procsC_b t.procs _ _ hd
      show _ = (if (procsC (t.procs.map Prc.bare) (declT t.bare)).2 = true then _ else stmtsC _ t.main.bare _).2
      rw [← h4]
      by_cases h5 : (procsC t.procs (declT t)).2 = true
      · rw [if_pos h5, if_pos h5]; exact h3.2
      · rw [if_neg h5, if_neg h5]
        show _ = (stmtsC (procsC (t.procs.map Prc.bare) (declT t.bare)).1.1 t.main.bare (procsC (t.procs.map Prc.bare) (declT t.bare)).1.2).2
        rw [← h3.1]
        exact stmtsC_b _ _ _ h3.2
    · rw [if_neg h2, if_neg h2]
  · rw [if_neg h1, if_neg h1]
end Go.Proofs.YteabedhnpnapgaaGreatDoor
