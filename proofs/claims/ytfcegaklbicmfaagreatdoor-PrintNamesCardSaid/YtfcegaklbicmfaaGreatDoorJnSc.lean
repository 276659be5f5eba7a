/-
  Plain grammar: texts by their tokens, places left out. No program.
-/
import Derived.Test.YtfcegaklbicmfaaGreatDoorJnGrC
import Derived.Test.YtfcegaklbicmfaaGreatDoorJnPl
import Derived.Test.YtfcegaklbicmfaaGreatDoorJnPlW
set_option linter.unusedVariables false
set_option linter.unusedSimpArgs false
namespace Go.Proofs.YtfcegaklbicmfaaGreatDoor
open Go.RowKit Go.Shelf

def KT (l : List UInt8) (ks : List Tk) : Prop := ∀ p, ∃ ts, tokL l p = (ts, 0, 0) ∧ ts.map Tk.bare = ks
theorem KT.nil : KT [] [] := fun p => ⟨[], tokL_nil rfl, rfl⟩
theorem KT.tok {k : Int} {u v : List UInt8} {ks : List Tk} (h : firstT (u ++ v) = (k, u.length, 0)) (hr : KT v ks) : KT (u ++ v) (⟨k, u, 0⟩ :: ks) := fun p => by
 have hb := fT_blk h
 obtain ⟨ts, h1, h2⟩ := hr (p + u.length)
 refine ⟨_, tokL_mk (l := u ++ v) (p := p) (by rw [hb]; rfl) h (by rw [hb, Nat.add_zero]; exact h1), ?_⟩
 rw [List.map_cons, h2]
 rfl
theorem KT.blank {B l : List UInt8} {ks : List Tk} (hB : ∀ b ∈ B, isBlk b = true) (h : KT l ks) : KT (B ++ l) ks := fun p => by
 obtain ⟨ts, h1, h2⟩ := h (p + B.length)
 exact ⟨ts, by rw [tokL_blank B l p hB]; exact h1, h2⟩
theorem KT.word {w v : List UInt8} {ks : List Tk} (h : nameB w = true) (hv : ∀ c r, v = c :: r → isWd c = false) (hr : KT v ks) : KT (w ++ v) (⟨1, w, 0⟩ :: ks) := by
 refine KT.tok ?_ hr
 obtain ⟨b, r, e, hb, hd, _⟩ := name_first h
 unfold nameB at h
 simp only [Bool.and_eq_true, beq_iff_eq, decide_eq_true_eq] at h
 have hw : runB isWd (w ++ v) = w.length := by
  cases v with
  | nil => rw [List.append_nil]; exact h.1.1.1.1
  | cons c r => rw [runB_app _ _ _ _ (hv c r rfl)]; exact h.1.1.1.1
 have hn : ¬ 0 < runB isDig (w ++ v) := by
  subst e
  rw [List.cons_append, runB_zero hd]
  omega
 rw [fT_none hn, hw, if_neg (by omega), if_pos (by omega)]
theorem KT.at0 {l : List UInt8} {ks : List Tk} (h : KT l ks) (hl : l.length ≤ 4096) : ∃ ts, toks l = (ts, 0, 0) ∧ ts.map Tk.bare = ks := by
 obtain ⟨ts, h1, h2⟩ := h 0
 exact ⟨ts, by rw [tokL_toks hl]; exact h1, h2⟩
theorem KT.parse {s : List UInt8} {ks : List Tk} {t0 : Tre} (hk : KT s ks) (hl : s.length ≤ 4096) (hg : TrG ks t0) : (parseB s).2.2 = 0 ∧ (parseB s).1.bare = t0 := by
 obtain ⟨ts, h1, h2⟩ := hk.at0 hl
 have hq : (toks s).2.2 = 0 := by rw [h1]
 have hb := treeP_bare ((toks s).1 ++ [endT s])
 rw [List.map_append, h1, h2] at hb
 have hz : [endT s].map Tk.bare = [(⟨0, [], 0⟩ : Tk)] := rfl
 rw [hz, treeP_in hg] at hb
 rw [parseB_ok hq, h1]
 cases ht : treeP (ts ++ [endT s]) with
 | ok t r =>
  rw [ht] at hb
  simp only [PR.bare, PR.ok.injEq] at hb
  exact ⟨rfl, hb.1.symm⟩
 | err c a =>
  rw [ht] at hb
  simp [PR.bare] at hb
end Go.Proofs.YtfcegaklbicmfaaGreatDoor
