/-
  Plain law: what is wrong is told where it is. No program.
-/
import Derived.Test.YtfcegaklbicmfaaGreatDoorJnLex
import Derived.Test.YtfcegaklbicmfaaGreatDoorJnLoc
import Derived.Test.YtfcegaklbicmfaaGreatDoorJnPs
import Derived.Test.YtfcegaklbicmfaaGreatDoorJnGrA
import Derived.Test.YtfcegaklbicmfaaGreatDoorJnCkC
set_option linter.unusedVariables false
set_option linter.unusedSimpArgs false
namespace Go.Proofs.YtfcegaklbicmfaaGreatDoor
open Go.RowKit Go.Shelf

theorem endT_dead (s : List UInt8) : ¬ (endT s).live := fun h => h ⟨rfl, rfl⟩
theorem parseB_ok {s : List UInt8} (h : (toks s).2.2 = 0) : parseB s = match treeP ((toks s).1 ++ [endT s]) with | .ok t _ => (t, 0, 0) | .err e a => (⟨[], [], [], .nil⟩, a, e) := by
 unfold parseB
 simp only
 rw [if_neg (by simpa using h)]
 rfl
theorem parseB_lex {s : List UInt8} (h : (toks s).2.2 ≠ 0) : parseB s = ((⟨[], [], [], .nil⟩ : Tre), ((toks s).2.1 : Int), (toks s).2.2) := by
 unfold parseB
 simp only
 rw [if_pos h]
theorem treeP_code {l : List Tk} (he : Ended l) {c a : Int} (h : treeP l = .err c a) : c = 90 ∨ c = 91 := by
 obtain ⟨_, _, _, _, _, h3, _⟩ := treeP_wrong he h
 rcases h3 with h | h
 ·exact .inl h
 ·exact .inr h.1

theorem parseB_gram {s : List UInt8} (h : (parseB s).2.2 = 0) : (toks s).2.2 = 0 ∧ TrG (toks s).1 (parseB s).1 := by
 by_cases hq : (toks s).2.2 = 0
 ·refine ⟨hq, ?_⟩
  rw [parseB_ok hq] at h ⊢
  cases ht : treeP ((toks s).1 ++ [endT s]) with
  | ok t r => exact treeP_gram (endT_dead s) ht
  | err c a =>
   rw [ht] at h
   have h : c = 0 := h
   rcases treeP_code ⟨_, _, rfl, endT_dead s⟩ ht with e | e <;> omega
 ·rw [parseB_lex hq] at h
  exact absurd h hq
end Go.Proofs.YtfcegaklbicmfaaGreatDoor
