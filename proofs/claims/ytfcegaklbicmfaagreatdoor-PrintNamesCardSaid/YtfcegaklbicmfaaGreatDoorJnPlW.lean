/-
  Plain law: what is wrong is told where it is. No program.
-/
import Derived.Test.YtfcegaklbicmfaaGreatDoorJnLex
import Derived.Test.YtfcegaklbicmfaaGreatDoorJnLoc
import Derived.Test.YtfcegaklbicmfaaGreatDoorJnPs
set_option linter.unusedVariables false
set_option linter.unusedSimpArgs false
namespace Go.Proofs.YtfcegaklbicmfaaGreatDoor
open Go.RowKit Go.Shelf

theorem parseB_ok {s : List UInt8} (h : (toks s).2.2 = 0) : parseB s = match treeP ((toks s).1 ++ [endT s]) with | .ok t _ => (t, 0, 0) | .err e a => (⟨[], [], [], .nil⟩, a, e) := by
 unfold parseB
 simp only
 rw [if_neg (by simpa using h)]
 rfl
end Go.Proofs.YtfcegaklbicmfaaGreatDoor
