/-
  Trees without places. No program.
-/
import Derived.Test.YtfcegaklbicmfaaGreatDoorJnData
set_option linter.unusedVariables false
set_option linter.unusedSimpArgs false
namespace Go.Proofs.YtfcegaklbicmfaaGreatDoor
open Go.RowKit

def Exs.bare : Exs → Exs
 | .nil => .nil
 | .cons k nm n args _ rest => .cons k nm n args.bare 0 rest.bare
def Cds.bare : Cds → Cds
 | .nil => .nil
 | .cons k args of_ _ rest => .cons k args.bare of_.bare 0 rest.bare
def Sts.bare : Sts → Sts
 | .nil => .nil
 | .cons k nm args cond body els _ rest => .cons k nm args.bare cond.bare body.bare els.bare 0 rest.bare
def Va.bare (x : Va) : Va := ⟨x.nm, 0⟩
def Arr.bare (x : Arr) : Arr := ⟨x.nm, x.size, 0⟩
def Prc.bare (x : Prc) : Prc := ⟨x.nm, x.params.map Va.bare, x.body.bare, 0⟩
def Tre.bare (t : Tre) : Tre := ⟨t.vars.map Va.bare, t.arrays.map Arr.bare, t.procs.map Prc.bare, t.main.bare⟩
end Go.Proofs.YtfcegaklbicmfaaGreatDoor
