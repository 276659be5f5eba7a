/-
  Trees without places. No program.
-/
import Derived.Test.YteabedhnpnapgaaGreatDoorJnData
namespace Go.Proofs.YteabedhnpnapgaaGreatDoor
open Go.RowKit
set_option linter.unusedVariables false
set_option linter.unusedSimpArgs false

def Exs.bare : Exs → Exs
  | .nil => .nil
  | .cons k nm n args _ rest => .cons k nm n args.bare 0 rest.bare
def Cds.bare : Cds → Cds
  | .nil => .nil
  | .cons k args of_ _ rest => .cons k args.bare of_.bare 0 rest.bare
def Sts.bare : Sts → Sts
  | .nil => .nil
  | .cons k nm args cond body els _ rest => .cons k nm args.bare cond.bare body.bare els.bare 0 rest.bare
def Va.bare (x : Va) : Va := ⟨x.nm, 0⟩
def Arr.bare (x : Arr) : Arr := ⟨x.nm, x.size, 0⟩
def Prc.bare (x : Prc) : Prc := ⟨x.nm, x.params.map Va.bare, x.body.bare, 0⟩
def Tre.bare (t : Tre) : Tre := ⟨t.vars.map Va.bare, t.arrays.map Arr.bare, t.procs.map Prc.bare, t.main.bare⟩
theorem bareX_len : ∀ xs : Exs, xs.bare.len = xs.len
  | .nil => rfl
  | .cons _ _ _ _ _ r => by simp only [Exs.bare, Exs.len, bareX_len r]
theorem bareC_len : ∀ xs : Cds, xs.bare.len = xs.len
  | .nil => rfl
  | .cons _ _ _ _ r => by simp only [Cds.bare, Cds.len, bareC_len r]
theorem bareS_len : ∀ xs : Sts, xs.bare.len = xs.len
  | .nil => rfl
  | .cons _ _ _ _ _ _ _ r => by simp only [Sts.bare, Sts.len, bareS_len r]
end Go.Proofs.YteabedhnpnapgaaGreatDoor
