/-
  Packs: where a scalar is found; one that no edge has with another; what pack.Check answers. No program.
-/
import Derived.Test.YtphlnpaikpjakaaPkOut
import Derived.Test.YtphlnpaikpjakaaPkFind
import Derived.Test.YtphlnpaikpjakaaPkGreat
set_option linter.unusedVariables false
set_option linter.unusedSimpArgs false
namespace Go.Proofs.Ytphlnpaikpjakaa
open Go.RowKit Go.Shelf

theorem readX_len:∀xs:Exs,(readX xs).length ≤cntX xs
 | .nil =>lrq _
 | .cons k nm n args at_ rest=>by
  have h1:=readX_len args
  have h2:=readX_len rest
  unfold readX cntX
  split<;>simp<;>omega
theorem scalE_len {e:Ed} (h:cntX e.args≤5000):(scalE e).length ≤100000:=by
 have h1:=readX_len e.args
 unfold scalE
 split<;>simp<;>omega

/-! one that no edge has with another -/
/-! reading -/
/-! pack.Check -/
def risB (l:List Int):Bool:=decide (l.Pairwise (· < ·))
def badRow (most:Int) (l:List Int):Bool:=decide ((l.length:Int) < 1) || decide (most < (l.length:Int)) || !risB l
def sortZ (l:List Int):List Int:=l.mergeSort leZ
def chkB (vars:Int) (fs all:List Int):Bool:= !risB fs || !risB all || !((all.length:Int)==vars) || (decide (0 < vars)&&(!(all.getD 0 0==0) || !(all.getD (vars - 1).toNat 0==vars - 1)))
def chkN (vars most:Int) (ls:List (List Int)):Int:=
 if decide (vars < 0) || decide (32 < vars) || decide (most < 1) || decide (6 < most)then 2
 else if ls.any (badRow most)then 8 else if chkB vars (ls.map (·.headD 0)) (sortZ ls.flatten)then 8 else 0
theorem range_rise (v:Nat):((List.range v).map fun(i:Nat)=>(i:Int)).Pairwise (· < ·):=by
 rw[List.pairwise_map]
 exact List.pairwise_lt_range.imp fun h=>by omega
theorem sortZ_perm {l r:List Int} (h:l.Perm r) (hr:r.Pairwise (· < ·)):sortZ l=r:=
 ((List.mergeSort_perm l leZ).trans h).eq_of_pairwise (fun a b _ _ h1 h2=>by omega) (sort_pair l) (hr.imp fun h=>by omega)
end Go.Proofs.Ytphlnpaikpjakaa
