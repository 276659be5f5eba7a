/-
  A graph that may be: its nodes' bounds. No walk.
-/
import Derived.Test.YtmfioehnhjjgpaaGreatDoorJnCk3
set_option linter.unusedVariables false
set_option linter.unusedSimpArgs false
namespace Go.Proofs.YtmfioehnhjjgpaaGreatDoor
open Go.RowKit

theorem mayG_nodes9 {g:Gr} (h:mayG g=true):g.edges.length≤2048∧g.nodes≤4096∧(0≤g.start∧g.start < g.nodes)∧(0≤g.last∧g.last < g.nodes)∧∀e∈g.edges,(0≤e.from_∧e.from_ < g.nodes)∧0≤e.to_∧e.to_ < g.nodes:=by
 unfold mayG at h
 simp only[Bool.and_eq_true,Bool.not_eq_true',Bool.or_eq_false_iff,List.all_eq_true]at h
 obtain⟨⟨⟨h1,h2⟩,h3⟩,h4⟩:=h
 unfold odd1 at h1
 unfold odd2 at h2
 simp only[Bool.or_eq_false_iff,decide_eq_false_iff_not,Bool.not_eq_false',Bool.and_eq_true,decide_eq_true_eq]at h1 h2
 refine⟨by omega,by omega,h2.1.1.1,h2.1.1.2,fun e he=>?_⟩
 have:=List.any_eq_false.1 h3 e he
 unfold edBad at this
 simp only[Bool.not_eq_true,Bool.or_eq_false_iff,Bool.not_eq_false',Bool.and_eq_true,decide_eq_true_eq]at this
 exact this.1
end Go.Proofs.YtmfioehnhjjgpaaGreatDoor
