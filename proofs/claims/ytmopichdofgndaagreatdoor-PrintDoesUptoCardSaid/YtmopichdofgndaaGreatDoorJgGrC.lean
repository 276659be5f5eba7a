/-
  Plain grammar: the parser takes what is the grammar's: expressions, conditions. No program.
-/
import Derived.Test.YtmopichdofgndaaGreatDoorJnGrA
import Derived.Maps.OwnSet
import Derived.Maps.OwnOps
import Derived.Maps.RangeWalk
import Derived.StillTailTactics
import Derived.Test.YtmopichdofgndaaGreatDoorJnRmT
import Derived.Test.YtmopichdofgndaaGreatDoorBaTr
import Derived.Test.YtmopichdofgndaaGreatDoorJnCq
import Derived.Test.YtmopichdofgndaaGreatDoorJgRqSameT
set_option linter.unusedVariables false
set_option linter.unusedSimpArgs false
namespace Go.Proofs.YtmopichdofgndaaGreatDoor
open Go.RowKit Go.Shelf

theorem name_first {l:List UInt8} (h:nameB l=true):∃b r,l=b::r∧isWd b=true∧isDig b=false∧keyB l=false:=by
 unfold nameB at h
 simp only[Bool.and_eq_true,beq_iff_eq,decide_eq_true_eq,Bool.not_eq_true',Bool.not_eq_eq_eq_not,Bool.not_true]at h
 obtain⟨⟨⟨⟨h1,h2⟩,h3⟩,h4⟩,h5⟩:=h
 obtain⟨b,r,rfl,hb⟩:=runB_head h2
 exact⟨b,r,rfl,hb,by simpa using h4,h5⟩

def TruePost (W:World) (e:Ending) (w':World):Prop:=e= .returned (.bool true)∧Below W.heap.size W w'
theorem bareX_bare:∀xs:Exs,xs.bare.bare=xs.bare
 | .nil =>rfl
 | .cons _ _ _ args _ r=>by simp only[Exs.bare,bareX_bare args,bareX_bare r]
theorem bareC_bare:∀xs:Cds,xs.bare.bare=xs.bare
 | .nil =>rfl
 | .cons _ args of_ _ r=>by simp only[Cds.bare,bareX_bare args,bareC_bare of_,bareC_bare r]
theorem bareS_bare:∀xs:Sts,xs.bare.bare=xs.bare
 | .nil =>rfl
 | .cons _ _ args cond body els _ r=>by simp only[Sts.bare,bareX_bare args,bareC_bare cond,bareS_bare body,bareS_bare els,bareS_bare r]
theorem bareT_bare (t:Tre):t.bare.bare=t.bare:=by
 simp only[Tre.bare,List.map_map,bareS_bare]
 congr 1
 ·refine List.map_congr_left fun x _=>?_
  simp only[Function.comp,Prc.bare,List.map_map,bareS_bare]
  congr 1
end Go.Proofs.YtmopichdofgndaaGreatDoor

