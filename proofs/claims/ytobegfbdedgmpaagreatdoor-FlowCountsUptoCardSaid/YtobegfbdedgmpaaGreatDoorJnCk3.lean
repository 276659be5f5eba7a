/-
  slices.IndexFunc and slices.ContainsFunc over expressions: whether one of them has what a function value asks.
-/
import Derived.Test.YtobegfbdedgmpaaGreatDoorRows
import Derived.Test.YtobegfbdedgmpaaGreatDoorJnData
import Derived.Lib.Hide
import Derived.WalkSpells
import Derived.WalkLawsBesides
import Derived.Laws.EntriesVeiled
import Derived.Shelf.Abstract
import Derived.Test.YtobegfbdedgmpaaGreatDoorJnBase
import Derived.Deep.QuietTactic
import Derived.BigQuiet
import Derived.Outline
import Derived.BigRegion
import Derived.Deep.DeepCutAuto
import Derived.Maps.OwnSet
import Derived.Maps.OwnOps
import Derived.Maps.RangeWalk
import Derived.Deep.AppendLies
import Derived.Deep.RegionHeld3
import Derived.Deep.DrawnRows
import Derived.StillTailTactics
set_option linter.unusedVariables false
set_option linter.unusedSimpArgs false
namespace Go.Proofs.YtobegfbdedgmpaaGreatDoor
open Go.RowKit Go.Shelf

structure Ed where
 from_:Int
 to_:Int
 kind:Int
 n:Int
 cmp:Int
 args:Exs
 at_:Int

def Ed.ok (e:Ed):Prop:=in64 e.from_∧in64 e.to_∧in8 e.kind∧in64 e.n∧in8 e.cmp∧in64 e.at_

/-! numbers -/

def grV (vars:Int) (Aa:Option Addr) (na ca:Nat) (nodes start last:Int) (Ae:Option Addr) (ne ce:Nat):Value:= .agg #[.int .i64 vars,.slice Aa na ca,.int .i64 nodes,.int .i64 start,.int .i64 last,.slice Ae ne ce]

open Go.RowKit Go.Shelf Go.Maps

attribute [local go_sem ↓] Go.wp_at_zero Go.wp_at_succ

structure Gr where
 vars:Int
 arrays:List Int
 nodes:Int
 start:Int
 last:Int
 edges:List Ed
def Gr.ok (g:Gr):Prop:=in64 g.vars∧in64 g.nodes∧in64 g.start∧in64 g.last

end Go.Proofs.YtobegfbdedgmpaaGreatDoor
