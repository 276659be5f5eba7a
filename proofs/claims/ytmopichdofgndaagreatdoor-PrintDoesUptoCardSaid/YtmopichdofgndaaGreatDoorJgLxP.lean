/-
  Plain laws on tokens: where a text's tokens lie; each one's text, by itself, is just that token; blanks more change nothing but places. No program.
-/
import Derived.Lib.AtoiAll
import Derived.Deep.RegionWith
import Derived.Test.YtmopichdofgndaaGreatDoorJnLxE
import Derived.RegionTactic
import Derived.NoCompiler
import Derived.RegionDies
import Derived.Deep.RegionHeld3
set_option linter.unusedVariables false
set_option linter.unusedSimpArgs false
namespace Go.Proofs.YtmopichdofgndaaGreatDoor
open Go.RowKit

theorem runB_pre (p:UInt8→Bool) (B l:List UInt8) (hB:∀b∈B,p b=true):runB p (B++l)=B.length+runB p l:=by
 induction B with
 |nil=>simp
 |cons a B ih=>
  have ha:=hB a List.mem_cons_self
  have:=ih fun b hb=>hB b (List.mem_cons_of_mem _ hb)
  simp only[runB]at this ⊢
  simp only[List.cons_append,List.takeWhile,ha,List.length_cons,this]
  omega
theorem fT_num {l:List UInt8} (h:0 < runB isDig l):firstT l=if(numB (l.take (runB isDig l))&& !decide (runB isDig l < runB isWd l))=true then(2,runB isDig l,0)else(0,0,81):=by
 unfold firstT
 rw[if_pos h]
theorem fT_none {l:List UInt8} (h:¬0 < runB isDig l):firstT l=if 16 < runB isWd l then((0:Int),0,(82:Int))else if 0 < runB isWd l then((1:Int),runB isWd l,(0:Int))else match signL.find? (fun x=>x.isPrefixOf l)with|some x=>((3:Int),x.length,(0:Int))|none=>((0:Int),0,(80:Int)):=by
 unfold firstT
 rw[if_neg h]
 rfl

inductive PR (α:Type) where
 |ok (a:α) (r:List Tk)
 |err (e:Int) (at_:Int)
def noB:ByteArray:=⟨#[]⟩
def txt (t:Tk):ByteArray:=⟨t.text.toArray⟩

open Go.RowKit Go.Shelf

@[go_sem] theorem fieldVa0 (a b:Value) (W:World):(Instr.field 43 (.agg #[a,b]) 0).run Tryz.prog W= .ok a W:=by kernel_rfl

/-! what a token is depends on the byte behind it alone -/
theorem isDig_wd {b:UInt8} (h:isDig b=true):isWd b=true:=by unfold isWd;rw[h];simp
/-! a text with another end -/
end Go.Proofs.YtmopichdofgndaaGreatDoor
