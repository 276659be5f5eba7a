/- Plain law on numerals: digits that ParseInt takes, and that FormatInt gives back. -/
import Derived.Test.YtmopichdofgndaaGreatDoorLxData
import Derived.Lib.ParseIntB
import Derived.Lib.ItoaMem
import Derived.Lib.SmallJoins
import Derived.Laws.Rows
import Derived.Laws.Tables
set_option linter.all false
namespace Go.Proofs.YtmopichdofgndaaGreatDoor
open Go.RowKit
def zm2 (l:List UInt8):Prop:=∀b∈l,zbz b=true
theorem zdp (b:UInt8):zbz b=true↔48<=b.toNat/\b.toNat<=57:=by simp[zbz]
def decA (acc:Nat)(l:List UInt8):Nat:=l.foldl (λn b=>n*10+(b.toNat - 48)) acc
theorem zlR (l:List UInt8):decV l=decA 0 l:=rfl
theorem zfy (b:UInt8)(l:List UInt8)(acc:Nat):decA acc (b::l)=decA (acc*10+(b.toNat - 48)) l:=by simp only[decA,List.foldl_cons]
theorem zed:∀(l:List UInt8)(b:UInt8)(acc:Nat),decA acc (l++ [b])=decA acc l*10+(b.toNat - 48)
 | [],b,acc=>rfl
 |a::l,b,acc=>by simp only[List.cons_append,zfy];exact zed l b _
theorem zcp {P:Program}{w w':World}{n:String}{cs:Array Value}(h:Below w.heap.size w w')(hv:w.var? P n=some cs):w'.var? P n=some cs:=by
 unfold World.var? at hv ⊢;cases hg:P.globalNamed n with
 |none=>rw[hg]at hv;cases hv
 |some g=>
  rw[hg]at hv;simp only[Option.bind_some]at hv ⊢;have Hr:g < w.heap.size:=by
   rcases Nat.lt_or_ge g w.heap.size with Hr|Fb
   ·exact Hr
   ·rw[Array.getElem?_eq_none Fb]at hv;cases hv
  rw[h.block g Hr];exact hv
theorem zbT {B:Nat}{a w:World}(h:Below B a w){g:Nat}(hg:B<=g)(cs:Array Value):Below B a (w.setRow g cs):=
 ⟨h.os,h.tape,h.output,by rw[setRow_size];exact h.size,λi hi=>(setRow_other _ _ i _ (by omega)).trans (h.block i hi)⟩
