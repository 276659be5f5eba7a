/-
  A region that draws, in the round of a loop over an iterator: walked as anywhere (RwSeqE). No program.
-/
import Derived.Test.YtphlnpaikpjakaaJnInC
import Derived.RangeFuncCalls
import Derived.OrdersIn
set_option linter.unusedVariables false
set_option linter.unusedSimpArgs false
namespace Go.Proofs.Ytphlnpaikpjakaa
open Go.RowKit

section
variable {P:Program} {Q:Exit→Act→World→Prop} {md:Region.Mode}
theorem oper_inRound {o:Oper} {a:Act} {w:World} {K K':Act→World→Prop} (l n:Nat) (hd:∀c,o.op≠ .defer c) (hK:∀a w,K a w→K' a w) (h:o.wp P a w K Q):o.wpIn (Fence.wide.inRound l) n P a w K' Q:=by
 refine⟨fun f _=>trivial,?_⟩
 show o.uponIn (Fence.wide.inRound l) n P a K' Q ((o.semAt (some l) a.eval).run P w)
 rw[Oper.semAt_some l _ _ hd]
 unfold Oper.wp at h
 revert h
 cases (execOp a.eval o).run P w with
 |ok v w'=>
  cases v with
  |value v=>exact fun h=>hK _ _ h
  |skip=>exact fun h=>hK _ _ h
  |defer d=>exact fun h=>hK _ _ h
  |enter f args=>
   intro h
   refine⟨fun h'=>(by cases h'),CallsIn.inRound l (callsIn_wide.2 (h.mono fun e w'' h2=>?_))⟩
   cases e with
   |returned v=>exact hK _ _ h2
   |panicked c=>exact h2
   |outgrown=>exact h2
  |row r args=>
   intro h
   refine⟨fun h'=>(by cases h'),fun c cs _=>?_⟩
   obtain⟨v,w'',hR,hs⟩:=h c cs
   exact⟨v,w'',hK _ _ hR,stepsIn_wide.2 hs⟩
  |_=>exact fun h=>h.elim
 |halt hh w'=>
  cases hh<;>first|exact fun h=>h|exact fun h=>h.elim
theorem wpAnyIn_of {ops:Array Oper} (l n:Nat) (hlet:¬LetsOut Q) (hd:∀(i:Nat) (o:Oper),ops[i]?=some o→∀c,o.op≠ .defer c):∀(f:Nat) (listed:Array Bool) (a:Act) (w:World),wpAny P md ops Q f listed a w→wpAnyIn (Fence.wide.inRound l) n P md ops Q f listed a w
 |0,_,_,_,h=>h
 |f+1,listed,a,w,h=>⟨h.1,fun i hi=>by
  have h2:=h.2 i hi
  unfold wpOp at h2
  unfold wpOpIn
  cases ho:ops[i]? with
  |none=>
   rw[ho]at h2
   exact wpAnyIn_of l n hlet hd f _ _ _ h2
  |some o=>
   rw[ho]at h2
   simp only at h2 ⊢
   split at h2
   ·rename_i hw
    rw[if_pos hw]
    rcases h2 with h2|h2
    ·exact oper_inRound l n (hd i o ho) (fun a w=>wpAnyIn_of l n hlet hd f _ a w) h2
    ·exact absurd h2.2 hlet
   ·rename_i hw
    rw[if_neg hw]
    exact⟨fun f _=>trivial,wpAnyIn_of l n hlet hd f _ _ _ h2⟩⟩
def noDefer (l:List Oper):Bool:=l.all fun o=>match o.op with| .defer _=>false|_=>true
theorem noDefer_spec {l:List Oper} (h:noDefer l=true):∀(i:Nat) (o:Oper),l.toArray[i]?=some o→∀c,o.op≠ .defer c:=fun i o ho c e=>by
 have hm:o∈l:=List.mem_of_getElem? (by simpa using ho)
 have:=List.all_eq_true.1 h o hm
 rw[e]at this
 cases this
theorem wpIn_region_E {id l0 m:Nat} {l:List Oper} {a:Act} {w:World} (S:World→Prop) (n:Nat→Bool) (hm:P.follows .mixedOrders =true) (hlet:¬LetsOut Q) (hd:noDefer l=true) (hS:S w.drew) (h:S w.drew→wpE P .any l.toArray Q S n l.length (Array.replicate l.length false) a w.drew):(Code.region id l.toArray true).wpIn (Fence.wide.inRound l0) m P Q a w:=
 wpIn_region_any hm (wpAnyIn_of l0 m hlet (noDefer_spec hd) _ _ _ _ (by
  have:=wpE.any _ _ _ _ (h hS)
  simpa using this))
end
end Go.Proofs.Ytphlnpaikpjakaa
