/-
  A region that draws its order, whose last operations wait for all others, and may write what the others read: walked in one order. No program.
-/
import Derived.Test.YtmopichdofgndaaGreatDoorJnRw
import Derived.OrdersHeld
import Derived.StillTail
import Derived.RegionTactic
import Derived.Deep.RegionHeld
set_option linter.unusedVariables false
set_option linter.unusedSimpArgs false
namespace Go.Proofs.YtmopichdofgndaaGreatDoor
open Go.RowKit

section
variable {P:Program} {Q:Exit→Act→World→Prop} {md:Region.Mode} {S:World→Prop} {n:Nat}
def wpF (P:Program) (md:Region.Mode) (ops:Array Oper) (Q:Exit→Act→World→Prop) (S:World→Prop) (n:Nat):Nat→Array Bool→Act→World→Prop
 |0,listed,a,w=>Region.ready md ops listed= []∧Q .normal a w
 |f+1,listed,a,w=>(Region.ready md ops listed= []→Q .normal a w)∧
   ∀i∈Region.ready md ops listed,wpOp P ops Q i (fun a' w'=>(i < n→S w')∧wpF P md ops Q S n f (listed.setIfInBounds i true) a' w') a w
theorem wpF.any {ops:Array Oper}:∀(f:Nat) (listed:Array Bool) (a:Act) (w:World),wpF P md ops Q S n f listed a w→wpAny P md ops Q f listed a w
 |0,_,_,_,h=>h
 |f+1,_,_,_,h=>⟨h.1,fun i hi=>wpOp_mono (fun a' w' h'=>wpF.any f _ a' w' h'.2) (h.2 i hi)⟩
def lastB (md:Region.Mode) (ops:Array Oper) (n i:Nat):Bool:=(List.range ops.size).all fun j=>decide (j < n) || j==i || Region.waitsFor md ops j i
theorem lastB_spec {ops:Array Oper} {i j:Nat} {oj:Oper} (h:lastB md ops n i=true) (hj:ops[j]?=some oj) (hne:j≠i) (hno:∀e∈oj.after,Region.binds md e=true→e.on≠i):j < n:=by
 have h1:=List.all_eq_true.1 h j (List.mem_range.2 (Array.getElem?_eq_some_iff.1 hj).1)
 simp only[Bool.or_eq_true,decide_eq_true_eq,beq_iff_eq]at h1
 rcases h1 with(h1|h1)|h1
 ·exact h1
 ·exact absurd h1 hne
 ·obtain⟨oj',hoj,e,he,hb,hon⟩:=Region.waitsFor_spec h1
  rw[hj]at hoj
  cases hoj
  exact absurd hon (hno e he hb)
theorem wpF_first {ops:Array Oper} {i:Nat} {oi:Oper} {v:Value} (hi:ops[i]?=some oi) (hs:Region.noSelect ops=true) (hQ:∀c a w,Q (.panic c) (a.put oi.dst v) w→Q (.panic c) a w) (hl:lastB md ops n i=true):
  ∀(f:Nat) (listed:Array Bool) (a:Act) (w:World),(∀j oj,ops[j]?=some oj→j≠i→listed.getD j true=false→(∀e∈oj.after,Region.binds md e=true→e.on≠i)→oi.apart ops oj=true)→
   i∈Region.ready md ops listed→YieldsIf P ops S oi v a→S w→wpF P md ops Q S n f (listed.setIfInBounds i true) (a.put oi.dst v) w→wpF P md ops Q S n (f+1) listed a w:=by
 intro f
 induction f with
 |zero=>
  intro listed a w hfree hr hy hS H
  refine⟨fun h=>by rw[h]at hr;simp at hr,fun j hj=>?_⟩
  by_cases hji:j=i
  ·subst hji
   exact hy.wpOp hi hS ⟨fun _=>hS,H⟩
  ·have h1:=ready_mono hj hji
   rw[H.1]at h1
   simp at h1
 |succ f ih=>
  intro listed a w hfree hr hy hS H
  refine⟨fun h=>by rw[h]at hr;simp at hr,fun j hj=>?_⟩
  by_cases hji:j=i
  ·subst hji
   exact hy.wpOp hi hS ⟨fun _=>hS,H⟩
  ·have h1:=H.2 j (ready_mono hj hji)
   obtain⟨hun,oj,hoj,hall⟩:=mem_ready.1 hj
   have hno:∀e∈oj.after,Region.binds md e=true→e.on≠i:=fun e he hb heq=>by
    have g1:=hall e he hb
    have g0:=(mem_ready.1 hr).1
    rw[heq]at g1
    rcases Nat.lt_or_ge i listed.size with h'|h'
    ·simp[h']at g0 g1;rw[g0]at g1;simp at g1
    ·simp[Array.getElem?_eq_none h']at g1
   have hjn:=lastB_spec hl hoj hji hno
   have hsel:=Region.noSelect_spec hs
   have h2:=wpOp_putIf hoj (hfree j oj hoj hji hun hno) (fun cs b=>hsel i oi cs b hi) (fun cs b=>hsel j oj cs b hoj) hQ hy h1
   refine wpOp_mono (fun a' w' h3=>⟨h3.2.1,ih (listed.setIfInBounds j true) a' w' (fun k ok hk hki hku hkn=>?_) (ready_mono hr (Ne.symm hji)) h3.1 (h3.2.1 hjn) ?_⟩) h2
   ·refine hfree k ok hk hki ?_ hkn
    by_cases hjk:j=k
    ·subst hjk;exact hun
    ·rwa [getD_set_ne true hjk]at hku
   ·rw[Array.setIfInBounds_comm _ _ hji]
    exact h3.2.2
theorem at_drop {α:Type} {l:List α} {i:Nat} {x:α} {r:List α} (h:l.drop i=x::r):l.toArray[i]?=some x:=by
 have:=congrArg List.head? h
 simpa using this
theorem wpF_take {l:List Oper} (i:Nat) {oi:Oper} {r:List Oper} {v:Value} {f:Nat} {listed:Array Bool} {a:Act} {w:World} (hi:l.drop i=oi::r) (hs:Region.noSelect l.toArray=true) (hf:Region.free md l.toArray listed i=true) (hr:(Region.ready md l.toArray listed).contains i=true) (hl:lastB md l.toArray n i=true)
  (hQ:∀c a w,Q (.panic c) (a.put oi.dst v) w→Q (.panic c) a w) (hS:S w) (hw:Region.wanted oi (yielded l.toArray a.tmps)=true) (hy:∀w,S w→(execOp a.eval oi).run P w= .ok (.value v) w)
  (h:wpF P md l.toArray Q S n f (listed.setIfInBounds i true) (a.put oi.dst v) w):wpF P md l.toArray Q S n (f+1) listed a w:=
 wpF_first (at_drop hi) hs hQ hl f listed a w (Region.free_spec (at_drop hi) hf) (by simpa using hr) (.inl ⟨hw,hy⟩) hS h
theorem wpF_next {l:List Oper} (i:Nat) {oi:Oper} {r:List Oper} {f:Nat} {listed:Array Bool} {a:Act} {w:World} (hi:l.drop i=oi::r) (hr:Region.ready md l.toArray listed= [i])
  (h:∀K':Act→World→Prop,Shut (∀a w,S w→wpF P md l.toArray Q S n f (listed.setIfInBounds i true) a w→K' a w)→if Region.wanted oi (yielded l.toArray a.tmps)=true then Oper.wp P oi a w K' Q else K' (a.put oi.dst undef) w):wpF P md l.toArray Q S n (f+1) listed a w:=by
 refine⟨fun h0=>by rw[hr]at h0;simp at h0,fun j hj=>?_⟩
 rw[hr]at hj
 have hj:j=i:=by simpa using hj
 subst hj
 exact wpOp_step (at_drop hi) fun K' hK=>h K' fun a w hS hW=>hK a w ⟨fun _=>hS,hW⟩
theorem wpF_last {l:List Oper} (i:Nat) {oi:Oper} {r:List Oper} {f:Nat} {listed:Array Bool} {a:Act} {w:World} (hi:l.drop i=oi::r) (hr:Region.ready md l.toArray listed= [i]) (hn:n≤i)
  (h:∀K':Act→World→Prop,Shut (∀a w,wpF P md l.toArray Q S n f (listed.setIfInBounds i true) a w→K' a w)→if Region.wanted oi (yielded l.toArray a.tmps)=true then Oper.wp P oi a w K' Q else K' (a.put oi.dst undef) w):wpF P md l.toArray Q S n (f+1) listed a w:=by
 refine⟨fun h0=>by rw[hr]at h0;simp at h0,fun j hj=>?_⟩
 rw[hr]at hj
 have hj:j=i:=by simpa using hj
 subst hj
 exact wpOp_step (at_drop hi) fun K' hK=>h K' fun a w hW=>hK a w ⟨fun hlt=>absurd hlt (by omega),hW⟩
theorem wpF_done {ops:Array Oper} {f:Nat} {listed:Array Bool} {a:Act} {w:World} (hr:Region.ready md ops listed= []) (h:Q .normal a w):wpF P md ops Q S n f listed a w:=by
 cases f with
 |zero=>exact⟨hr,h⟩
 |succ f=>exact⟨fun _=>h,fun i hi=>by rw[hr]at hi;simp at hi⟩
theorem wp_region_F {id:Nat} {l:List Oper} {a:Act} {w:World} (S:World→Prop) (n:Nat) (hm:P.follows .mixedOrders =true) (hS:S w.drew) (h:S w.drew→wpF P .any l.toArray Q S n l.length (Array.replicate l.length false) a w.drew):(Code.region id l.toArray true).wp P Q a w:=
 wp_region_any hm (by
  have:=wpF.any _ _ _ _ (h hS)
  simpa using this)
end
end Go.Proofs.YtmopichdofgndaaGreatDoor
