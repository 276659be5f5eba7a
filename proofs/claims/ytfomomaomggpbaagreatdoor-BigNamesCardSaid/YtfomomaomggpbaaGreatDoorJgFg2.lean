/-
  A region that draws its order, some of whose operations are late: walked in one order. No program.
-/
import Derived.Test.YtfomomaomggpbaaGreatDoorJgCk3
import Derived.OrdersHeld
import Derived.StillTail
import Derived.RegionTactic
import Derived.Deep.RegionHeld
set_option linter.unusedVariables false
set_option linter.unusedSimpArgs false
namespace Go.Proofs.YtfomomaomggpbaaGreatDoor
open Go.RowKit

section
variable {P:Program} {Q:Exit→Act→World→Prop} {md:Region.Mode} {S:World→Prop} {n:Nat→Bool}
def wpE (P:Program) (md:Region.Mode) (ops:Array Oper) (Q:Exit→Act→World→Prop) (S:World→Prop) (n:Nat→Bool):Nat→Array Bool→Act→World→Prop
 |0,listed,a,w=>Region.ready md ops listed= []∧Q .normal a w
 |f+1,listed,a,w=>(Region.ready md ops listed= []→Q .normal a w)∧
   ∀i∈Region.ready md ops listed,wpOp P ops Q i (fun a' w'=>(n i=true→S w→S w')∧wpE P md ops Q S n f (listed.setIfInBounds i true) a' w') a w
theorem wpE.any {ops:Array Oper}:∀(f:Nat) (listed:Array Bool) (a:Act) (w:World),wpE P md ops Q S n f listed a w→wpAny P md ops Q f listed a w
 |0,_,_,_,h=>h
 |f+1,_,_,_,h=>⟨h.1,fun i hi=>wpOp_mono (fun a' w' h'=>wpE.any f _ a' w' h'.2) (h.2 i hi)⟩
def ClosedL (md:Region.Mode) (ops:Array Oper) (listed:Array Bool):Prop:=∀k ok,ops[k]?=some ok→listed.getD k false=true→∀e∈ok.after,Region.binds md e=true→listed.getD e.on false=true
def closedB (md:Region.Mode) (ops:Array Oper) (listed:Array Bool):Bool:=(List.range ops.size).all fun k=> !listed.getD k false || ((ops[k]?).map (·.after.all fun e=> !Region.binds md e || listed.getD e.on false)).getD true
theorem closedB_spec {ops:Array Oper} {listed:Array Bool} (h:closedB md ops listed=true):ClosedL md ops listed:=fun k ok hk hl e he hb=>by
 have h1:=List.all_eq_true.1 h k (List.mem_range.2 (Array.getElem?_eq_some_iff.1 hk).1)
 rw[hk,hl]at h1
 simp only[Bool.not_true,Bool.false_or,Option.map_some,Option.getD_some,Array.all_eq_true_iff_forall_mem]at h1
 have h2:=h1 e he
 simpa[hb]using h2
def lastE (md:Region.Mode) (ops:Array Oper) (n:Nat→Bool) (i:Nat):Bool:=(List.range ops.size).all fun j=>n j || j==i || Region.waitsFor md ops j i || (List.range ops.size).any fun k=>Region.waitsFor md ops j k&&Region.waitsFor md ops k i
theorem lastE_spec {ops:Array Oper} {i j:Nat} {listed:Array Bool} (h:lastE md ops n i=true) (hc:ClosedL md ops listed) (hi:listed.getD i true=false) (hj:j∈Region.ready md ops listed) (hne:j≠i):n j=true:=by
 obtain⟨_,oj,hoj,hall⟩:=mem_ready.1 hj
 have hi':listed.getD i false≠true:=fun e=>by
  rcases Nat.lt_or_ge i listed.size with h'|h'
  ·simp[h']at hi e;rw[hi]at e;simp at e
  ·simp[Array.getElem?_eq_none h']at hi
 have h1:=List.all_eq_true.1 h j (List.mem_range.2 (Array.getElem?_eq_some_iff.1 hoj).1)
 simp only[Bool.or_eq_true,beq_iff_eq]at h1
 rcases h1 with((h1|h1)|h1)|h1
 ·exact h1
 ·exact absurd h1 hne
 ·obtain⟨oj',hoj',e,he,hb,hon⟩:=Region.waitsFor_spec h1
  rw[hoj]at hoj'
  cases hoj'
  exact absurd (hon▸hall e he hb) hi'
 ·obtain⟨k,_,hk⟩:=List.any_eq_true.1 h1
  simp only[Bool.and_eq_true]at hk
  obtain⟨oj',hoj',e,he,hb,hon⟩:=Region.waitsFor_spec hk.1
  rw[hoj]at hoj'
  cases hoj'
  have hkl:=hall e he hb
  rw[hon]at hkl
  obtain⟨ok,hok,e2,he2,hb2,hon2⟩:=Region.waitsFor_spec hk.2
  exact absurd (hon2▸hc k ok hok hkl e2 he2 hb2) hi'
theorem ClosedL.set {ops:Array Oper} {listed:Array Bool} {j:Nat} (hc:ClosedL md ops listed) (hj:j∈Region.ready md ops listed):ClosedL md ops (listed.setIfInBounds j true):=fun k ok hk hl e he hb=>by
 obtain⟨_,oj,hoj,hall⟩:=mem_ready.1 hj
 by_cases hkj:k=j
 ·subst hkj
  rw[hk]at hoj
  cases hoj
  exact getD_set_true (hall e he hb)
 ·rw[getD_set_ne false (Ne.symm hkj)]at hl
  exact getD_set_true (hc k ok hk hl e he hb)
theorem wpE_first {ops:Array Oper} {i:Nat} {oi:Oper} {v:Value} (hi:ops[i]?=some oi) (hs:Region.noSelect ops=true) (hQ:∀c a w,Q (.panic c) (a.put oi.dst v) w→Q (.panic c) a w) (hl:lastE md ops n i=true):
  ∀(f:Nat) (listed:Array Bool) (a:Act) (w:World),ClosedL md ops listed→(∀j oj,ops[j]?=some oj→j≠i→listed.getD j true=false→(∀e∈oj.after,Region.binds md e=true→e.on≠i)→oi.apart ops oj=true)→
   i∈Region.ready md ops listed→YieldsIf P ops S oi v a→S w→wpE P md ops Q S n f (listed.setIfInBounds i true) (a.put oi.dst v) w→wpE P md ops Q S n (f+1) listed a w:=by
 intro f
 induction f with
 |zero=>
  intro listed a w hcl hfree hr hy hS H
  refine⟨fun h=>by rw[h]at hr;simp at hr,fun j hj=>?_⟩
  by_cases hji:j=i
  ·subst hji
   exact hy.wpOp hi hS ⟨fun _ h=>h,H⟩
  ·have h1:=ready_mono hj hji
   rw[H.1]at h1
   simp at h1
 |succ f ih=>
  intro listed a w hcl hfree hr hy hS H
  refine⟨fun h=>by rw[h]at hr;simp at hr,fun j hj=>?_⟩
  by_cases hji:j=i
  ·subst hji
   exact hy.wpOp hi hS ⟨fun _ h=>h,H⟩
  ·have h1:=H.2 j (ready_mono hj hji)
   obtain⟨hun,oj,hoj,hall⟩:=mem_ready.1 hj
   have hno:∀e∈oj.after,Region.binds md e=true→e.on≠i:=fun e he hb heq=>by
    have g1:=hall e he hb
    have g0:=(mem_ready.1 hr).1
    rw[heq]at g1
    rcases Nat.lt_or_ge i listed.size with h'|h'
    ·simp[h']at g0 g1;rw[g0]at g1;simp at g1
    ·simp[Array.getElem?_eq_none h']at g1
   have hjn:=lastE_spec hl hcl (mem_ready.1 hr).1 hj hji
   have hsel:=Region.noSelect_spec hs
   have h2:=wpOp_putIf hoj (hfree j oj hoj hji hun hno) (fun cs b=>hsel i oi cs b hi) (fun cs b=>hsel j oj cs b hoj) hQ hy h1
   refine wpOp_mono (fun a' w' h3=>⟨h3.2.1,ih (listed.setIfInBounds j true) a' w' (hcl.set hj) (fun k ok hk hki hku hkn=>?_) (ready_mono hr (Ne.symm hji)) h3.1 (h3.2.1 hjn hS) ?_⟩) h2
   ·refine hfree k ok hk hki ?_ hkn
    by_cases hjk:j=k
    ·subst hjk;exact hun
    ·rwa [getD_set_ne true hjk]at hku
   ·rw[Array.setIfInBounds_comm _ _ hji]
    exact h3.2.2
theorem at_dropE {α:Type} {l:List α} {i:Nat} {x:α} {r:List α} (h:l.drop i=x::r):l.toArray[i]?=some x:=by
 have:=congrArg List.head? h
 simpa using this
theorem wpE_take {l:List Oper} (i:Nat) {oi:Oper} {r:List Oper} {v:Value} {f:Nat} {listed:Array Bool} {a:Act} {w:World} (hi:l.drop i=oi::r) (hs:(Region.noSelect l.toArray&&Region.free md l.toArray listed i&&(Region.ready md l.toArray listed).contains i&&lastE md l.toArray n i&&closedB md l.toArray listed)=true)
  (hQ:∀c a w,Q (.panic c) (a.put oi.dst v) w→Q (.panic c) a w) (hS:S w) (hw:Region.wanted oi (yielded l.toArray a.tmps)=true) (hy:∀w,S w→(execOp a.eval oi).run P w= .ok (.value v) w)
  (h:wpE P md l.toArray Q S n f (listed.setIfInBounds i true) (a.put oi.dst v) w):wpE P md l.toArray Q S n (f+1) listed a w:=by
 simp only[Bool.and_eq_true]at hs
 exact wpE_first (at_dropE hi) hs.1.1.1.1 hQ hs.1.2 f listed a w (closedB_spec hs.2) (Region.free_spec (at_dropE hi) hs.1.1.1.2) (by simpa using hs.1.1.2) (.inl ⟨hw,hy⟩) hS h
theorem wpE_pure1 {ops:Array Oper} {i:Nat} {oi:Oper} {v:Value} (hi:ops[i]?=some oi) (hs:Region.noSelect ops=true) (hQ:∀c a w,Q (.panic c) (a.put oi.dst v) w→Q (.panic c) a w):
  ∀(f:Nat) (listed:Array Bool) (a:Act) (w:World),(∀j oj,ops[j]?=some oj→j≠i→listed.getD j true=false→(∀e∈oj.after,Region.binds md e=true→e.on≠i)→oi.apart ops oj=true)→
   i∈Region.ready md ops listed→YieldsIf P ops (fun _=>True) oi v a→wpE P md ops Q S n f (listed.setIfInBounds i true) (a.put oi.dst v) w→wpE P md ops Q S n (f+1) listed a w:=by
 intro f
 induction f with
 |zero=>
  intro listed a w hfree hr hy H
  refine⟨fun h=>by rw[h]at hr;simp at hr,fun j hj=>?_⟩
  by_cases hji:j=i
  ·subst hji
   exact hy.wpOp hi trivial ⟨fun _ h=>h,H⟩
  ·have h1:=ready_mono hj hji
   rw[H.1]at h1
   simp at h1
 |succ f ih=>
  intro listed a w hfree hr hy H
  refine⟨fun h=>by rw[h]at hr;simp at hr,fun j hj=>?_⟩
  by_cases hji:j=i
  ·subst hji
   exact hy.wpOp hi trivial ⟨fun _ h=>h,H⟩
  ·have h1:=H.2 j (ready_mono hj hji)
   obtain⟨hun,oj,hoj,hall⟩:=mem_ready.1 hj
   have hno:∀e∈oj.after,Region.binds md e=true→e.on≠i:=fun e he hb heq=>by
    have g1:=hall e he hb
    have g0:=(mem_ready.1 hr).1
    rw[heq]at g1
    rcases Nat.lt_or_ge i listed.size with h'|h'
    ·simp[h']at g0 g1;rw[g0]at g1;simp at g1
    ·simp[Array.getElem?_eq_none h']at g1
   have hsel:=Region.noSelect_spec hs
   have h2:=wpOp_putIf hoj (hfree j oj hoj hji hun hno) (fun cs b=>hsel i oi cs b hi) (fun cs b=>hsel j oj cs b hoj) hQ hy h1
   refine wpOp_mono (fun a' w' h3=>⟨h3.2.1,ih (listed.setIfInBounds j true) a' w' (fun k ok hk hki hku hkn=>?_) (ready_mono hr (Ne.symm hji)) h3.1 ?_⟩) h2
   ·refine hfree k ok hk hki ?_ hkn
    by_cases hjk:j=k
    ·subst hjk;exact hun
    ·rwa [getD_set_ne true hjk]at hku
   ·rw[Array.setIfInBounds_comm _ _ hji]
    exact h3.2.2
theorem wpE_pure {l:List Oper} (i:Nat) {oi:Oper} {r:List Oper} {v:Value} {f:Nat} {listed:Array Bool} {a:Act} {w:World} (hi:l.drop i=oi::r) (hs:(Region.noSelect l.toArray&&Region.free md l.toArray listed i&&(Region.ready md l.toArray listed).contains i)=true)
  (hQ:∀c a w,Q (.panic c) (a.put oi.dst v) w→Q (.panic c) a w) (hw:Region.wanted oi (yielded l.toArray a.tmps)=true) (hy:∀w,(execOp a.eval oi).run P w= .ok (.value v) w)
  (h:wpE P md l.toArray Q S n f (listed.setIfInBounds i true) (a.put oi.dst v) w):wpE P md l.toArray Q S n (f+1) listed a w:=by
 simp only[Bool.and_eq_true]at hs
 exact wpE_pure1 (at_dropE hi) hs.1.1 hQ f listed a w (Region.free_spec (at_dropE hi) hs.1.2) (by simpa using hs.2) (.inl ⟨hw,fun w _=>hy w⟩) h
theorem wpE_next {l:List Oper} (i:Nat) {oi:Oper} {r:List Oper} {f:Nat} {listed:Array Bool} {a:Act} {w:World} (hi:l.drop i=oi::r) (hr:Region.ready md l.toArray listed= [i])
  (h:∀K':Act→World→Prop,Shut (∀a w',(n i=true→S w→S w')→wpE P md l.toArray Q S n f (listed.setIfInBounds i true) a w'→K' a w')→if Region.wanted oi (yielded l.toArray a.tmps)=true then Oper.wp P oi a w K' Q else K' (a.put oi.dst undef) w):wpE P md l.toArray Q S n (f+1) listed a w:=by
 refine⟨fun h0=>by rw[hr]at h0;simp at h0,fun j hj=>?_⟩
 rw[hr]at hj
 have hj:j=i:=by simpa using hj
 subst hj
 exact wpOp_step (at_dropE hi) fun K' hK=>h K' fun a w hS hW=>hK a w ⟨hS,hW⟩
theorem wpE_done {ops:Array Oper} {f:Nat} {listed:Array Bool} {a:Act} {w:World} (hr:Region.ready md ops listed= []) (h:Q .normal a w):wpE P md ops Q S n f listed a w:=by
 cases f with
 |zero=>exact⟨hr,h⟩
 |succ f=>exact⟨fun _=>h,fun i hi=>by rw[hr]at hi;simp at hi⟩
theorem wp_region_E {id:Nat} {l:List Oper} {a:Act} {w:World} (S:World→Prop) (n:Nat→Bool) (hm:P.follows .mixedOrders =true) (hS:S w.drew) (h:S w.drew→wpE P .any l.toArray Q S n l.length (Array.replicate l.length false) a w.drew):(Code.region id l.toArray true).wp P Q a w:=
 wp_region_any hm (by
  have:=wpE.any _ _ _ _ (h hS)
  simpa using this)
end
theorem wpE_tk {P:Program} {Q:Exit→Act→World→Prop} {md:Region.Mode} {S:World→Prop} {n:Nat→Bool} {l:List Oper} (i:Nat) {oi:Oper} {r:List Oper} {v:Value} {f:Nat} {listed:Array Bool} {a:Act} {w:World} (hS:S w)
  (h:wpE P md l.toArray Q S n f (listed.setIfInBounds i true) (a.put oi.dst v) w) (hi:l.drop i=oi::r:=by rfl) (hs:(Region.noSelect l.toArray&&Region.free md l.toArray listed i&&(Region.ready md l.toArray listed).contains i&&lastE md l.toArray n i&&closedB md l.toArray listed)=true:=by kernel_rfl)
  (hQ:∀c a w,Q (.panic c) (a.put oi.dst v) w→Q (.panic c) a w:=by exact fun _ _ _ h=>h) (hw:Region.wanted oi (yielded l.toArray a.tmps)=true:=by rfl) (hy:∀w,S w→(execOp a.eval oi).run P w= .ok (.value v) w:=by(intro wz hSz;(try dsimp only at hSz);go_simp;try with_reducible rfl)):wpE P md l.toArray Q S n (f+1) listed a w:=wpE_take i hi hs hQ hS hw hy h
theorem wpE_tv {P:Program} {Q:Exit→Act→World→Prop} {md:Region.Mode} {S:World→Prop} {n:Nat→Bool} {l:List Oper} (i:Nat) {oi:Oper} {r:List Oper} {v:Value} {f:Nat} {listed:Array Bool} {a:Act} {w:World} (hS:S w)
  (h:wpE P md l.toArray Q S n f (listed.setIfInBounds i true) (a.put oi.dst v) w) (hi:l.drop i=oi::r:=by rfl) (hs:(Region.noSelect l.toArray&&Region.free md l.toArray listed i&&(Region.ready md l.toArray listed).contains i&&lastE md l.toArray n i&&closedB md l.toArray listed)=true:=by kernel_rfl)
  (hQ:∀c a w,Q (.panic c) (a.put oi.dst v) w→Q (.panic c) a w:=by exact fun _ _ _ h=>h) (hw:Region.wanted oi (yielded l.toArray a.tmps)=true:=by rfl) (hy:∀w,S w→(execOp a.eval oi).run P w= .ok (.value v) w:=by(intro wz hSz;(try conv at hSz=>whnf);go_simp;try with_reducible rfl)):wpE P md l.toArray Q S n (f+1) listed a w:=wpE_take i hi hs hQ hS hw hy h
theorem wpE_pu {P:Program} {Q:Exit→Act→World→Prop} {md:Region.Mode} {S:World→Prop} {n:Nat→Bool} {l:List Oper} (i:Nat) {oi:Oper} {r:List Oper} {v:Value} {f:Nat} {listed:Array Bool} {a:Act} {w:World} (h:wpE P md l.toArray Q S n f (listed.setIfInBounds i true) (a.put oi.dst v) w) (hi:l.drop i=oi::r:=by rfl) (hs:(Region.noSelect l.toArray&&Region.free md l.toArray listed i&&(Region.ready md l.toArray listed).contains i)=true:=by kernel_rfl)
  (hQ:∀c a w,Q (.panic c) (a.put oi.dst v) w→Q (.panic c) a w:=by exact fun _ _ _ h=>h) (hw:Region.wanted oi (yielded l.toArray a.tmps)=true:=by rfl) (hy:∀w,(execOp a.eval oi).run P w= .ok (.value v) w:=by(intro wz;go_simp;try with_reducible rfl)):wpE P md l.toArray Q S n (f+1) listed a w:=wpE_pure i hi hs hQ hw hy h
end Go.Proofs.YtfomomaomggpbaaGreatDoor

namespace Go.Proofs.YtfomomaomggpbaaGreatDoor
open Go.RowKit

section
variable {P:Program} {Q:Exit→Act→World→Prop} {md:Region.Mode} {S:World→Prop} {n:Nat→Bool} {ops:Array Oper}
def waitsN (md:Region.Mode) (ops:Array Oper):Nat→Nat→Nat→Bool
 |0,j,i=>Region.waitsFor md ops j i
 |f+1,j,i=>Region.waitsFor md ops j i || (List.range ops.size).any fun k=>Region.waitsFor md ops j k&&waitsN md ops f k i
theorem waitsN_spec {listed:Array Bool} (hc:ClosedL md ops listed):∀(f j i:Nat) (oj:Oper),ops[j]?=some oj→(∀e∈oj.after,Region.binds md e=true→listed.getD e.on false=true)→waitsN md ops f j i=true→listed.getD i false=true:=by
 have h0:∀(j i:Nat) (oj:Oper),ops[j]?=some oj→(∀e∈oj.after,Region.binds md e=true→listed.getD e.on false=true)→Region.waitsFor md ops j i=true→listed.getD i false=true:=fun j i oj hoj hall h=>by
  obtain⟨oj',hoj',e,he,hb,hon⟩:=Region.waitsFor_spec h
  rw[hoj]at hoj'
  cases hoj'
  exact hon▸hall e he hb
 intro f
 induction f with
 |zero=>exact h0
 |succ f ih=>
  intro j i oj hoj hall h
  simp only[waitsN,Bool.or_eq_true,List.any_eq_true,Bool.and_eq_true]at h
  rcases h with h|⟨k,_,hjk,hki⟩
  ·exact h0 j i oj hoj hall h
  ·have hk:=h0 j k oj hoj hall hjk
   cases hok:ops[k]? with
   |none=>
    exfalso
    cases f with
    |zero=>simp[waitsN,Region.waitsFor,hok]at hki
    |succ f=>
     have:∀x,Region.waitsFor md ops k x=false:=fun x=>by simp[Region.waitsFor,hok]
     simp[waitsN,this]at hki
   |some ok=>exact ih k i ok hok (fun e he hb=>hc k ok hok hk e he hb) hki
def lastN (md:Region.Mode) (ops:Array Oper) (n:Nat→Bool) (i:Nat):Bool:=(List.range ops.size).all fun j=>n j || j==i || waitsN md ops 5 j i
theorem lastN_spec {i j:Nat} {listed:Array Bool} (h:lastN md ops n i=true) (hc:ClosedL md ops listed) (hi:listed.getD i true=false) (hj:j∈Region.ready md ops listed) (hne:j≠i):n j=true:=by
 obtain⟨_,oj,hoj,hall⟩:=mem_ready.1 hj
 have hi':listed.getD i false≠true:=fun e=>by
  rcases Nat.lt_or_ge i listed.size with h'|h'
  ·simp[h']at hi e;rw[hi]at e;simp at e
  ·simp[Array.getElem?_eq_none h']at hi
 have h1:=List.all_eq_true.1 h j (List.mem_range.2 (Array.getElem?_eq_some_iff.1 hoj).1)
 simp only[Bool.or_eq_true,beq_iff_eq]at h1
 rcases h1 with(h1|h1)|h1
 ·exact h1
 ·exact absurd h1 hne
 ·exact absurd (waitsN_spec hc 5 j i oj hoj hall h1) hi'
theorem wpE_firstN {i:Nat} {oi:Oper} {v:Value} (hi:ops[i]?=some oi) (hs:Region.noSelect ops=true) (hQ:∀c a w,Q (.panic c) (a.put oi.dst v) w→Q (.panic c) a w) (hl:lastN md ops n i=true):
  ∀(f:Nat) (listed:Array Bool) (a:Act) (w:World),ClosedL md ops listed→(∀j oj,ops[j]?=some oj→j≠i→listed.getD j true=false→(∀e∈oj.after,Region.binds md e=true→e.on≠i)→oi.apart ops oj=true)→
   i∈Region.ready md ops listed→YieldsIf P ops S oi v a→S w→wpE P md ops Q S n f (listed.setIfInBounds i true) (a.put oi.dst v) w→wpE P md ops Q S n (f+1) listed a w:=by
 intro f
 induction f with
 |zero=>
  intro listed a w hcl hfree hr hy hS H
  refine⟨fun h=>by rw[h]at hr;simp at hr,fun j hj=>?_⟩
  by_cases hji:j=i
  ·subst hji
   exact hy.wpOp hi hS ⟨fun _ h=>h,H⟩
  ·have h1:=ready_mono hj hji
   rw[H.1]at h1
   simp at h1
 |succ f ih=>
  intro listed a w hcl hfree hr hy hS H
  refine⟨fun h=>by rw[h]at hr;simp at hr,fun j hj=>?_⟩
  by_cases hji:j=i
  ·subst hji
   exact hy.wpOp hi hS ⟨fun _ h=>h,H⟩
  ·have h1:=H.2 j (ready_mono hj hji)
   obtain⟨hun,oj,hoj,hall⟩:=mem_ready.1 hj
   have hno:∀e∈oj.after,Region.binds md e=true→e.on≠i:=fun e he hb heq=>by
    have g1:=hall e he hb
    have g0:=(mem_ready.1 hr).1
    rw[heq]at g1
    rcases Nat.lt_or_ge i listed.size with h'|h'
    ·simp[h']at g0 g1;rw[g0]at g1;simp at g1
    ·simp[Array.getElem?_eq_none h']at g1
   have hjn:=lastN_spec hl hcl (mem_ready.1 hr).1 hj hji
   have hsel:=Region.noSelect_spec hs
   have h2:=wpOp_putIf hoj (hfree j oj hoj hji hun hno) (fun cs b=>hsel i oi cs b hi) (fun cs b=>hsel j oj cs b hoj) hQ hy h1
   refine wpOp_mono (fun a' w' h3=>⟨h3.2.1,ih (listed.setIfInBounds j true) a' w' (hcl.set hj) (fun k ok hk hki hku hkn=>?_) (ready_mono hr (Ne.symm hji)) h3.1 (h3.2.1 hjn hS) ?_⟩) h2
   ·refine hfree k ok hk hki ?_ hkn
    by_cases hjk:j=k
    ·subst hjk;exact hun
    ·rwa [getD_set_ne true hjk]at hku
   ·rw[Array.setIfInBounds_comm _ _ hji]
    exact h3.2.2
theorem wpE_takeN {l:List Oper} (i:Nat) {oi:Oper} {r:List Oper} {v:Value} {f:Nat} {listed:Array Bool} {a:Act} {w:World} (hi:l.drop i=oi::r) (hs:(Region.noSelect l.toArray&&Region.free md l.toArray listed i&&(Region.ready md l.toArray listed).contains i&&lastN md l.toArray n i&&closedB md l.toArray listed)=true)
  (hQ:∀c a w,Q (.panic c) (a.put oi.dst v) w→Q (.panic c) a w) (hS:S w) (hw:Region.wanted oi (yielded l.toArray a.tmps)=true) (hy:∀w,S w→(execOp a.eval oi).run P w= .ok (.value v) w)
  (h:wpE P md l.toArray Q S n f (listed.setIfInBounds i true) (a.put oi.dst v) w):wpE P md l.toArray Q S n (f+1) listed a w:=by
 simp only[Bool.and_eq_true]at hs
 exact wpE_firstN (at_dropE hi) hs.1.1.1.1 hQ hs.1.2 f listed a w (closedB_spec hs.2) (Region.free_spec (at_dropE hi) hs.1.1.1.2) (by simpa using hs.1.1.2) (.inl ⟨hw,hy⟩) hS h
end
end Go.Proofs.YtfomomaomggpbaaGreatDoor
