/-
  A region that draws its order, some of whose operations are late: walked in one order. No program.
-/
import Derived.OrdersHeld
import Derived.RegionTactic
import Derived.Deep.RegionHeld
import Derived.Test.YtmopichdofgndaaGreatDoorJnInE
set_option linter.unusedVariables false
set_option linter.unusedSimpArgs false
set_option maxHeartbeats 1600000
set_option maxRecDepth 100000
namespace Go.Proofs.YtmopichdofgndaaGreatDoor
open Go.RowKit

section
variable {P:Program} {Q:Exit→Act→World→Prop} {md:Region.Mode} {S:World→Prop} {n:Nat→Bool}
def wpE (P:Program) (md:Region.Mode) (ops:Array Oper) (Q:Exit→Act→World→Prop) (S:World→Prop) (n:Nat→Bool):Nat→Array Bool→Act→World→Prop
 |0,listed,a,w=>Region.ready md ops listed= []∧Q .normal a w
 |f+1,listed,a,w=>(Region.ready md ops listed= []→Q .normal a w)∧
   ∀i∈Region.ready md ops listed,wpOp P ops Q i (fun a' w'=>(n i=true→S w→S w')∧wpE P md ops Q S n f (listed.setIfInBounds i true) a' w') a w
theorem wpE.any {ops:Array Oper}:∀(f:Nat) (listed:Array Bool) (a:Act) (w:World),wpE P md ops Q S n f listed a w→wpAny P md ops Q f listed a w
 |0,_,_,_,h=>h
 |f+1,_,_,_,h=>⟨h.1,fun i hi=>wpOp_mono (fun a' w' h'=>wpE.any f _ a' w' h'.2) (h.2 i hi)⟩
def ClosedL (md:Region.Mode) (ops:Array Oper) (listed:Array Bool):Prop:=∀k ok,ops[k]?=some ok→listed.getD k false=true→∀e∈ok.after,Region.binds md e=true→listed.getD e.on false=true
def closedB (md:Region.Mode) (ops:Array Oper) (listed:Array Bool):Bool:=(List.range ops.size).all fun k=> !listed.getD k false || ((ops[k]?).map (·.after.all fun e=> !Region.binds md e || listed.getD e.on false)).getD true
theorem closedB_spec {ops:Array Oper} {listed:Array Bool} (h:closedB md ops listed=true):ClosedL md ops listed:=fun k ok hk hl e he hb=>by
 have h1:=List.all_eq_true.1 h k (List.mem_range.2 (Array.getElem?_eq_some_iff.1 hk).1)
 rw[hk,hl]at h1
 simp only[Bool.not_true,Bool.false_or,Option.map_some,Option.getD_some,Array.all_eq_true_iff_forall_mem]at h1
 have h2:=h1 e he
 simpa[hb]using h2
def lastE (md:Region.Mode) (ops:Array Oper) (n:Nat→Bool) (i:Nat):Bool:=(List.range ops.size).all fun j=>n j || j==i || Region.waitsFor md ops j i || (List.range ops.size).any fun k=>Region.waitsFor md ops j k&&Region.waitsFor md ops k i
theorem lastE_spec {ops:Array Oper} {i j:Nat} {listed:Array Bool} (h:lastE md ops n i=true) (hc:ClosedL md ops listed) (hi:listed.getD i true=false) (hj:j∈Region.ready md ops listed) (hne:j≠i):n j=true:=by
 obtain⟨_,oj,hoj,hall⟩:=mem_ready.1 hj
 have hi':listed.getD i false≠true:=fun e=>by
  rcases Nat.lt_or_ge i listed.size with h'|h'
  ·simp[h']at hi e;rw[hi]at e;simp at e
  ·simp[Array.getElem?_eq_none h']at hi
 have h1:=List.all_eq_true.1 h j (List.mem_range.2 (Array.getElem?_eq_some_iff.1 hoj).1)
 simp only[Bool.or_eq_true,beq_iff_eq]at h1
 rcases h1 with((h1|h1)|h1)|h1
 ·exact h1
 ·exact absurd h1 hne
 ·obtain⟨oj',hoj',e,he,hb,hon⟩:=Region.waitsFor_spec h1
  rw[hoj]at hoj'
  cases hoj'
  exact absurd (hon▸hall e he hb) hi'
 ·obtain⟨k,_,hk⟩:=List.any_eq_true.1 h1
  simp only[Bool.and_eq_true]at hk
  obtain⟨oj',hoj',e,he,hb,hon⟩:=Region.waitsFor_spec hk.1
  rw[hoj]at hoj'
  cases hoj'
  have hkl:=hall e he hb
  rw[hon]at hkl
  obtain⟨ok,hok,e2,he2,hb2,hon2⟩:=Region.waitsFor_spec hk.2
  exact absurd (hon2▸hc k ok hok hkl e2 he2 hb2) hi'
theorem ClosedL.set {ops:Array Oper} {listed:Array Bool} {j:Nat} (hc:ClosedL md ops listed) (hj:j∈Region.ready md ops listed):ClosedL md ops (listed.setIfInBounds j true):=fun k ok hk hl e he hb=>by
 obtain⟨_,oj,hoj,hall⟩:=mem_ready.1 hj
 by_cases hkj:k=j
 ·subst hkj
  rw[hk]at hoj
  cases hoj
  exact getD_set_true (hall e he hb)
 ·rw[getD_set_ne false (Ne.symm hkj)]at hl
  exact getD_set_true (hc k ok hk hl e he hb)
theorem wpE_first {ops:Array Oper} {i:Nat} {oi:Oper} {v:Value} (hi:ops[i]?=some oi) (hs:Region.noSelect ops=true) (hQ:∀c a w,Q (.panic c) (a.put oi.dst v) w→Q (.panic c) a w) (hl:lastE md ops n i=true):
  ∀(f:Nat) (listed:Array Bool) (a:Act) (w:World),ClosedL md ops listed→(∀j oj,ops[j]?=some oj→j≠i→listed.getD j true=false→(∀e∈oj.after,Region.binds md e=true→e.on≠i)→oi.apart ops oj=true)→
   i∈Region.ready md ops listed→YieldsIf P ops S oi v a→S w→wpE P md ops Q S n f (listed.setIfInBounds i true) (a.put oi.dst v) w→wpE P md ops Q S n (f+1) listed a w:=by
 intro f
 induction f with
 |zero=>
  intro listed a w hcl hfree hr hy hS H
  refine⟨fun h=>by rw[h]at hr;simp at hr,fun j hj=>?_⟩
  by_cases hji:j=i
  ·subst hji
   exact hy.wpOp hi hS ⟨fun _ h=>h,H⟩
  ·have h1:=ready_mono hj hji
   rw[H.1]at h1
   simp at h1
 |succ f ih=>
  intro listed a w hcl hfree hr hy hS H
  refine⟨fun h=>by rw[h]at hr;simp at hr,fun j hj=>?_⟩
  by_cases hji:j=i
  ·subst hji
   exact hy.wpOp hi hS ⟨fun _ h=>h,H⟩
  ·have h1:=H.2 j (ready_mono hj hji)
   obtain⟨hun,oj,hoj,hall⟩:=mem_ready.1 hj
   have hno:∀e∈oj.after,Region.binds md e=true→e.on≠i:=fun e he hb heq=>by
    have g1:=hall e he hb
    have g0:=(mem_ready.1 hr).1
    rw[heq]at g1
    rcases Nat.lt_or_ge i listed.size with h'|h'
    ·simp[h']at g0 g1;rw[g0]at g1;simp at g1
    ·simp[Array.getElem?_eq_none h']at g1
   have hjn:=lastE_spec hl hcl (mem_ready.1 hr).1 hj hji
   have hsel:=Region.noSelect_spec hs
   have h2:=wpOp_putIf hoj (hfree j oj hoj hji hun hno) (fun cs b=>hsel i oi cs b hi) (fun cs b=>hsel j oj cs b hoj) hQ hy h1
   refine wpOp_mono (fun a' w' h3=>⟨h3.2.1,ih (listed.setIfInBounds j true) a' w' (hcl.set hj) (fun k ok hk hki hku hkn=>?_) (ready_mono hr (Ne.symm hji)) h3.1 (h3.2.1 hjn hS) ?_⟩) h2
   ·refine hfree k ok hk hki ?_ hkn
    by_cases hjk:j=k
    ·subst hjk;exact hun
    ·rwa [getD_set_ne true hjk]at hku
   ·rw[Array.setIfInBounds_comm _ _ hji]
    exact h3.2.2
theorem at_dropE {α:Type} {l:List α} {i:Nat} {x:α} {r:List α} (h:l.drop i=x::r):l.toArray[i]?=some x:=by
 have:=congrArg List.head? h
 simpa using this
theorem wpE_take {l:List Oper} (i:Nat) {oi:Oper} {r:List Oper} {v:Value} {f:Nat} {listed:Array Bool} {a:Act} {w:World} (hi:l.drop i=oi::r) (hs:(Region.noSelect l.toArray&&Region.free md l.toArray listed i&&(Region.ready md l.toArray listed).contains i&&lastE md l.toArray n i&&closedB md l.toArray listed)=true)
  (hQ:∀c a w,Q (.panic c) (a.put oi.dst v) w→Q (.panic c) a w) (hS:S w) (hw:Region.wanted oi (yielded l.toArray a.tmps)=true) (hy:∀w,S w→(execOp a.eval oi).run P w= .ok (.value v) w)
  (h:wpE P md l.toArray Q S n f (listed.setIfInBounds i true) (a.put oi.dst v) w):wpE P md l.toArray Q S n (f+1) listed a w:=by
 simp only[Bool.and_eq_true]at hs
 exact wpE_first (at_dropE hi) hs.1.1.1.1 hQ hs.1.2 f listed a w (closedB_spec hs.2) (Region.free_spec (at_dropE hi) hs.1.1.1.2) (by simpa using hs.1.1.2) (.inl ⟨hw,hy⟩) hS h
theorem wpE_pure1 {ops:Array Oper} {i:Nat} {oi:Oper} {v:Value} (hi:ops[i]?=some oi) (hs:Region.noSelect ops=true) (hQ:∀c a w,Q (.panic c) (a.put oi.dst v) w→Q (.panic c) a w):
  ∀(f:Nat) (listed:Array Bool) (a:Act) (w:World),(∀j oj,ops[j]?=some oj→j≠i→listed.getD j true=false→(∀e∈oj.after,Region.binds md e=true→e.on≠i)→oi.apart ops oj=true)→
   i∈Region.ready md ops listed→YieldsIf P ops (fun _=>True) oi v a→wpE P md ops Q S n f (listed.setIfInBounds i true) (a.put oi.dst v) w→wpE P md ops Q S n (f+1) listed a w:=by
 intro f
 induction f with
 |zero=>
  intro listed a w hfree hr hy H
  refine⟨fun h=>by rw[h]at hr;simp at hr,fun j hj=>?_⟩
  by_cases hji:j=i
  ·subst hji
   exact hy.wpOp hi trivial ⟨fun _ h=>h,H⟩
  ·have h1:=ready_mono hj hji
   rw[H.1]at h1
   simp at h1
 |succ f ih=>
  intro listed a w hfree hr hy H
  refine⟨fun h=>by rw[h]at hr;simp at hr,fun j hj=>?_⟩
  by_cases hji:j=i
  ·subst hji
   exact hy.wpOp hi trivial ⟨fun _ h=>h,H⟩
  ·have h1:=H.2 j (ready_mono hj hji)
   obtain⟨hun,oj,hoj,hall⟩:=mem_ready.1 hj
   have hno:∀e∈oj.after,Region.binds md e=true→e.on≠i:=fun e he hb heq=>by
    have g1:=hall e he hb
    have g0:=(mem_ready.1 hr).1
    rw[heq]at g1
    rcases Nat.lt_or_ge i listed.size with h'|h'
    ·simp[h']at g0 g1;rw[g0]at g1;simp at g1
    ·simp[Array.getElem?_eq_none h']at g1
   have hsel:=Region.noSelect_spec hs
   have h2:=wpOp_putIf hoj (hfree j oj hoj hji hun hno) (fun cs b=>hsel i oi cs b hi) (fun cs b=>hsel j oj cs b hoj) hQ hy h1
   refine wpOp_mono (fun a' w' h3=>⟨h3.2.1,ih (listed.setIfInBounds j true) a' w' (fun k ok hk hki hku hkn=>?_) (ready_mono hr (Ne.symm hji)) h3.1 ?_⟩) h2
   ·refine hfree k ok hk hki ?_ hkn
    by_cases hjk:j=k
    ·subst hjk;exact hun
    ·rwa [getD_set_ne true hjk]at hku
   ·rw[Array.setIfInBounds_comm _ _ hji]
    exact h3.2.2
theorem wpE_pure {l:List Oper} (i:Nat) {oi:Oper} {r:List Oper} {v:Value} {f:Nat} {listed:Array Bool} {a:Act} {w:World} (hi:l.drop i=oi::r) (hs:(Region.noSelect l.toArray&&Region.free md l.toArray listed i&&(Region.ready md l.toArray listed).contains i)=true)
  (hQ:∀c a w,Q (.panic c) (a.put oi.dst v) w→Q (.panic c) a w) (hw:Region.wanted oi (yielded l.toArray a.tmps)=true) (hy:∀w,(execOp a.eval oi).run P w= .ok (.value v) w)
  (h:wpE P md l.toArray Q S n f (listed.setIfInBounds i true) (a.put oi.dst v) w):wpE P md l.toArray Q S n (f+1) listed a w:=by
 simp only[Bool.and_eq_true]at hs
 exact wpE_pure1 (at_dropE hi) hs.1.1 hQ f listed a w (Region.free_spec (at_dropE hi) hs.1.2) (by simpa using hs.2) (.inl ⟨hw,fun w _=>hy w⟩) h
theorem wpE_next {l:List Oper} (i:Nat) {oi:Oper} {r:List Oper} {f:Nat} {listed:Array Bool} {a:Act} {w:World} (hi:l.drop i=oi::r) (hr:Region.ready md l.toArray listed= [i])
  (h:∀K':Act→World→Prop,Shut (∀a w',(n i=true→S w→S w')→wpE P md l.toArray Q S n f (listed.setIfInBounds i true) a w'→K' a w')→if Region.wanted oi (yielded l.toArray a.tmps)=true then Oper.wp P oi a w K' Q else K' (a.put oi.dst undef) w):wpE P md l.toArray Q S n (f+1) listed a w:=by
 refine⟨fun h0=>by rw[hr]at h0;simp at h0,fun j hj=>?_⟩
 rw[hr]at hj
 have hj:j=i:=by simpa using hj
 subst hj
 exact wpOp_step (at_dropE hi) fun K' hK=>h K' fun a w hS hW=>hK a w ⟨hS,hW⟩
theorem wpE_two {l:List Oper} (i j:Nat) {oi oj:Oper} {r r':List Oper} {f:Nat} {listed:Array Bool} {a:Act} {w:World} (hi:l.drop i=oi::r) (hj:l.drop j=oj::r') (hr:Region.ready md l.toArray listed= [i,j])
  (h:∀K':Act→World→Prop,Shut (∀a w',(n i=true→S w→S w')→wpE P md l.toArray Q S n f (listed.setIfInBounds i true) a w'→K' a w')→if Region.wanted oi (yielded l.toArray a.tmps)=true then Oper.wp P oi a w K' Q else K' (a.put oi.dst undef) w)
  (h':∀K':Act→World→Prop,Shut (∀a w',(n j=true→S w→S w')→wpE P md l.toArray Q S n f (listed.setIfInBounds j true) a w'→K' a w')→if Region.wanted oj (yielded l.toArray a.tmps)=true then Oper.wp P oj a w K' Q else K' (a.put oj.dst undef) w):wpE P md l.toArray Q S n (f+1) listed a w:=by
 refine⟨fun h0=>by rw[hr]at h0;simp at h0,fun k hk=>?_⟩
 rw[hr]at hk
 simp only[List.mem_cons,List.not_mem_nil,or_false]at hk
 rcases hk with rfl|rfl
 ·exact wpOp_step (at_dropE hi) fun K' hK=>h K' fun a w hS hW=>hK a w ⟨hS,hW⟩
 ·exact wpOp_step (at_dropE hj) fun K' hK=>h' K' fun a w hS hW=>hK a w ⟨hS,hW⟩
theorem wpE_done {ops:Array Oper} {f:Nat} {listed:Array Bool} {a:Act} {w:World} (hr:Region.ready md ops listed= []) (h:Q .normal a w):wpE P md ops Q S n f listed a w:=by
 cases f with
 |zero=>exact⟨hr,h⟩
 |succ f=>exact⟨fun _=>h,fun i hi=>by rw[hr]at hi;simp at hi⟩
theorem wp_region_E {id:Nat} {l:List Oper} {a:Act} {w:World} (S:World→Prop) (n:Nat→Bool) (hm:P.follows .mixedOrders =true) (hS:S w.drew) (h:S w.drew→wpE P .any l.toArray Q S n l.length (Array.replicate l.length false) a w.drew):(Code.region id l.toArray true).wp P Q a w:=
 wp_region_any hm (by
  have:=wpE.any _ _ _ _ (h hS)
  simpa using this)
end
theorem wpE_tk {P:Program} {Q:Exit→Act→World→Prop} {md:Region.Mode} {S:World→Prop} {n:Nat→Bool} {l:List Oper} (i:Nat) {oi:Oper} {r:List Oper} {v:Value} {f:Nat} {listed:Array Bool} {a:Act} {w:World} (hS:S w)
  (h:wpE P md l.toArray Q S n f (listed.setIfInBounds i true) (a.put oi.dst v) w) (hi:l.drop i=oi::r:=by rfl) (hs:(Region.noSelect l.toArray&&Region.free md l.toArray listed i&&(Region.ready md l.toArray listed).contains i&&lastE md l.toArray n i&&closedB md l.toArray listed)=true:=by kernel_rfl)
  (hQ:∀c a w,Q (.panic c) (a.put oi.dst v) w→Q (.panic c) a w:=by exact fun _ _ _ h=>h) (hw:Region.wanted oi (yielded l.toArray a.tmps)=true:=by rfl) (hy:∀w,S w→(execOp a.eval oi).run P w= .ok (.value v) w:=by(intro wz hSz;(try dsimp only at hSz);go_simp;try with_reducible rfl)):wpE P md l.toArray Q S n (f+1) listed a w:=wpE_take i hi hs hQ hS hw hy h
theorem wpE_pu {P:Program} {Q:Exit→Act→World→Prop} {md:Region.Mode} {S:World→Prop} {n:Nat→Bool} {l:List Oper} (i:Nat) {oi:Oper} {r:List Oper} {v:Value} {f:Nat} {listed:Array Bool} {a:Act} {w:World} (h:wpE P md l.toArray Q S n f (listed.setIfInBounds i true) (a.put oi.dst v) w) (hi:l.drop i=oi::r:=by rfl) (hs:(Region.noSelect l.toArray&&Region.free md l.toArray listed i&&(Region.ready md l.toArray listed).contains i)=true:=by kernel_rfl)
  (hQ:∀c a w,Q (.panic c) (a.put oi.dst v) w→Q (.panic c) a w:=by exact fun _ _ _ h=>h) (hw:Region.wanted oi (yielded l.toArray a.tmps)=true:=by rfl) (hy:∀w,(execOp a.eval oi).run P w= .ok (.value v) w:=by(intro wz;go_simp;try with_reducible rfl)):wpE P md l.toArray Q S n (f+1) listed a w:=wpE_pure i hi hs hQ hw hy h
end Go.Proofs.YtmopichdofgndaaGreatDoor

namespace Go.Proofs.YtmopichdofgndaaGreatDoor
open Go.RowKit Go.Shelf Go.Maps

def CnX (xs:Cds):Prop:=∀(w:World) (S:Nat→Prop) (A:Option Addr) (c:Nat) (n:Nms) (b k:Nat),NmM w b k n→(∀b,S b→b < w.heap.size)→szC xs→SlR (fun b o=>CdR w S False xs b o) xs.len 64 A c→
 Calls Tryz.prog 87 #[.slice A xs.len c,.func (.func 88) #[.map (some b)] #[]] w fun e w'=>
  ∃A' c',e= .returned (.slice A' xs.len c')∧SlR (fun b o=>CdR w' (New w.heap.size w') True (condN n xs) b o) xs.len 64 A' c'∧Fr NoT w w'
def OneAtC (cur cur':Array Value) (o:Nat) (a1 a2:Value):Prop:=cur'.size=cur.size∧cur'[o+1]?=some a1∧cur'[o+2]?=some a2∧∀j,j≠o+1→j≠o+2→cur'[j]?=cur[j]?
def CnX1 (args:Exs) (of_:Cds):Prop:=∀(w:World) (S:Nat→Prop) (A B:Option Addr) (c d:Nat) (n:Nms) (b q g o:Nat) (T:TypeId) (cur:Array Value),NmM w b q n→b≠g→(∀b,S b→b < w.heap.size∧b≠g)→szX args→szC of_→
 Bk w g T cur→cur[o+1]?=some (.slice A args.len c)→cur[o+2]?=some (.slice B of_.len d)→SlR (fun b o=>ExR w S False args b o) args.len 64 A c→SlR (fun b o=>CdR w S False of_ b o) of_.len 64 B d→
 Calls Tryz.prog 88 #[.map (some b),.pointer (some ⟨g,o,none⟩)] w fun e w'=>e= .returned (.tuple #[])∧
  ∃A' c' B' d' cur',Bk w' g T cur'∧OneAtC cur cur' o (.slice A' args.len c') (.slice B' of_.len d')∧SlR (fun b o=>ExR w' (New w.heap.size w') True (exprN n args) b o) args.len 64 A' c'∧SlR (fun b o=>CdR w' (New w.heap.size w') True (condN n of_) b o) of_.len 64 B' d'∧Fr (fun b=>b=g) w w'
theorem setAtC {cur:Array Value} {o:Nat} {x1 x2:Value} (h1:o+1 < cur.size) (h2:o+2 < cur.size):OneAtC cur ((cur.setIfInBounds (o+1) x1).setIfInBounds (o+2) x2) o x1 x2:=by
 refine⟨by simp,?_,?_,fun j j1 j3=>?_⟩
 ·rw[Array.getElem?_setIfInBounds_ne (by omega),Array.getElem?_setIfInBounds_self_of_lt h1]
 ·rw[Array.getElem?_setIfInBounds_self_of_lt (by simpa using h2)]
 ·rw[Array.getElem?_setIfInBounds_ne (by omega),Array.getElem?_setIfInBounds_ne (by omega)]
theorem slC_set {w:World} {L L' g i m:Nat} {u:Value} {xs:Cds} {A:Option Addr} {c:Nat} (hg:g < L) (hL:L'≤L) (h:SlR (fun b o=>CdR w (New L w) True xs b o) m 64 A c):
  SlR (fun b o=>CdR (w.setCell ⟨g,i,none⟩ u) (New L' (w.setCell ⟨g,i,none⟩ u)) True xs b o) m 64 A c:=
 h.imp fun _ _ h=>CdR.more (fun b hb=>⟨leq9 hL hb.1,by simpa using hb.2⟩) (CdR.keep ((Fr.own (Fr.refl _ w) i u).same fun b hb=>⟨hb.2,fun e=>by have e:b=g:=e;have:=hb.1;omega⟩) h)
theorem cnx1 (args:Exs) (of_:Cds) (hall:CnX of_):CnX1 args of_:=by
 intro w S A B c d n b q g o T cur hn hbg hS hsx hsc hbk e1 e2 hx hc
 have hl:args.len≤9223372036854775807:=leq9 hx.1 hx.2.1.1
 have hl2:of_.len≤9223372036854775807:=leq9 hc.1 hc.2.1.1
 have c1:=(hbk.cell (o+1)).trans e1
 have c2:=(hbk.cell (o+2)).trans e2
 have hgl:=hbk.lt
 have HBK:=hdq hbk
 have HX:=hdq (fun(W:World) (hf:Fr NoT w W)=>anew_any args W S A c n b q (hn.fr hf id) (fun b hb=>ltq (hS b hb).1 hf.size) hsx (hx.imp fun _ _ h=>ExR.keep (hf.same fun b hb=>⟨(hS b hb).1,id⟩) h))
 have HC:=hdq (fun(W:World) (hf:Fr NoT w W)=>hall W S B d n b q (hn.fr hf id) (fun b hb=>ltq (hS b hb).1 hf.size) hsc (hc.imp fun _ _ h=>CdR.keep (hf.same fun b hb=>⟨(hS b hb).1,id⟩) h))
 have HB:=hdq (aiq (Array.getElem?_eq_some_iff.1 e1).1 (Array.getElem?_eq_some_iff.1 e2).1)
 obtain⟨m,hm⟩:=nmq args.len
 obtain⟨m2,hm2⟩:=nmq of_.len
 rw[←hm]at hl c1 HX ⊢
 rw[←hm2]at hl2 c2 HC ⊢
 have HM:=hdq (aiq hm hm2)
 clear hall hn hS hsx hsc hx hc hbk e1 e2 hm hm2 hbg
 go_enter Tryz.func88,Tryz.ntmps88
 go_wp2_with fail
 refine wp_region_E (fun W'=>g < W'.heap.size∧W'.cell? ⟨g,o+1,none⟩=some (.slice A m c)∧W'.cell? ⟨g,o+2,none⟩=some (.slice B m2 d)) (fun i=>decide (i < 16)) (by kernel_rfl) ⟨hgl,c1,c2⟩ (fun hHeld=>?_)
 refine wpE_pu 0 ?_
 try simp only[putsL]
 refine wpE_pu 1 ?_
 try simp only[putsL]
 refine wpE_pu 2 ?_
 try simp only[putsL]
 refine wpE_pu 3 ?_
 try simp only[putsL]
 refine wpE_pu 4 ?_
 try simp only[putsL]
 refine wpE_pu 6 ?_
 try simp only[putsL]
 refine wpE_pu 9 ?_
 try simp only[putsL]
 refine wpE_pu 10 ?_
 try simp only[putsL]
 refine wpE_pu 11 ?_
 try simp only[putsL]
 refine wpE_pu 13 ?_
 try simp only[putsL]
 refine wpE_tk 5 hHeld ?_
 try simp only[putsL]
 refine wpE_tk 12 hHeld ?_
 try simp only[putsL]
 refine wpE_pu 7 ?_
 try simp only[putsL]
 refine wpE_pu 14 ?_
 try simp only[putsL]
 refine wpE_next 8 rfl (by kernel_rfl) (fun KK hK=>?_)
 go_simp
 go_at_call 85
 refine(HX.out _ ((Fr.refl NoT w).drew)).mono ?_
 rintro _ w1 ⟨A',c',rfl,hsl,hf1⟩
 have HF1:=hdq (((Fr.refl NoT w).drew).trans hf1)
 have hk1:=HBK.out.fr0 HF1.out
 have hs1:g < w1.heap.size∧w1.cell? ⟨g,o+1,none⟩=some (.slice A m c)∧w1.cell? ⟨g,o+2,none⟩=some (.slice B m2 d):=⟨hk1.lt,(hk1.cell _).trans ((HBK.out.cell _).symm.trans c1),(hk1.cell _).trans ((HBK.out.cell _).symm.trans c2)⟩
 have HSL:=hdq hsl
 clear hHeld hsl hf1 hk1
 dsimp only
 refine hK _ _ (fun _ _=>hs1) ?_
 clear hK KK
 have hHeld:=hs1
 clear hs1
 try simp only[putsL]
 refine wpE_next 15 rfl (by kernel_rfl) (fun KK hK=>?_)
 go_simp
 go_at_call 87
 refine(HC.out _ HF1.out).mono ?_
 rintro _ w2 ⟨B',d',rfl,hsl2,hf2⟩
 have hk2:=(HBK.out.fr0 HF1.out).fr0 hf2
 have hgl2:=hk2.lt
 have f1:=hk2.frozen (o+1)
 have f2:=hk2.frozen (o+2)
 have q1:=(hk2.cell (o+1)).trans ((HBK.out.cell _).symm.trans c1)
 have q2:=(hk2.cell (o+2)).trans ((HBK.out.cell _).symm.trans c2)
 have HF2:=hdq hf2
 have HK2:=hdq hk2
 have HSL2:=hdq hsl2
 clear hsl2 hf2 hk2
 dsimp only
 refine hK _ _ (fun _ _=>⟨hgl2,q1,q2⟩) ?_
 clear hK KK hHeld
 try simp only[putsL]
 refine wpE_next 16 rfl (by kernel_rfl) (fun KK hK=>?_)
 go_simp
 refine hK _ _ (fun h=>absurd h (by decide)) ?_
 clear hK KK
 try simp only[putsL]
 refine wpE_next 17 rfl (by kernel_rfl) (fun KK hK=>?_)
 go_simp
 refine hK _ _ (fun h=>absurd h (by decide)) ?_
 clear hK KK
 try simp only[putsL]
 refine wpE_next 18 rfl (by kernel_rfl) (fun KK hK=>?_)
 go_simp
 refine hK _ _ (fun h=>absurd h (by decide)) ?_
 clear hK KK
 try simp only[putsL]
 refine wpE_next 19 rfl (by kernel_rfl) (fun KK hK=>?_)
 go_simp
 refine hK _ _ (fun h=>absurd h (by decide)) ?_
 clear hK KK
 try simp only[putsL]
 refine wpE_next 20 rfl (by kernel_rfl) (fun KK hK=>?_)
 go_simp
 refine hK _ _ (fun h=>absurd h (by decide)) ?_
 clear hK KK
 try simp only[putsL]
 refine wpE_next 21 rfl (by kernel_rfl) (fun KK hK=>?_)
 go_simp
 refine hK _ _ (fun h=>absurd h (by decide)) ?_
 clear hK KK
 try simp only[putsL]
 refine wpE_done (by kernel_rfl) ?_
 go_wp2_with fail
 go_end0
 have h12:Fr NoT w w2:=HF1.out.trans HF2.out
 refine⟨rfl,A',c',B',d',_,(HK2.out.set_ (o+1) (.slice A' m c')).set_ (o+2) (.slice B' m2 d'),setAtC (x1:= .slice A' m c') (x2:= .slice B' m2 d') HB.out.1 HB.out.2,?_,?_,((h12.any:Fr (fun b=>b=g) w w2).own _ _).own _ _⟩
 ·refine sl_set (ltq hgl (lrq _)) (lrq _) (sl_set hgl (lrq _) (HSL.out.imp fun _ _ h=>ExR.more (fun b hb=>⟨hb.1,ltq hb.2 HF2.out.size⟩) (ExR.keep (HF2.out.same fun b hb=>⟨hb.2,id⟩) h)))
 ·exact slC_set hgl (lrq _) (slC_set hgl (lrq _) (HSL2.out.imp fun _ _ h=>CdR.more (fun b hb=>⟨leq9 HF1.out.size hb.1,hb.2⟩) h))
def cdApp (acc:List Cn) (t:Cds):Cds:=acc.foldr Cn.cons t
theorem cdApp_snoc (acc:List Cn) (x:Cn) (t:Cds):cdApp (acc++ [x]) t=cdApp acc (x.cons t):=by simp[cdApp,List.foldr_append]
theorem cdApp_nil:∀acc:List Cn,cdApp acc .nil =cdsOf' acc
 | []=>rfl
 |x::r=>by show x.cons (cdApp r .nil)=x.cons (cdsOf' r);rw[cdApp_nil r]
theorem szC_at:∀(i:Nat) {xs:Cds} {a0 a1 a2 a3 ar},szC xs→Cds.drop i xs= .cons a0 a1 a2 a3 ar→szX a1∧szC a2
 |0,.cons _ _ _ _ _,_,_,_,_,_,h,hd=>by
  simp only[Cds.drop]at hd
  cases hd
  exact⟨h.1,h.2.1⟩
 |0,.nil,_,_,_,_,_,_,hd=>by simp[Cds.drop]at hd
 |i+1,.nil,_,_,_,_,_,_,hd=>by simp[Cds.drop]at hd
 |i+1,.cons _ _ _ _ _,_,_,_,_,_,h,hd=>by
  simp only[Cds.drop]at hd
  exact szC_at i h.2.2 hd
structure CnSt (w:World) (S:Nat→Prop) (n:Nms) (xs:Cds) (g:Nat) (wr:World) (cur:Array Value) (acc:List Cn) (cs1 cs2:List Value) (k:Nat):Prop where
 bk:Bk wr g 160 cur
 fr:Fr NoT w wr
 c1:∀(j:Nat) (u:Value),cs1[j]?=some u→cur[j]?=some u
 l1:cs1.length=k*4
 c2:∀(j:Nat) (u:Value),cs2[j]?=some u→cur[k*4+j]?=some u
 r1:RowR oneC wr (fun b=>w.heap.size≤b∧b < wr.heap.size∧b≠g) acc cs1
 r2:RowR (oneCz False) w S (Cds.drop k xs).toL cs2
 eq:cdApp acc (condN n (Cds.drop k xs))=condN n xs
 len:acc.length=k
theorem CnSt.step {w:World} {S:Nat→Prop} {n:Nms} {xs:Cds} {g:Nat} {wr:World} {cur:Array Value} {acc:List Cn} {cs1 cs2':List Value} {k:Nat} {a0:Int} {a1:Exs} {a2:Cds} {a3:Int} {ar:Cds} {A1 A2:Option Addr} {q1 q2:Nat}
  (h:CnSt w S n xs g wr cur acc cs1 ([.int .u8 a0,.slice A1 a1.len q1,.slice A2 a2.len q2,.int .i64 a3]++cs2') k) (hd:Cds.drop k xs= .cons a0 a1 a2 a3 ar) (hr:RowR (oneCz False) w S ar.toL cs2') (h0:in8 a0) (h3:in64 a3) (hgL:w.heap.size≤g)
  {w2:World} {cur':Array Value} {A' B':Option Addr} {c' d':Nat} (hbk:Bk w2 g 160 cur') (hone:OneAtC cur cur' (k*4) (.slice A' a1.len c') (.slice B' a2.len d')) (hsl:SlR (fun b o=>ExR w2 (New wr.heap.size w2) True (exprN n a1) b o) a1.len 64 A' c') (hsl2:SlR (fun b o=>CdR w2 (New wr.heap.size w2) True (condN n a2) b o) a2.len 64 B' d') (hf:Fr (fun b=>b=g) wr w2):
  CnSt w S n xs g w2 cur' (acc++ [⟨a0,exprN n a1,condN n a2,a3⟩]) (cs1++ [.int .u8 a0,.slice A' a1.len c',.slice B' a2.len d',.int .i64 a3]) cs2' (k+1):=by
 have hg:=h.bk.lt
 have hz:=h.fr.size
 have hz2:=hf.size
 obtain⟨hs,e1,e2,ej⟩:=hone
 have at_:∀i u, [.int .u8 a0,.slice A1 a1.len q1,.slice A2 a2.len q2,.int .i64 a3][i]?=some u→cur[k*4+i]?=some u:=fun i u hi=>h.c2 i u (by
  rw[List.getElem?_append_left (by have:=(List.getElem?_eq_some_iff.1 hi).1;simpa using this)];exact hi)
 refine⟨hbk,Fr.back1 h.fr (hf.mono fun b _ (e:b=g)=>(by omega:w.heap.size≤b)) (lrq _),fun j u hj=>?_,by simp[h.l1];omega,fun j u hj=>?_,?_,?_,?_,by simp[h.len]⟩
 ·by_cases hlt:j < cs1.length
  ·rw[List.getElem?_append_left hlt]at hj
   have hl1:=h.l1
   rw[ej j (by omega) (by omega)]
   exact h.c1 j u hj
  ·rw[List.getElem?_append_right (by omega),h.l1]at hj
   have hl1:=h.l1
   obtain⟨i,rfl⟩:∃i,j=k*4+i:=⟨j - k*4,by omega⟩
   rw[show k*4+i - k*4=i from by omega]at hj
   match i,hj with
   |0,hj=>rw[ej _ (by omega) (by omega)];exact at_ 0 u hj
   |1,hj=>rw[e1];exact hj
   |2,hj=>rw[e2];exact hj
   |3,hj=>rw[ej _ (by omega) (by omega)];exact at_ 3 u hj
   |i+4,hj=>simp at hj
 ·rw[show(k+1)*4+j=k*4+(4+j)from by omega,ej _ (by omega) (by omega)]
  refine h.c2 (4+j) u ?_
  rw[List.getElem?_append_right (by simp)]
  simpa using hj
 ·refine RowR.snoc ⟨A',c',B',d',?_,h0,h3,?_,?_⟩ (RowR.imp oneC_keep (hf.same fun b hb=>⟨hb.2.1,hb.2.2⟩) (fun b hb=>⟨hb.1,by have:=hb.2.1;omega,hb.2.2⟩) h.r1)
  ·rw[exprN_len,condN_len]
  ·rw[exprN_len]
   exact hsl.imp fun _ _ hx=>ExR.more (fun b hb=>⟨by have:=hb.1;omega,hb.2,by have:=hb.1;omega⟩) hx
  ·rw[condN_len]
   exact hsl2.imp fun _ _ hx=>CdR.more (fun b hb=>⟨by have:=hb.1;omega,hb.2,by have:=hb.1;omega⟩) hx
 ·rw[Cds.drop_succ k xs hd];exact hr
 ·rw[cdApp_snoc,Cds.drop_succ k xs hd,←h.eq,hd];rfl
theorem cn_one (xs:Cds) (hall:∀(i:Nat) (a0:Int) (a1:Exs) (a2:Cds) (a3:Int) (ar:Cds),Cds.drop i xs= .cons a0 a1 a2 a3 ar→CnX a2):CnX xs:=by
 intro w S A c n b q hn hS hsz hx
 have hl:xs.len≤9223372036854775807:=leq9 hx.1 hx.2.1.1
 obtain⟨cs,hcl,hrow,hone,hnil,hcs⟩:=slC hx
 have HCL:=hdq (cloneC_any A xs.len c cs w hl hx.2.1.2 hcl hone hnil hcs)
 have HA:=hdq hall
 have HX:=hdq hx
 have HS:=hdq hS
 have HN:=hdq (aiq hn hsz)
 have HROW:=hdq (aiq hcl hrow)
 obtain⟨m,hm⟩:=nmq xs.len
 rw[←hm]at hl HCL ⊢
 have HM:=hdq hm
 clear hall hx hS hm hn hsz hcl hrow hone hnil hcs
 go_enter Tryz.func87,Tryz.ntmps87
 go_wp2_with fail
 refine HCL.out.mono ?_
 rintro _ w1 ⟨v,rfl,hown,hf1,A1,c1,rfl⟩
 by_cases h0:m=0
 ·subst h0
  have HF1:=hdq hf1
  have HC1:=hdq (row_cap hown)
  clear hown hf1
  go_wp2_with fail
  go_loopw [10] (fun i wr=>wr=w1∧i= .int .i64 0) (fun _ _=>0)
  case atStart=>exact⟨rfl,rfl⟩
  case round=>
   obtain⟨rfl,rfl⟩:=hrel
   go_wp2_with fail
   go_ret
   exact⟨A1,c1,rfl,⟨Nat.zero_le _,⟨HC1.out,by decide⟩,fun h=>absurd h (Nat.lt_irrefl 0)⟩,HF1.out⟩
 ·obtain⟨g,cap,pad,e,hgL,hgl,hmc,hcm,hbk⟩:=row_block hown (Nat.pos_of_ne_zero h0)
  obtain⟨rfl,rfl⟩:A1=some ⟨g,0,none⟩∧c1=cap:=by
   injection e with e1 e2 e3
   exact⟨e1,e3⟩
  have HST:=hdq (show CnSt w S n xs g w1 (cs++pad).toArray [] [] cs 0 from⟨hbk,hf1,by simp,rfl,fun j u hj=>by
   have:=(List.getElem?_eq_some_iff.1 hj).1
   rw[Nat.zero_mul,Nat.zero_add,List.getElem?_toArray,List.getElem?_append_left this];exact hj,rfl,HROW.out.2,rfl,rfl⟩)
  have HG:=hdq (aiq hgL (aiq hmc hcm))
  clear hown hf1 hbk e hgl hcm hgL hmc
  go_wp2_with fail
  go_loopw [10] (fun i wr=>∃k:Nat,k≤m∧i= .int .i64 k∧∃(cur:Array Value) (acc:List Cn) (d1 d2:List Value),Hid (CnSt w S n xs g wr cur acc d1 d2 k)) (fun i _=>m - (intOf i).toNat)
  case atStart=>exact⟨0,Nat.zero_le _,rfl,_,_,_,_,HST⟩
  case round=>
   clear HST
   obtain⟨k,hk,rfl,cur,acc,d1,d2,hb⟩:=hrel
   by_cases hlt:k < m
   ·obtain⟨a0,a1,a2,a3,ar,hd⟩:=Cds.drop_cons (show k < xs.len from by rw[←HM.out];exact hlt)
    have hr2:=hb.out.r2
    rw[hd]at hr2
    obtain⟨ys,cs',rfl,⟨A1,q1,A2,q2,rfl,r0,r1,s3,s4⟩,hr⟩:=hr2
    have hlt':(k:Int) < (m:Int):=by omega
    have hge:(0:Int)≤(k:Int):=by omega
    have hgw:w.heap.size≤g:=HG.out.1
    have hq:=HN.out.1.lt
    have hsz:=szC_at k HN.out.2 hd
    have hsm:=hb.out.fr.same (S:=S) fun b hb'=>⟨HS.out b hb',id⟩
    have HC:=hdq (cnx1 a1 a2 (HA.out k a0 a1 a2 a3 ar hd) wr S A1 A2 q1 q2 n b q g (k*4) 160 cur (HN.out.1.fr hb.out.fr id) (by omega) (fun b hb'=>⟨ltq (HS.out b hb') hb.out.fr.size,by have:=HS.out b hb';omega⟩) hsz.1 hsz.2 hb.out.bk (hb.out.c2 1 _ rfl) (hb.out.c2 2 _ rfl) (s3.imp fun _ _ h=>ExR.keep hsm h) (s4.imp fun _ _ h=>CdR.keep hsm h))
    have HD:=hdq (aiq hd (aiq hr (aiq r0 r1)))
    have hbl:=hb.out.bk.lt
    clear hd hr r0 r1 s3 s4 hsz hq hsm
    go_wp2_with fail
    refine HC.out.mono ?_
    rintro _ w2 ⟨rfl,A',c',B',d',cur',hbk,hone,hsl,hsl2,hf2⟩
    have HNX:=hdq (hb.out.step HD.out.1 HD.out.2.1 HD.out.2.2.1 HD.out.2.2.2 hgw hbk hone hsl hsl2 hf2)
    clear hbk hone hsl hsl2 hf2 hb hbl
    go_wp2_with fail
    go_roundw
    case rel=>exact⟨k+1,by omega,by go_num,_,_,_,_,HNX⟩
    case measure=>simp[intOf];omega
   ·have hlt':¬(k:Int) < (m:Int):=by omega
    have hkm:k=m:=by omega
    have heq:condN n xs=cdsOf' acc:=by
     rw[←cdApp_nil,←hb.out.eq,Cds.drop_nil (by rw[←HM.out];omega)];rfl
    have hsl:SlR (fun b o=>CdR wr (New w.heap.size wr) True (condN n xs) b o) m 64 (some ⟨g,0,none⟩) c1:=by
     refine⟨HG.out.2.1,⟨by have:=HG.out.2.2;unfold maxLen at this;omega,by have:=HX.out.2.1.2;rw[←HM.out]at this;exact this⟩,fun _=>⟨g,0,rfl,?_⟩⟩
     show CdR wr (New w.heap.size wr) True (condN n xs) g 0
     rw[heq]
     refine rowC ⟨⟨HG.out.1,hb.out.bk.lt⟩,Thaw.of hb.out.bk⟩ (RowR.imp oneC_keep (SameS.refl _ _) (fun b hb=>⟨hb.1,hb.2.1⟩) hb.out.r1) fun j u hj=>?_
     rw[Nat.zero_add]
     exact(hb.out.bk.cell j).trans (hb.out.c1 j u hj)
    have HSL:=hdq hsl
    have HF:=hdq hb.out.fr
    clear heq hsl hb
    go_wp2_with fail
    go_ret
    exact⟨_,_,rfl,HSL.out,HF.out⟩
theorem cni_all:∀(xs:Cds) (i:Nat) (a0:Int) (a1:Exs) (a2:Cds) (a3:Int) (ar:Cds),Cds.drop i xs= .cons a0 a1 a2 a3 ar→CnX a2
 | .nil,i,_,_,_,_,_,h=>by cases i<;>simp[Cds.drop]at h
 | .cons k args of_ at_ rest,0,a0,a1,a2,a3,ar,h=>by
  simp only[Cds.drop,Cds.cons.injEq]at h
  obtain⟨_,_,rfl,_,_⟩:=h
  exact cn_one _ (cni_all _)
 | .cons k args of_ at_ rest,i+1,a0,a1,a2,a3,ar,h=>by
  simp only[Cds.drop]at h
  exact cni_all rest i a0 a1 a2 a3 ar h
theorem anewC_any (xs:Cds):CnX xs:=cn_one xs (cni_all xs)

def prcV (x:Prc) (A:Option Addr) (c:Nat) (B:Option Addr) (e:Nat):Value:= .agg #[.string x.nm,.slice A x.params.length c,.slice B x.body.len e,.int .i64 x.at_]
structure InK where
 W0:World
 S:Nat→Prop
 P:Nat
 bp:Nat
 np:Nat
 f:List UInt8→Option Value
 procs:List UInt8→Option Prc
structure InK.Ok (K:InK):Prop where
 tab:Lib.TabIs Tryz.prog K.W0 "internal/strconv.uint64pow10" .u64 Lib.pow10Tab
 low:∀b,K.S b→b < K.W0.heap.size
 none_:∀y,K.procs y=none→K.f y=none
 some_:∀y x,K.procs y=some x→∃A c B e,K.f y=some (prcV x A c B e)∧SlR (VaR K.W0 K.S False x.params) x.params.length 24 A c∧SlR (StR K.W0 K.S False x.body) x.body.len 128 B e
 few:∀y x,K.procs y=some x→x.params.length≤4∧x.nm.size≤16∧(∀v∈x.params,v.nm.size≤16∧in64 v.at_)∧szS x.body∧in64 x.at_
structure InAt (K:InK) (w:World) (s:Ist) (v:Value):Prop where
 fr:Fr NoT K.W0 w
 bk:Bk w K.P 76 #[.map (some K.bp),.int .i64 s.calls,v,.int .i64 s.many]
 map:MpV w K.bp K.np K.f
 row:∃cs,w.ownsRow K.W0.heap.size 43 2 v s.vars.length cs∧RowR oneV w (fun _=>True) s.vars cs
 high:K.W0.heap.size≤K.P∧K.W0.heap.size≤K.bp
 ne:K.P≠K.bp∧v.ownBlock≠some K.P∧v.ownBlock≠some K.bp
 most:s.many≤261∧s.calls≤s.many+1∧s.vars.length≤36
def InT (K:InK) (v:Value):Nat→Prop:=fun b=>b=K.P∨v.ownBlock=some b
theorem row_slice {w:World} {base n size:Nat} {t:TypeId} {v:Value} {xs:List Value} (h:w.ownsRow base t size v n xs):∃A c,v= .slice A n c∧(A=none→c=0∧n=0):=by
 rcases h.2 with⟨e1,e2⟩|⟨g,cap,cur,e1,_⟩
 ·exact⟨none,0,by rw[e1,e2],fun _=>⟨rfl,e2⟩⟩
 ·exact⟨_,cap,e1,fun h=>by simp at h⟩
theorem row_lt {w:World} {base n size:Nat} {t:TypeId} {v:Value} {xs:List Value} (h:w.ownsRow base t size v n xs) {b:Nat} (hb:v.ownBlock=some b):base≤b∧b < w.heap.size:=h.lt b hb
theorem rw_keep {w w':World} {base n size:Nat} {t:TypeId} {v:Value} {xs:List Value} {T:Nat→Prop} (h:w.ownsRow base t size v n xs) (hf:Fr T w w') (hv:∀b,v.ownBlock=some b→¬T b):w'.ownsRow base t size v n xs:=by
 refine⟨h.1,?_⟩
 rcases h.2 with hn|⟨g,cap,cur,rfl,hb,hgg,rest⟩
 ·exact .inl hn
 ·exact .inr ⟨g,cap,cur,rfl,hb,(hf.block g (Array.getElem?_eq_some_iff.1 hgg).1 (hv g rfl)).trans hgg,rest⟩
theorem row_lower {w:World} {base base' n size:Nat} {t:TypeId} {v:Value} {xs:List Value} (h:w.ownsRow base t size v n xs) (hl:base'≤base):w.ownsRow base' t size v n xs:=by
 refine⟨h.1,?_⟩
 rcases h.2 with hn|⟨g,cap,cur,rfl,hb,r⟩
 ·exact .inl hn
 ·exact .inr ⟨g,cap,cur,rfl,leq9 hl hb,r⟩
theorem RowR.any {w w':World}:∀ {xs:List Va} {cs:List Value},RowR oneV w (fun _=>True) xs cs→RowR oneV w' (fun _=>True) xs cs
 | [],_,h=>h
 |x::r,cs,⟨ys,cs',e,h1,h2⟩=>⟨ys,cs',e,h1,RowR.any h2⟩
theorem InAt.frT {K:InK} {w w':World} {s:Ist} {v:Value} (h:InAt K w s v) {T:Nat→Prop} (hf:Fr T w w') (hW:∀b,T b→K.W0.heap.size≤b) (hP:¬T K.P) (hb:¬T K.bp) (hv:∀b,v.ownBlock=some b→¬T b):InAt K w' s v:=by
 obtain⟨cs,h1,h2⟩:=h.row
 exact⟨Fr.back1 h.fr (hf.mono fun i _ ht=>hW i ht) (lrq _),h.bk.fr hf hP,h.map.fr hf hb,⟨cs,rw_keep h1 hf hv,h2.any⟩,h.high,h.ne,h.most⟩
theorem InAt.fr0 {K:InK} {w w':World} {s:Ist} {v:Value} (h:InAt K w s v) (hf:Fr NoT w w'):InAt K w' s v:=h.frT hf (fun _ h=>h.elim) id id fun _ _=>id
theorem InAt.tab {K:InK} {w:World} {s:Ist} {v:Value} (h:InAt K w s v) (hk:K.Ok):Lib.TabIs Tryz.prog w "internal/strconv.uint64pow10" .u64 Lib.pow10Tab:=by
 have:=hk.tab
 unfold Lib.TabIs at this ⊢
 exact var_keep h.fr.plain this
theorem full_any (K:InK) (w:World) (s:Ist) (v:Value) (h:InAt K w s v):Calls Tryz.prog 29 #[.pointer (some ⟨K.P,0,none⟩)] w fun e w'=>e= .returned (.bool (fullB s))∧w'=w:=by
 obtain⟨cs,hrow,_⟩:=h.row
 obtain⟨A,c,rfl,_⟩:=row_slice hrow
 have k:=h.bk
 have g2:=k.cell 2
 have g3:=k.cell 3
 have gl:=k.lt
 simp only[getsL]at g2 g3
 obtain⟨n,hn⟩:=nmq s.vars.length
 obtain⟨m,hm⟩:=nmq s.many
 unfold fullB
 rw[←hn]at g2 ⊢
 rw[←hm]at g3 ⊢
 clear h hrow k hn hm
 by_cases h1:256 < m
 ·have h1':(256:Int) < (m:Int):=by omega
  go_enter Tryz.func29,Tryz.ntmps29
  go_wp2_with fail
  go_ret
  exact⟨by simp[h1],rfl⟩
 ·have h1':¬(256:Int) < (m:Int):=by omega
  by_cases h2:32 < n
  ·have h2':(32:Int) < (n:Int):=by omega
   go_enter Tryz.func29,Tryz.ntmps29
   go_wp2_with fail
   go_ret
   exact⟨by simp[h2],rfl⟩
  ·have h2':¬(32:Int) < (n:Int):=by omega
   go_enter Tryz.func29,Tryz.ntmps29
   go_wp2_with fail
   go_ret
   exact⟨by simp[h1,h2],rfl⟩
end Go.Proofs.YtmopichdofgndaaGreatDoor
