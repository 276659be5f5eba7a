/- A region that draws its order, whose last operations wait for all others, and may write what the others read: walked in one order. -/
import Derived.Test.YtmopichdofgndaaGreatDoorJnRw
import Derived.OrdersHeld
import Derived.StillTail
import Derived.RegionTactic
import Derived.Deep.RegionHeld
set_option linter.all false
namespace Go.Proofs.YtmopichdofgndaaGreatDoor
open Go.RowKit
section
variable {P:Program} {Q:Exit->Act->World->Prop} {md:Region.Mode} {S:World->Prop} {n:Nat}
def wpF (P:Program)(md:Region.Mode)(ops:Array Oper)(Q:Exit->Act->World->Prop)(S:World->Prop)(n:Nat):Nat->Array Bool->Act->World->Prop
 |0,listed,a,w=>Region.ready md ops listed= []/\Q .normal a w
 |f+1,listed,a,w=>(Region.ready md ops listed= []->Q .normal a w)/\
   ∀i∈Region.ready md ops listed,wpOp P ops Q i (λa' w'=>(i < n->S w')/\wpF P md ops Q S n f (listed.setIfInBounds i true) a' w') a w
theorem wpF.any {ops:Array Oper}:∀(f:Nat)(listed:Array Bool)(a:Act)(w:World),wpF P md ops Q S n f listed a w->wpAny P md ops Q f listed a w
 |0,_,_,_,h=>h
 |f+1,_,_,_,h=>⟨h.1,λi hi=>wpOp_mono (λa' w' h'=>wpF.any f _ a' w' h'.2) (h.2 i hi)⟩
def zmG (md:Region.Mode)(ops:Array Oper)(n i:Nat):Bool:=(List.range ops.size).all λj=>decide (j < n) || j==i || Region.waitsFor md ops j i
theorem zh7 {ops:Array Oper}{i j:Nat}{oj:Oper}(h:zmG md ops n i=true)(hj:ops[j]?=some oj)(GU:j≠i)(PA:∀e∈oj.after,Region.binds md e=true->e.on≠i):j < n:=by
 have h1:=List.all_eq_true.1 h j (List.mem_range.2 (Array.getElem?_eq_some_iff.1 hj).1);simp only[Bool.or_eq_true,decide_eq_true_eq,beq_iff_eq]at h1;rcases h1 with(h1|h1)|h1
 ·exact h1
 ·exact absurd h1 GU
 ·obtain⟨oj',Kh,e,he,hb,Wo⟩:=Region.waitsFor_spec h1;rw[hj]at Kh;cases Kh;exact absurd Wo (PA e he hb)
theorem zjH {ops:Array Oper}{i:Nat}{oi:Oper}{v:Value}(hi:ops[i]?=some oi)(hs:Region.noSelect ops=true)(hQ:∀c a w,Q (.panic c) (a.put oi.dst v) w->Q (.panic c) a w)(hl:zmG md ops n i=true):
  ∀(f:Nat)(listed:Array Bool)(a:Act)(w:World),(∀j oj,ops[j]?=some oj->j≠i->listed.getD j true=false->(∀e∈oj.after,Region.binds md e=true->e.on≠i)->oi.apart ops oj=true)->
   i∈Region.ready md ops listed->YieldsIf P ops S oi v a->S w->wpF P md ops Q S n f (listed.setIfInBounds i true) (a.put oi.dst v) w->wpF P md ops Q S n (f+1) listed a w:=by
 intro f
 induction f with
 |zero=>
  intro listed a w Jk hr hy hS H;refine⟨λh=>by rw[h]at hr;simp at hr,λj hj=>?_⟩;by_cases JQ:j=i
  ·subst JQ;exact hy.wpOp hi hS ⟨λ_=>hS,H⟩
  ·have h1:=ready_mono hj JQ;rw[H.1]at h1;simp at h1
 |succ f ih=>
  intro listed a w Jk hr hy hS H;refine⟨λh=>by rw[h]at hr;simp at hr,λj hj=>?_⟩;by_cases JQ:j=i
  ·subst JQ;exact hy.wpOp hi hS ⟨λ_=>hS,H⟩
  ·have h1:=H.2 j (ready_mono hj JQ);obtain⟨RD,oj,Kh,Ha⟩:=mem_ready.1 hj;have PA:∀e∈oj.after,Region.binds md e=true->e.on≠i:=λe he hb heq=>by
    have g1:=Ha e he hb;have g0:=(mem_ready.1 hr).1;rw[heq]at g1;rcases Nat.lt_or_ge i listed.size with h'|h'
    ·simp[h']at g0 g1;rw[g0]at g1;simp at g1
    ·simp[Array.getElem?_eq_none h']at g1
   have YC:=zh7 hl Kh JQ PA;have J5:=Region.noSelect_spec hs;have h2:=wpOp_putIf Kh (Jk j oj Kh JQ RD PA) (λcs b=>J5 i oi cs b hi) (λcs b=>J5 j oj cs b Kh) hQ hy h1;refine wpOp_mono (λa' w' h3=>⟨h3.2.1,ih (listed.setIfInBounds j true) a' w' (λk ok hk RE Ta Wp=>?_) (ready_mono hr (Ne.symm JQ)) h3.1 (h3.2.1 YC) ?_⟩) h2
   ·refine Jk k ok hk RE ?_ Wp;by_cases NM:j=k
    ·subst NM;exact RD
    ·rwa [getD_set_ne true NM]at Ta
   ·rw[Array.setIfInBounds_comm _ _ JQ];exact h3.2.2
theorem zfc {α:Type}{l:List α}{i:Nat}{x:α}{r:List α}(h:l.drop i=x::r):l.toArray[i]?=some x:=by
 have:=congrArg List.head? h;simpa using this
theorem zaq {l:List Oper}(i:Nat){oi:Oper}{r:List Oper}{v:Value}{f:Nat}{listed:Array Bool}{a:Act}{w:World}(hi:l.drop i=oi::r)(hs:Region.noSelect l.toArray=true)(hf:Region.free md l.toArray listed i=true)(hr:(Region.ready md l.toArray listed).contains i=true)(hl:zmG md l.toArray n i=true)
  (hQ:∀c a w,Q (.panic c) (a.put oi.dst v) w->Q (.panic c) a w) (hS:S w) (hw:Region.wanted oi (yielded l.toArray a.tmps)=true) (hy:∀w,S w->(execOp a.eval oi).run P w= .ok (.value v) w)
  (h:wpF P md l.toArray Q S n f (listed.setIfInBounds i true) (a.put oi.dst v) w):wpF P md l.toArray Q S n (f+1) listed a w:=
 zjH (zfc hi) hs hQ hl f listed a w (Region.free_spec (zfc hi) hf) (by simpa using hr) (.inl ⟨hw,hy⟩) hS h
theorem zb8 {l:List Oper}(i:Nat){oi:Oper}{r:List Oper}{f:Nat}{listed:Array Bool}{a:Act}{w:World}(hi:l.drop i=oi::r)(hr:Region.ready md l.toArray listed= [i])
  (h:∀K':Act->World->Prop,Shut (∀a w,S w->wpF P md l.toArray Q S n f (listed.setIfInBounds i true) a w->K' a w)->if Region.wanted oi (yielded l.toArray a.tmps)=true then Oper.wp P oi a w K' Q else K' (a.put oi.dst undef) w):wpF P md l.toArray Q S n (f+1) listed a w:=by
 refine⟨λh0=>by rw[hr]at h0;simp at h0,λj hj=>?_⟩;rw[hr]at hj;have hj:j=i:=by simpa using hj
 subst hj;exact wpOp_step (zfc hi) λK' hK=>h K' λa w hS hW=>hK a w ⟨λ_=>hS,hW⟩
theorem zde {l:List Oper}(i:Nat){oi:Oper}{r:List Oper}{f:Nat}{listed:Array Bool}{a:Act}{w:World}(hi:l.drop i=oi::r)(hr:Region.ready md l.toArray listed= [i])(hn:n<=i)
  (h:∀K':Act->World->Prop,Shut (∀a w,wpF P md l.toArray Q S n f (listed.setIfInBounds i true) a w->K' a w)->if Region.wanted oi (yielded l.toArray a.tmps)=true then Oper.wp P oi a w K' Q else K' (a.put oi.dst undef) w):wpF P md l.toArray Q S n (f+1) listed a w:=by
 refine⟨λh0=>by rw[hr]at h0;simp at h0,λj hj=>?_⟩;rw[hr]at hj;have hj:j=i:=by simpa using hj
 subst hj;exact wpOp_step (zfc hi) λK' hK=>h K' λa w hW=>hK a w ⟨λHr=>absurd Hr (by omega),hW⟩
theorem zhj {ops:Array Oper}{f:Nat}{listed:Array Bool}{a:Act}{w:World}(hr:Region.ready md ops listed= [])(h:Q .normal a w):wpF P md ops Q S n f listed a w:=by
 cases f with
 |zero=>exact⟨hr,h⟩
 |succ f=>exact⟨λ_=>h,λi hi=>by rw[hr]at hi;simp at hi⟩
theorem zdR {id:Nat}{l:List Oper}{a:Act}{w:World}(S:World->Prop)(n:Nat)(hm:P.follows .mixedOrders =true)(hS:S w.drew)(h:S w.drew->wpF P .any l.toArray Q S n l.length (Array.replicate l.length false) a w.drew):(Code.region id l.toArray true).wp P Q a w:=
 wp_region_any hm (by
  have:=wpF.any _ _ _ _ (h hS);simpa using this)
end
