/-
  facetroomref13.Out: the numbers of the edges out of a node.
-/
import Derived.Test.YtobegfbdedgmpaaGreatDoorJnCk3
import Derived.Laws.OwnMore
import Derived.BigQuiet
import Derived.Test.YtobegfbdedgmpaaGreatDoorJnRw
import Derived.OrdersHeld
import Derived.StillTail
import Derived.RegionTactic
import Derived.Deep.RegionHeld
import Derived.Test.YtobegfbdedgmpaaGreatDoorJgSvHas
import Derived.Laws.MakeOwn
import Derived.Deep.AppendLies
set_option linter.unusedVariables false
set_option linter.unusedSimpArgs false
namespace Go.Proofs.YtobegfbdedgmpaaGreatDoor
open Go.RowKit Go.Shelf

theorem zgK:(Tryz.prog.info? 3).map (fun i=>(i.zero,i.size,i.bytes))=some (some (.int .i64 0),1,8):=by kernel_rfl
def zcf (l:List Ed) (x:Int) (i:Nat):Bool:=match l[i]? with|some e=>e.from_==x|none=>false
def idxE (l:List Ed) (x:Int) (k:Nat):List Nat:=(List.range k).filter (zcf l x)
def zeS (l:List Nat):List Value:=l.map fun(i:Nat)=>Value.int .i64 (i:Int)
theorem zdI (l:List Ed) (x:Int) (k:Nat):idxE l x (k+1)=if zcf l x k then idxE l x k++ [k]else idxE l x k:=by
 unfold idxE
 rw[List.range_succ,List.filter_append]
 by_cases h:zcf l x k<;>simp[h]
theorem zgL (l:List Ed) (x:Int) (k:Nat):(idxE l x k).length ≤k:=by
 have:=List.length_filter_le (zcf l x) (List.range k)
 simpa[idxE]using this
theorem zen (l:List Ed) (x:Int):∀k:Nat,k≤l.length→(idxE l x k).map (fun i=>l[i]?)=(outE (l.take k) x).map some
 |0,_=>by simp[idxE,outE]
 |k+1,h=>by
  have ih:=zen l x k (by omega)
  have hk:k < l.length:=by omega
  have e1:l.take (k+1)=l.take k++ [l[k]]:=List.take_succ_eq_append_getElem hk
  rw[zdI,e1]
  have e2:zcf l x k=(l[k].from_ ==x):=by simp[zcf,List.getElem?_eq_getElem hk]
  simp only[outE]at ih ⊢
  rw[List.filter_append,e2]
  cases hq:l[k].from_ ==x
  ·simp[hq,ih]
  ·simp[hq,ih,List.getElem?_eq_getElem hk]
theorem zkm (l:List Ed) (x:Int):(idxE l x l.length).map (fun i=>l[i]?)=(outE l x).map some:=by
 have:=zen l x l.length (Nat.le_refl _)
 rwa [List.take_length]at this
theorem zkn (l:List Ed) (x:Int) (k:Nat):∀i∈idxE l x k,i < k:=fun i hi=>by
 simp[idxE]at hi;exact hi.1

theorem zfT {w:World} {base:Nat} {e:TypeId} {v:Value} {is:List Nat} (h:w.ownsRow base e 1 v is.length (zeS is)) (hlt:∀i∈is,i≤9223372036854775807):
  ∃A c,v= .slice A is.length c∧IsSl w w.heap.size (is.map fun(i:Nat)=>(i:Int)) A c:=by
 have hown:=h
 obtain⟨hl,h|⟨g,cap,cur,rfl,hb,hg,hn,hc,hs,ht⟩⟩:=h
 ·obtain⟨rfl,h0⟩:=h
  have e0:is= []:=List.length_eq_zero_iff.1 h0
  subst e0
  exact⟨none,0,rfl,by simp,by decide,by simp⟩
 ·have hgl:g < w.heap.size:=by
   rcases Nat.lt_or_ge g w.heap.size with h|h
   ·exact h
   ·rw[Array.getElem?_eq_none h]at hg;exact absurd hg (by simp)
  refine⟨some ⟨g,0,none⟩,cap,rfl,by simpa using hn,by simpa[maxLen]using hc,fun _=>⟨g,0,rfl,hgl,fun i n hi=>?_⟩⟩
  rw[List.getElem?_map]at hi
  cases hx:is[i]? with
  |none=>rw[hx]at hi;simp at hi
  |some j=>
   rw[hx]at hi
   simp at hi
   subst hi
   obtain⟨hil,hxe⟩:=List.getElem?_eq_some_iff.1 hx
   have hc:=hown.cellAt i (by simpa using hil)
   refine⟨?_,?_⟩
   ·rw[Nat.zero_add,hc,zeS,List.getElem?_map,hx];rfl
   ·have:=hlt j (List.mem_of_getElem? hx)
    unfold in64;omega

theorem zko {l:List Ed} {x y:Int} {e:Ed} (h:outE l y= [e]) (f:Nat):walkR l x y (f+1)=if e.kind=1 then if e.to_=x then true else walkR l x e.to_ f else false:=by
 simp[walkR,h]

open Go.RowKit

section
variable {P:Program} {Q:Exit→Act→World→Prop} {md:Region.Mode} {S:World→Prop} {n:Nat}
def wpF (P:Program) (md:Region.Mode) (ops:Array Oper) (Q:Exit→Act→World→Prop) (S:World→Prop) (n:Nat):Nat→Array Bool→Act→World→Prop
 |0,listed,a,w=>Region.ready md ops listed= []∧Q .normal a w
 |f+1,listed,a,w=>(Region.ready md ops listed= []→Q .normal a w)∧
   ∀i∈Region.ready md ops listed,wpOp P ops Q i (fun a' w'=>(i < n→S w')∧wpF P md ops Q S n f (listed.setIfInBounds i true) a' w') a w
theorem wpF.any {ops:Array Oper}:∀(f:Nat) (listed:Array Bool) (a:Act) (w:World),wpF P md ops Q S n f listed a w→wpAny P md ops Q f listed a w
 |0,_,_,_,h=>h
 |f+1,_,_,_,h=>⟨h.1,fun i hi=>wpOp_mono (fun a' w' h'=>wpF.any f _ a' w' h'.2) (h.2 i hi)⟩
def znA (md:Region.Mode) (ops:Array Oper) (n i:Nat):Bool:=(List.range ops.size).all fun j=>decide (j < n) || j==i || Region.waitsFor md ops j i
theorem zis {ops:Array Oper} {i j:Nat} {oj:Oper} (h:znA md ops n i=true) (hj:ops[j]?=some oj) (hne:j≠i) (hno:∀e∈oj.after,Region.binds md e=true→e.on≠i):j < n:=by
 have h1:=List.all_eq_true.1 h j (List.mem_range.2 (Array.getElem?_eq_some_iff.1 hj).1)
 simp only[Bool.or_eq_true,decide_eq_true_eq,beq_iff_eq]at h1
 rcases h1 with(h1|h1)|h1
 ·exact h1
 ·exact absurd h1 hne
 ·obtain⟨oj',hoj,e,he,hb,hon⟩:=Region.waitsFor_spec h1
  rw[hj]at hoj
  cases hoj
  exact absurd hon (hno e he hb)
theorem zkp {ops:Array Oper} {i:Nat} {oi:Oper} {v:Value} (hi:ops[i]?=some oi) (hs:Region.noSelect ops=true) (hQ:∀c a w,Q (.panic c) (a.put oi.dst v) w→Q (.panic c) a w) (hl:znA md ops n i=true):
  ∀(f:Nat) (listed:Array Bool) (a:Act) (w:World),(∀j oj,ops[j]?=some oj→j≠i→listed.getD j true=false→(∀e∈oj.after,Region.binds md e=true→e.on≠i)→oi.apart ops oj=true)→
   i∈Region.ready md ops listed→YieldsIf P ops S oi v a→S w→wpF P md ops Q S n f (listed.setIfInBounds i true) (a.put oi.dst v) w→wpF P md ops Q S n (f+1) listed a w:=by
 intro f
 induction f with
 |zero=>
  intro listed a w hfree hr hy hS H
  refine⟨fun h=>by rw[h]at hr;simp at hr,fun j hj=>?_⟩
  by_cases hji:j=i
  ·subst hji
   exact hy.wpOp hi hS ⟨fun _=>hS,H⟩
  ·have h1:=ready_mono hj hji
   rw[H.1]at h1
   simp at h1
 |succ f ih=>
  intro listed a w hfree hr hy hS H
  refine⟨fun h=>by rw[h]at hr;simp at hr,fun j hj=>?_⟩
  by_cases hji:j=i
  ·subst hji
   exact hy.wpOp hi hS ⟨fun _=>hS,H⟩
  ·have h1:=H.2 j (ready_mono hj hji)
   obtain⟨hun,oj,hoj,hall⟩:=mem_ready.1 hj
   have hno:∀e∈oj.after,Region.binds md e=true→e.on≠i:=fun e he hb heq=>by
    have g1:=hall e he hb
    have g0:=(mem_ready.1 hr).1
    rw[heq]at g1
    rcases Nat.lt_or_ge i listed.size with h'|h'
    ·simp[h']at g0 g1;rw[g0]at g1;simp at g1
    ·simp[Array.getElem?_eq_none h']at g1
   have hjn:=zis hl hoj hji hno
   have hsel:=Region.noSelect_spec hs
   have h2:=wpOp_putIf hoj (hfree j oj hoj hji hun hno) (fun cs b=>hsel i oi cs b hi) (fun cs b=>hsel j oj cs b hoj) hQ hy h1
   refine wpOp_mono (fun a' w' h3=>⟨h3.2.1,ih (listed.setIfInBounds j true) a' w' (fun k ok hk hki hku hkn=>?_) (ready_mono hr (Ne.symm hji)) h3.1 (h3.2.1 hjn) ?_⟩) h2
   ·refine hfree k ok hk hki ?_ hkn
    by_cases hjk:j=k
    ·subst hjk;exact hun
    ·rwa [getD_set_ne true hjk]at hku
   ·rw[Array.setIfInBounds_comm _ _ hji]
    exact h3.2.2
theorem zcV {α:Type} {l:List α} {i:Nat} {x:α} {r:List α} (h:l.drop i=x::r):l.toArray[i]?=some x:=by
 have:=congrArg List.head? h
 simpa using this
theorem zaa {l:List Oper} (i:Nat) {oi:Oper} {r:List Oper} {v:Value} {f:Nat} {listed:Array Bool} {a:Act} {w:World} (hi:l.drop i=oi::r) (hs:Region.noSelect l.toArray=true) (hf:Region.free md l.toArray listed i=true) (hr:(Region.ready md l.toArray listed).contains i=true) (hl:znA md l.toArray n i=true)
  (hQ:∀c a w,Q (.panic c) (a.put oi.dst v) w→Q (.panic c) a w) (hS:S w) (hw:Region.wanted oi (yielded l.toArray a.tmps)=true) (hy:∀w,S w→(execOp a.eval oi).run P w= .ok (.value v) w)
  (h:wpF P md l.toArray Q S n f (listed.setIfInBounds i true) (a.put oi.dst v) w):wpF P md l.toArray Q S n (f+1) listed a w:=
 zkp (zcV hi) hs hQ hl f listed a w (Region.free_spec (zcV hi) hf) (by simpa using hr) (.inl ⟨hw,hy⟩) hS h
theorem zaf {l:List Oper} (i:Nat) {oi:Oper} {r:List Oper} {f:Nat} {listed:Array Bool} {a:Act} {w:World} (hi:l.drop i=oi::r) (hr:Region.ready md l.toArray listed= [i])
  (h:∀K':Act→World→Prop,Shut (∀a w,S w→wpF P md l.toArray Q S n f (listed.setIfInBounds i true) a w→K' a w)→if Region.wanted oi (yielded l.toArray a.tmps)=true then Oper.wp P oi a w K' Q else K' (a.put oi.dst undef) w):wpF P md l.toArray Q S n (f+1) listed a w:=by
 refine⟨fun h0=>by rw[hr]at h0;simp at h0,fun j hj=>?_⟩
 rw[hr]at hj
 have hj:j=i:=by simpa using hj
 subst hj
 exact wpOp_step (zcV hi) fun K' hK=>h K' fun a w hS hW=>hK a w ⟨fun _=>hS,hW⟩
theorem zho {l:List Oper} (i:Nat) {oi:Oper} {r:List Oper} {f:Nat} {listed:Array Bool} {a:Act} {w:World} (hi:l.drop i=oi::r) (hr:Region.ready md l.toArray listed= [i]) (hn:n≤i)
  (h:∀K':Act→World→Prop,Shut (∀a w,wpF P md l.toArray Q S n f (listed.setIfInBounds i true) a w→K' a w)→if Region.wanted oi (yielded l.toArray a.tmps)=true then Oper.wp P oi a w K' Q else K' (a.put oi.dst undef) w):wpF P md l.toArray Q S n (f+1) listed a w:=by
 refine⟨fun h0=>by rw[hr]at h0;simp at h0,fun j hj=>?_⟩
 rw[hr]at hj
 have hj:j=i:=by simpa using hj
 subst hj
 exact wpOp_step (zcV hi) fun K' hK=>h K' fun a w hW=>hK a w ⟨fun hlt=>absurd hlt (by omega),hW⟩
theorem za3 {ops:Array Oper} {f:Nat} {listed:Array Bool} {a:Act} {w:World} (hr:Region.ready md ops listed= []) (h:Q .normal a w):wpF P md ops Q S n f listed a w:=by
 cases f with
 |zero=>exact⟨hr,h⟩
 |succ f=>exact⟨fun _=>h,fun i hi=>by rw[hr]at hi;simp at hi⟩
theorem zaE {id:Nat} {l:List Oper} {a:Act} {w:World} (S:World→Prop) (n:Nat) (hm:P.follows .mixedOrders =true) (hS:S w.drew) (h:S w.drew→wpF P .any l.toArray Q S n l.length (Array.replicate l.length false) a w.drew):(Code.region id l.toArray true).wp P Q a w:=
 wp_region_any hm (by
  have:=wpF.any _ _ _ _ (h hS)
  simpa using this)
end
end Go.Proofs.YtobegfbdedgmpaaGreatDoor

namespace Go.Proofs.YtobegfbdedgmpaaGreatDoor
open Go.RowKit Go.Shelf

theorem znB:(Tryz.prog.info? 37).map (fun i=>(i.zero,i.size,i.bytes))=some (some (.slice none 0 0),1,24):=by kernel_rfl
def zbX (n:Nat):List Int:=List.replicate n 0
theorem zmu (n:Nat) (hn:n≤100000) (w:World):(Instr.makeSlice 37 (.int .i64 n) (.int .i64 n)).run Tryz.prog w= .ok (.slice (some ⟨w.heap.size,0,none⟩) n n) (w.alloc (.cells (intL (zbX n)).toArray 3)):=by
 obtain⟨i0,hi,hz0,hz1,hz2⟩:=info_parts zgK
 have h:=run_makeSlice (P:=Tryz.prog) w 37 3 i0 (.int .i64 0) Tryz.underlying37 hi hz0 .i64 .i64 (n:Int) n (by omega) (Int.le_refl _) (by rw[hz1];simp;omega) (by rw[hz2];omega) (by omega)
 simp only[Int.toNat_natCast,hz1,Nat.mul_one]at h
 have e:madeCells (Value.int .i64 0).cells n=(intL (zbX n)).toArray :=by
  apply Array.ext
  ·simp[size_madeCells,intL,zbX]
  ·intro j h1 h2
   have e1:j % 1=0:=Nat.mod_one j
   simp[madeCells,intL,zbX,Value.cells,e1]
 rw[e]at h
 exact h
def begA (g:List Int):List (List Int):=g.map fun n=>zbX n.toNat
theorem Fr.backT {T:Nat→Prop} {a b c:World} (h:Fr T a b) (k:Fr (fun x=>a.heap.size≤x) b c):Fr T a c:=
 ⟨k.os.trans h.os,k.tape.trans h.tape,k.output.trans h.output,Nat.le_trans h.size k.size,fun i hi ht=>(k.block i (Nat.lt_of_lt_of_le hi h.size) (by omega)).trans (h.block i hi ht)⟩
theorem zbY (n:Nat):(zbX n).length =n:=by simp[zbX]

theorem zbZ (w:World) (c0 c1:Array Value) (t0 t1:TypeId):Bk ((w.alloc (.cells c0 t0)).alloc (.cells c1 t1)) w.heap.size t0 c0∧Bk ((w.alloc (.cells c0 t0)).alloc (.cells c1 t1)) (w.heap.size+1) t1 c1:=
 ⟨(Bk.new _ _ _).alloc _,Bk.new_at _ _ _ (by simp)⟩
end Go.Proofs.YtobegfbdedgmpaaGreatDoor

