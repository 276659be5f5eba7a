/-
  Small lemmas without a program, copied from the guide's page of small lemmas: the row's last step, quiet regions, frames behind draws, four results.
-/
import Derived.Below
import Derived.ChangeSame
import Derived.Deep.QuietTactic
import Derived.Deep.Draws
import Derived.Deep.OwnRows
import Derived.OwnWalk
import Derived.WalkKit
import Derived.Laws.AppendOwn
import Derived.BigQuiet
namespace Go.Proofs.Ytphlnpaikpjakaa
open Go.RowKit Go.WideShapes Go.ChangeShapes

section
variable {H:Type} {enc:TypeId×Value→H} {P:Program}
theorem post_of_below {f:Func} {s:ChangeSpec} {apart fresh handsOn again:Bool} {W W':World} {args:Array Value} {v:Value} {ds gs:List (DataW H)} {before pa pv:List MemPlace}
  (hW:DataW.Whole enc P f.params.toList s.vars apart W args.toList ds gs before)
  (hres:∀(b:Nat) (sp:Nat→Bool) (hd:Bool),DataW.TrodAll enc P W' b sp hd f.resultTypes.toList (v.resultList f.resultTypes.size) (s.fn H (ds++gs)).results [])
  (hargs:∀sp:Nat→Bool,(∀p∈before,sp p.block=true)→DataW.TrodAll enc P W' 0 sp true f.params.toList args.toList (s.fn H (ds++gs)).args pa)
  (hvars:∀sp:Nat→Bool,(∀p∈before,sp p.block=true)→DataW.TrodVars enc P W' sp s.vars (s.fn H (ds++gs)).vars pv)
  (hps:before=pa++pv) (hb:Below W.heap.size W W')
  (hok:∀(j:Nat) (t:TypeId) (r:Value),f.resultTypes[j]?=some t→(v.resultList f.resultTypes.size)[j]?=some r→Value.okWide P W' .any 0 t r):
  s.post enc P f apart fresh handsOn again W args v W':=by
 have hlt:∀p∈before,p.block < W.heap.size:=fun p hp=>hW.lt p hp
 have hold:∀p∈before,(fun b=>decide (b < W.heap.size)) p.block=true:=fun p hp=>by simpa using hlt p hp
 refine⟨ds,gs,before, [],pa,pv,hW,hres _ _ _,hargs _ hold,hvars _ hold,World.keptBut_mono (fun p hp=>⟨hp,?_⟩) (hb.frame (· ∈before)),fun _=>?_⟩
 ·rw[hps,List.mem_append]at hp
  exact Or.inr hp
 ·obtain⟨_,_,_,_,_,hz,hn⟩:=hW
  refine⟨hok,_,_,([]++pa)++pv,⟨[]++pa,pv,trodAll_append (hargs _ (fun _ _=>rfl)) (hres _ _ _),hvars _ (fun _ _=>rfl),rfl,?_,?_⟩,?_⟩
  ·intro b off hp
   have hin:MemPlace.cell b off∈before:=by rw[hps];simpa using hp
   rw[hb.frozen (hlt _ hin)]
   exact hz b off hin
  ·intro ha
   have:=hn ha
   rw[hps]at this
   simpa using this
  ·intro p hp _
   rw[hps]
   simpa using hp
end

theorem quiet_left {P:Program} {f:FuncId} {args:Array Value} {w:World} {n:Nat} {v:Value}
  (h:Calls P f args (w.drewN n) fun e w'=>e= .returned v∧w.drewN n=w'):Calls P f args (w.drewN n) fun e w''=>e= .returned v∧∃m,w''=w.drewN m:=
 h.mono fun _ _ ⟨he,hm⟩=>⟨he,n,hm.symm⟩

theorem below_drewN' {B:Nat} {a w:World} (h:Below B a w) (n:Nat):Below B a (w.drewN n):=⟨h.os,h.tape,h.output,h.size,h.block⟩
theorem only_drew {a w:World} {row:Option Nat} (h:a.grownBy w row):a.grownBy w.drew row:=⟨h.os,h.tape,h.output,h.size,h.block⟩
theorem only_alloc {a w:World} {row:Option Nat} (h:a.grownBy w row) (o:Obj):a.grownBy (w.alloc o) row:=
 ⟨h.os,h.tape,h.output,Nat.le_trans h.size (by simp),fun i hi hne=>(Below.heap_alloc w o i (Nat.lt_of_lt_of_le hi h.size)).trans (h.block i hi hne)⟩
theorem only_of_below {a w:World} (h:Below a.heap.size a w) (row:Option Nat):a.grownBy w row:=⟨h.os,h.tape,h.output,h.size,fun i hi _=>h.block i hi⟩

theorem newCell (w:World) (cs:Array Value) (t:TypeId) (i:Nat):(w.alloc (.cells cs t)).cell? ⟨w.heap.size,i,none⟩=cs[i]?:=by
 simp
theorem cells2 (w:World) (c0 c1:Array Value) (t0 t1:TypeId) (i:Nat):
  ((w.alloc (.cells c0 t0)).alloc (.cells c1 t1)).cell? ⟨w.heap.size,i,none⟩=c0[i]?∧((w.alloc (.cells c0 t0)).alloc (.cells c1 t1)).cell? ⟨w.heap.size+1,i,none⟩=c1[i]?:=
 ⟨(World.cell?_alloc_lt _ _ _ (by simp)).trans (newCell _ _ _ _),by simp⟩
theorem cells4 (w:World) (c0 c1 c2 c3:Array Value) (t0 t1 t2 t3:TypeId) (i:Nat):
  ((((w.alloc (.cells c0 t0)).alloc (.cells c1 t1)).alloc (.cells c2 t2)).alloc (.cells c3 t3)).cell? ⟨w.heap.size,i,none⟩=c0[i]?∧
  ((((w.alloc (.cells c0 t0)).alloc (.cells c1 t1)).alloc (.cells c2 t2)).alloc (.cells c3 t3)).cell? ⟨w.heap.size+1,i,none⟩=c1[i]?∧
  ((((w.alloc (.cells c0 t0)).alloc (.cells c1 t1)).alloc (.cells c2 t2)).alloc (.cells c3 t3)).cell? ⟨w.heap.size+1+1,i,none⟩=c2[i]?∧
  ((((w.alloc (.cells c0 t0)).alloc (.cells c1 t1)).alloc (.cells c2 t2)).alloc (.cells c3 t3)).cell? ⟨w.heap.size+1+1+1,i,none⟩=c3[i]?:=by
 have h1:=cells2 w c0 c1 t0 t1 i
 have h2:=cells2 ((w.alloc (.cells c0 t0)).alloc (.cells c1 t1)) c2 c3 t2 t3 i
 simp only[World.size_alloc]at h2
 refine⟨?_,?_,h2.1,h2.2⟩
 ·exact((World.cell?_alloc_lt _ _ _ (by simp<;>omega)).trans (World.cell?_alloc_lt _ _ _ (by simp<;>omega))).trans h1.1
 ·exact((World.cell?_alloc_lt _ _ _ (by simp<;>omega)).trans (World.cell?_alloc_lt _ _ _ (by simp<;>omega))).trans h1.2
theorem makeF {P:Program} (fn:Fn) (first cap:Array Value) (w:World):(Instr.makeFunc fn first cap).run P w= .ok (.func fn first cap) w:=rfl
end Go.Proofs.Ytphlnpaikpjakaa

namespace Go.Proofs.Ytphlnpaikpjakaa
open Go.RowKit

structure HeldW (S:World→Prop) where
 w:World
 h:S w
theorem wp_region_held {P:Program} {id:Nat} {Q:Exit→Act→World→Prop} {a:Act} {w:World} {l:List Oper} (S:World→Prop) (hS:S w.drew) (hm:P.follows .mixedOrders =true) (hB:Region.lexB .any l.toArray=true)
  (h:wpQuiet P l.toArray (fun w'=>∃z:HeldW S,w'=z.w) (fun a'=>∀w',(∃z:HeldW S,w'=z.w)→Q .normal a' w') l a):(Code.region id l.toArray true).wp P Q a w:=
 wp_region_quiet (C:=fun w'=>∃z:HeldW S,w'=z.w) hm hB ⟨⟨w.drew,hS⟩,rfl⟩ (by simpa using h)
theorem held_call {P:Program} {f:FuncId} {args:Array Value} {S:World→Prop} {z:HeldW S} {v:Value} (h:∀W,S W→Calls P f args W fun e w'=>e= .returned v∧S w'):
  Calls P f args z.w fun e w''=>e= .returned v∧∃z':HeldW S,w''=z'.w:=
 (h z.w z.h).mono fun _ w'' ⟨he,hs⟩=>⟨he,⟨w'',hs⟩,rfl⟩
end Go.Proofs.Ytphlnpaikpjakaa
