/-
  Marks of loops over an iterator: a function that has gone through many leaves with as many. No program of its own.
-/
import Derived.Test.YtphlnpaikpjakaaPkState
set_option linter.unusedVariables false
set_option linter.unusedSimpArgs false
namespace Go.Proofs.Ytphlnpaikpjakaa
open Go.RowKit Go.Shelf

structure Mks (B:Nat) (w:World) (ds:List Deferred):Prop where
 ex:∃Ds:List Nat,ds=Ds.map (fun D=>({target:= .collected D,args:= #[]}:Deferred))∧Ds.Nodup∧∀D∈Ds,B≤D∧w.heap[D]?=some (.deferred (some []))
theorem Mks.nil (B:Nat) (w:World):Mks B w []:=⟨[],rfl,List.nodup_nil,fun D h=>by simp at h⟩
def OthK (w w':World):Prop:=∀(k:Nat) (o:Obj),w.heap[k]?=some o→o.isCells=false→w'.heap[k]?=some o
theorem OthK.alloc (w:World) (o:Obj):OthK w (w.alloc o):=fun k o' h _=>(Below.heap_alloc w o k (Array.getElem?_eq_some_iff.1 h).1).trans h
theorem OthK.fr {T:Nat→Prop} {w w':World} (hf:Fr T w w') (hT:∀k,T k→∃cs t fr,w.heap[k]?=some (.cells cs t fr)):OthK w w':=fun k o h ho=>by
 have hlt:=(Array.getElem?_eq_some_iff.1 h).1
 refine(hf.block k hlt fun ht=>?_).trans h
 obtain⟨cs,t,fr,e⟩:=hT k ht
 rw[h]at e
 cases e
 cases ho
theorem OthK.below {w w':World} (h:Below w.heap.size w w'):OthK w w':=fun k o hk _=>(h.block k (Array.getElem?_eq_some_iff.1 hk).1).trans hk
theorem Mks.keep {B:Nat} {w w':World} {ds:List Deferred} (h:Mks B w ds) (hk:OthK w w'):Mks B w' ds:=by
 obtain⟨Ds,e,hn,hD⟩:=h.ex
 exact⟨Ds,e,hn,fun D hm=>⟨(hD D hm).1,hk D _ (hD D hm).2 rfl⟩⟩
theorem Mks.more {B:Nat} {w:World} {ds:List Deferred} (h:Mks B w ds) {D:Nat} (hB:B≤D) (hD:w.heap[D]?=some (.deferred (some []))) (hn:∀d∈ds,d.target≠ .collected D):Mks B w ({target:= .collected D,args:= #[]}::ds):=by
 obtain⟨Ds,e,hnd,hDs⟩:=h.ex
 refine⟨D::Ds,by rw[e];rfl,List.nodup_cons.2 ⟨fun hm=>?_,hnd⟩,fun D' hm=>?_⟩
 ·exact hn {target:= .collected D,args:= #[]} (by rw[e];exact List.mem_map.2 ⟨D,hm,rfl⟩) rfl
 ·rcases List.mem_cons.1 hm with rfl|hm
  ·exact⟨hB,hD⟩
  ·exact hDs D' hm
theorem Mks.lt {B:Nat} {w:World} {ds:List Deferred} (h:Mks B w ds) {D:Nat} (hD:w.heap.size≤D):∀d∈ds,d.target≠ .collected D:=fun d hd e=>by
 obtain⟨Ds,e1,_,hDs⟩:=h.ex
 rw[e1]at hd
 obtain⟨D',hm,rfl⟩:=List.mem_map.1 hd
 cases e
 have:=(Array.getElem?_eq_some_iff.1 (hDs _ hm).2).1
 omega
def CelK (w w':World):Prop:=∀(k:Nat) (cs:Array Value) (t:TypeId) (fr:Nat×Nat),w.heap[k]?=some (.cells cs t fr)→w'.heap[k]?=some (.cells cs t fr)
theorem CelK.cell {w w':World} (h:CelK w w') {b j:Nat} {v:Value} (hc:w.cell? ⟨b,j,none⟩=some v):w'.cell? ⟨b,j,none⟩=some v:=by
 have hlt:=World.block_lt_of_cell? w ⟨b,j,none⟩ hc
 obtain⟨o,ho⟩:∃o,w.heap[b]?=some o:=⟨_,Array.getElem?_eq_getElem hlt⟩
 cases o with
 |cells cs t fr=>exact(World.cell?_of_block (w:=w) (w':=w') (a:=⟨b,j,none⟩) ((h b cs t fr ho).trans ho.symm)).trans hc
 |_=>simp[World.cell?,ho]at hc
theorem LsM.cells {w w':World} {B B':Nat} {ls:List (List Int)} {v:Value} (h:LsM w B ls v) (hB:B≤B') (hk:CelK w w'):LsM w' B' ls v:=by
 obtain⟨A,c,e,h1,h2,h3⟩:=h
 refine⟨A,c,e,h1,h2,fun hp=>?_⟩
 obtain⟨b,o,e2,hb,hs⟩:=h3 hp
 refine⟨b,o,e2,ltq hb hB,fun i l hi=>?_⟩
 obtain⟨A',c',h4,h5⟩:=hs i l hi
 refine⟨A',c',hk.cell h4,h5.1,h5.2.1,fun hp'=>?_⟩
 obtain⟨b',o',e3,hb',ha⟩:=h5.2.2 hp'
 exact⟨b',o',e3,ltq hb' hB,fun j x hj=>⟨hk.cell (ha j x hj).1,(ha j x hj).2⟩⟩
theorem leaves_marks {n:Nat} {fn:Func} {tmps:Array Value} {R:Ending→World→Prop} {B:Nat}:∀ {ds:List Deferred} {w:World},Mks B w ds→B≤w.heap.size→
  (∀w',Below B w w'→w'.heap.size=w.heap.size→CelK w w'→∃v,(results fn tmps).run Try.prog w'= .ok v w'∧R (.returned v) w')→LeavesInM Fence.wide n Try.prog fn tmps R ds .returning w
 | [],w,_,_,h=>h w (Below.refl _ _) rfl (fun _ _ _ _ h=>h)
 |d::ds,w,hm,hB,h=>by
  obtain⟨Ds,e,hn,hD⟩:=hm.ex
  cases Ds with
  |nil=>cases e
  |cons D Ds=>
   simp only[List.map_cons,List.cons.injEq]at e
   obtain⟨rfl,rfl⟩:=e
   obtain⟨hDB,hDw⟩:=hD D (List.mem_cons_self ..)
   have hb:Below B w (w.putObj D (.deferred none)):=(Below.refl B w).grown (grownBy_putObj' w D _) hB (fun k e=>by cases e;exact hDB)
   have hc:CelK w (w.putObj D (.deferred none)):=fun k cs t fr hk=>(World.putObj_heap_other (fun e=>by subst e;rw[hDw]at hk;cases hk)).trans hk
   refine⟨by simp,.inl ⟨D,_,rfl,run_takeDeferred hDw,?_⟩⟩
   refine leaves_marks ⟨Ds,rfl,(List.nodup_cons.1 hn).2,fun D' hm'=>⟨(hD D' (List.mem_cons_of_mem _ hm')).1,?_⟩⟩ (by simpa using hB) fun w' h1 h2 h3=>h w' (hb.trans h1) (by simpa using h2) (fun k cs t fr hk=>h3 k cs t fr (hc k cs t fr hk))
   exact(World.putObj_heap_other (fun e=>by subst e;exact(List.nodup_cons.1 hn).1 hm')).trans (hD D' (List.mem_cons_of_mem _ hm')).2

structure PkE (w4:World) (H ob v:Nat) (P:List (List Int)) (ds:List Deferred) (w:World):Prop where
 pm:PkM w H ob v P
 fr:Fr (fun i=>i=ob) w4 w
 mks:Mks w4.heap.size w ds
 sz:H≤w.heap.size
 h4:w4.heap.size≤H
theorem PkE.alloc {w4 w:World} {H ob v:Nat} {P:List (List Int)} {ds:List Deferred} (h:PkE w4 H ob v P ds w) (o:Obj):PkE w4 H ob v P ds (w.alloc o):=
 ⟨h.pm.keep ((Below.refl H w).alloc h.sz o),h.fr.alloc o,h.mks.keep (OthK.alloc w o),by have:=h.sz;simp;omega,h.h4⟩
theorem PkE.setC {w4 w:World} {H ob v:Nat} {P:List (List Int)} {ds:List Deferred} (h:PkE w4 H ob v P ds w) {tb:Nat} (j:Nat) (htb:H≤tb) (hc:∃cs t fr,w.heap[tb]?=some (.cells cs t fr)) (y:Value):PkE w4 H ob v P ds (w.setCell ⟨tb,j,none⟩ y):=
 ⟨h.pm.keep ((Below.refl H w).setCell (p:=⟨tb,j,none⟩) htb y),h.fr.setCell (p:=⟨tb,j,none⟩) (Or.inr (leq9 h.h4 htb)) y,
  h.mks.keep (OthK.fr (T:=fun k=>k=tb) ((Fr.refl _ _).own j y) (fun k e=>by subst e;exact hc)),by have:=h.sz;simpa using this,h.h4⟩
theorem PkE.grown {w4 w w':World} {H ob v:Nat} {P:List (List Int)} {ds:List Deferred} (h:PkE w4 H ob v P ds w) {g:Nat} (hg:w.grownBy w' (some g)) (hH:H≤g) (hc:∃cs t fr,w.heap[g]?=some (.cells cs t fr)):PkE w4 H ob v P ds w':=
 ⟨h.pm.keep ((Below.refl H w).grown hg h.sz fun k e=>by cases e;exact hH),
  ⟨hg.os.trans h.fr.os,hg.tape.trans h.fr.tape,hg.output.trans h.fr.output,leq9 h.fr.size hg.size,fun i hi hn=>(hg.block i (ltq hi h.fr.size) fun e=>by cases e;have:=h.h4;omega).trans (h.fr.block i hi hn)⟩,
  h.mks.keep (OthK.fr (T:=fun k=>k=g) (Fr.grown hg fun k e _=>by cases e;rfl) (fun k e=>by subst e;exact hc)),leq9 h.sz hg.size,h.h4⟩
theorem PkE.put {w4 w:World} {H ob v i b g c:Nat} {P Q:List (List Int)} {l:List Int} {ds:List Deferred} (h:PkE w4 H ob v P ds w) (hi:i < v) (hQ:Q.length≤v) (hq:∀(j:Nat) (l':List Int),Q[j]?=some l'→(j=i∧l'=l)∨(j≠i∧P[j]?=some l'))
  (hb:b < H) (hbo:b≠ob) (h0:w.cell? ⟨b,0,none⟩=some (.slice (some ⟨g,0,none⟩) l.length c)) (hgo:g≠ob) (hgH:g < H) (hlc:l.length≤c) (hc:c≤9223372036854775807) (hl:∀(j:Nat) (x:Int),l[j]?=some x→w.cell? ⟨g,j,none⟩=some (.int .i64 x)∧in64 x):
  PkE w4 H ob v Q ds (w.setCell ⟨ob,i,none⟩ (.pointer (some ⟨b,0,none⟩))):=
 ⟨h.pm.put hi hQ hq hb hbo h0 hgo hgH hlc hc hl,h.fr.own i _,h.mks.keep (OthK.fr (T:=fun k=>k=ob) ((Fr.refl _ _).own i _) (fun k e=>by subst e;obtain⟨cs,_,hB⟩:=h.pm.blk;exact⟨_,_,_,hB⟩)),by have:=h.sz;simpa using this,h.h4⟩
theorem PkE.rise {w4 w:World} {H H' ob v:Nat} {P:List (List Int)} {ds:List Deferred} (h:PkE w4 H ob v P ds w) (h1:H≤H') (h2:H'≤w.heap.size):PkE w4 H' ob v P ds w:=
 ⟨h.pm.rise h1,h.fr,h.mks,h2,leq9 h.h4 h1⟩
theorem PkE.out {w4 w:World} {H ob v:Nat} {P:List (List Int)} {ds:List Deferred} (h:PkE w4 H ob v P ds w):PkM w w.heap.size ob v P∧Fr (fun i=>i=ob) w4 w∧Mks w4.heap.size w ds:=
 ⟨h.pm.rise h.sz,h.fr,h.mks⟩
end Go.Proofs.Ytphlnpaikpjakaa
