/-
  order.walk: its state in memory.
-/
import Derived.Test.YtmfioehnhjjgpaaGreatDoorJgOrMap
import Derived.Sort.OwnSortedInts
set_option linter.unusedVariables false
set_option linter.unusedSimpArgs false
namespace Go.Proofs.YtmfioehnhjjgpaaGreatDoor
open Go.RowKit Go.Shelf Go.Maps

structure OwR where
 n:Int
 l:List Int
 A:Option Addr
 c:Nat
def OwR.cells (r:OwR):List Value:= [.int .i64 r.n,.slice r.A r.l.length r.c]
def OwR.of (r:OwR):Int×List Int:=(r.n,r.l)
def owayC (rs:List OwR):List Value:=rs.reverse.flatMap OwR.cells
theorem owayC_len (rs:List OwR):(owayC rs).length =rs.length*2:=by
 unfold owayC
 induction rs with
 |nil=>rfl
 |cons r rs ih=>simp[OwR.cells]at ih ⊢;omega
theorem owayC_cons (r:OwR) (rs:List OwR):owayC (r::rs)=owayC rs++r.cells:=by simp[owayC]
def onumB (l:List Int) (x:Int):Value:= .int .i64 (if x∈l then 1 else 0)
structure WkC where
 wB:World
 bc:Nat
 bd:Nat
 bh:Nat
 L:Nat
structure WkC.Ok (C:WkC):Prop where
 c:C.wB.heap.size≤C.bc
 d:C.wB.heap.size≤C.bd
 h:C.wB.heap.size≤C.bh
 cd:C.bc≠C.bd
 ch:C.bc≠C.bh
 dh:C.bd≠C.bh
 cL:C.bc < C.L
 dL:C.bd < C.L
 hL:C.bh < C.L
structure WkS (C:WkC) (w:World) (N:Nat) (wv lv:Value) (cs ds hs l:List Int) (rs:List OwR):Prop where
 come:ZM w C.bc N (.int .i64 0) (onumB cs) (fun x=>x∈cs)
 done:ZM w C.bd N (.int .i64 0) (onumB ds) (fun x=>x∈ds)
 heads:ZM w C.bh N (.bool false) (fun x=> .bool (decide (x∈hs))) (fun x=>x∈hs)
 way:w.ownsRow C.L 155 2 wv rs.length (owayC rs)
 sl:∀r∈rs,in64 r.n∧IsSl C.wB C.wB.heap.size r.l r.A r.c
 list:w.ownsRow C.L 3 1 lv l.length (intC l)
 apart:lv.ownBlock=none∨lv.ownBlock≠wv.ownBlock
 below:Below C.wB.heap.size C.wB w
 L:C.L≤w.heap.size

section
variable {C:WkC} {w w':World} {N:Nat} {wv lv:Value} {cs ds hs l:List Int} {rs:List OwR}
theorem WkS.grow0 (h:WkS C w N wv lv cs ds hs l rs) (hg:w.grownBy w' none):WkS C w' N wv lv cs ds hs l rs:=
 ⟨h.come.kept hg (by simp),h.done.kept hg (by simp),h.heads.kept hg (by simp),h.way.kept hg (by cases wv.ownBlock<;>simp),h.sl,h.list.kept hg (by cases lv.ownBlock<;>simp),h.apart,
  h.below.grown hg h.below.size (fun g e=>by simp at e),Nat.le_trans h.L hg.size⟩
theorem row_ne {t:TypeId} {s n:Nat} {v:Value} {xs:List Value} {b L:Nat} (h:w.ownsRow L t s v n xs) (hb:b < L):v.ownBlock=none∨v.ownBlock≠some b:=by
 cases hv:v.ownBlock with
 |none=>exact .inl rfl
 |some g=>exact .inr fun e=>by have:=(h.lt g hv).1;cases e;omega
theorem WkS.fixed (h:WkS C w N wv lv cs ds hs l rs) (hC:C.Ok) {b:Nat} (hb:b < C.L) (hB:C.wB.heap.size≤b) (hg:w.grownBy w' (some b)):
  w'.ownsRow C.L 155 2 wv rs.length (owayC rs)∧w'.ownsRow C.L 3 1 lv l.length (intC l)∧Below C.wB.heap.size C.wB w'∧C.L≤w'.heap.size:=
 ⟨h.way.kept hg (row_ne h.way hb),h.list.kept hg (row_ne h.list hb),h.below.grown hg h.below.size (fun g e=>by cases e;exact hB),Nat.le_trans h.L hg.size⟩
theorem WkS.setCome (h:WkS C w N wv lv cs ds hs l rs) (hC:C.Ok) (x:Int) (hx:in64 x) (hN:N < maxLen):
  ∃w',(Instr.mapUpdate 153 (.map (some C.bc)) (.int .i64 x) (.int .i64 1)).run Tryz.prog w= .ok () w'∧WkS C w' (N+1) wv lv (x::cs) ds hs l rs∧w.grownBy w' (some C.bc):=by
 obtain⟨w',hr,hz,hg⟩:=h.come.put Tryz.underlying153 hx (.int .i64 1) hN
 obtain⟨h1,h2,h3,h4⟩:=h.fixed hC hC.cL hC.c hg
 refine⟨w',hr,⟨hz.congr (Nat.le_refl _) (fun y=>?_) (fun y=>by simp),(h.done.kept hg (by simpa using hC.cd.symm)).congr (by omega) (fun _=>rfl) (fun _=>Iff.rfl),(h.heads.kept hg (by simpa using hC.ch.symm)).congr (by omega) (fun _=>rfl) (fun _=>Iff.rfl),h1,h.sl,h2,h.apart,h3,h4⟩,hg⟩
 unfold onumB
 by_cases e:y=x
 ·simp[e]
 ·simp[e]
theorem WkS.setDone (h:WkS C w N wv lv cs ds hs l rs) (hC:C.Ok) (x:Int) (hx:in64 x) (hN:N < maxLen):
  ∃w',(Instr.mapUpdate 153 (.map (some C.bd)) (.int .i64 x) (.int .i64 1)).run Tryz.prog w= .ok () w'∧WkS C w' (N+1) wv lv cs (ds++ [x]) hs l rs∧w.grownBy w' (some C.bd):=by
 obtain⟨w',hr,hz,hg⟩:=h.done.put Tryz.underlying153 hx (.int .i64 1) hN
 obtain⟨h1,h2,h3,h4⟩:=h.fixed hC hC.dL hC.d hg
 refine⟨w',hr,⟨(h.come.kept hg (by simpa using hC.cd)).congr (by omega) (fun _=>rfl) (fun _=>Iff.rfl),hz.congr (Nat.le_refl _) (fun y=>?_) (fun y=>by simp[or_comm]),(h.heads.kept hg (by simpa using hC.dh.symm)).congr (by omega) (fun _=>rfl) (fun _=>Iff.rfl),h1,h.sl,h2,h.apart,h3,h4⟩,hg⟩
 unfold onumB
 by_cases e:y=x
 ·simp[e]
 ·simp[e]
theorem WkS.setHeads (h:WkS C w N wv lv cs ds hs l rs) (hC:C.Ok) (x:Int) (hx:in64 x) (hN:N < maxLen):
  ∃w',(Instr.mapUpdate 100 (.map (some C.bh)) (.int .i64 x) (.bool true)).run Tryz.prog w= .ok () w'∧WkS C w' (N+1) wv lv cs ds (x::hs) l rs∧w.grownBy w' (some C.bh):=by
 obtain⟨w',hr,hz,hg⟩:=h.heads.put Tryz.underlying100 hx (.bool true) hN
 obtain⟨h1,h2,h3,h4⟩:=h.fixed hC hC.hL hC.h hg
 refine⟨w',hr,⟨(h.come.kept hg (by simpa using hC.ch)).congr (by omega) (fun _=>rfl) (fun _=>Iff.rfl),(h.done.kept hg (by simpa using hC.dh)).congr (by omega) (fun _=>rfl) (fun _=>Iff.rfl),hz.congr (Nat.le_refl _) (fun y=>?_) (fun y=>by simp),h1,h.sl,h2,h.apart,h3,h4⟩,hg⟩
 by_cases e:y=x
 ·simp[e]
 ·simp[e]
theorem WkS.maps (h:WkS C w N wv lv cs ds hs l rs) (hC:C.Ok) {row:Option Nat} (hr:∀g,row=some g→C.L≤g) (hg:w.grownBy w' row):
  ZM w' C.bc N (.int .i64 0) (onumB cs) (fun x=>x∈cs)∧ZM w' C.bd N (.int .i64 0) (onumB ds) (fun x=>x∈ds)∧ZM w' C.bh N (.bool false) (fun x=> .bool (decide (x∈hs))) (fun x=>x∈hs)∧Below C.wB.heap.size C.wB w'∧C.L≤w'.heap.size:=by
 have ne:∀b,b < C.L→some b≠row:=fun b hb e=>by have:=hr b e.symm;omega
 exact⟨h.come.kept hg (ne _ hC.cL),h.done.kept hg (ne _ hC.dL),h.heads.kept hg (ne _ hC.hL),h.below.grown hg h.below.size (fun g e=>by have:=hr g e;have:=hC.c;have:=hC.cL;omega),Nat.le_trans h.L hg.size⟩
theorem WkS.wayL (h:WkS C w N wv lv cs ds hs l rs):∀g,wv.ownBlock=some g→C.L≤g:=fun g e=>(h.way.lt g e).1
theorem WkS.listL (h:WkS C w N wv lv cs ds hs l rs):∀g,lv.ownBlock=some g→C.L≤g:=fun g e=>(h.list.lt g e).1
theorem WkS.push (h:WkS C w N wv lv cs ds hs l rs) (hC:C.Ok) (r:OwR) (hr:in64 r.n∧IsSl C.wB C.wB.heap.size r.l r.A r.c) {wv':Value} (hg:w.grownBy w' wv.ownBlock)
  (hown:w'.ownsRow C.L 155 2 wv' (rs.length+1) (owayC rs++r.cells)) (hat:wv'.ownBlock=wv.ownBlock∨∃g,wv'.ownBlock=some g∧w.heap.size≤g):
  WkS C w' N wv' lv cs ds hs l (r::rs):=by
 obtain⟨h1,h2,h3,h4,h5⟩:=h.maps hC h.wayL hg
 refine⟨h1,h2,h3,by rw[owayC_cons];exact hown,fun x hx=>?_,h.list.kept hg h.apart,?_,h4,h5⟩
 ·rcases List.mem_cons.1 hx with rfl|hx
  ·exact hr
  ·exact h.sl x hx
 ·rcases hat with e|⟨g,e,hge⟩
  ·rw[e]
   exact h.apart
  ·cases hl:lv.ownBlock with
   |none=>exact .inl rfl
   |some g'=>
    refine .inr fun e'=>?_
    have:=(h.list.lt g' hl).2
    rw[e]at e'
    cases e'
    omega
theorem WkS.listed (h:WkS C w N wv lv cs ds hs l rs) (hC:C.Ok) (x:Int) {lv':Value} (hg:w.grownBy w' lv.ownBlock)
  (hown:w'.ownsRow C.L 3 1 lv' (l.length+1) (intC l++ [.int .i64 x])) (hat:lv'.ownBlock=lv.ownBlock∨∃g,lv'.ownBlock=some g∧w.heap.size≤g) (h1ne:lv'.ownBlock≠none):
  WkS C w' N wv lv' cs ds hs (l++ [x]) rs:=by
 obtain⟨h1,h2,h3,h4,h5⟩:=h.maps hC h.listL hg
 have hne:wv.ownBlock=none∨wv.ownBlock≠lv.ownBlock:=by
  cases hw:wv.ownBlock with
  |none=>exact .inl rfl
  |some g=>
   refine .inr fun e=>?_
   rcases h.apart with h'|h'
   ·rw[h']at e;cases e
   ·exact h' (e.symm.trans hw.symm)
 refine⟨h1,h2,h3,h.way.kept hg hne,h.sl,by rw[List.length_append];unfold intC at hown ⊢;rw[List.map_append];exact hown,?_,h4,h5⟩
 rcases hat with e|⟨g,e,hge⟩
 ·rw[e]
  exact h.apart
 ·refine .inr fun e'=>?_
  rw[e]at e'
  have:=(h.way.lt g e'.symm).2
  omega
theorem WkS.left {r:OwR} {g cap:Nat} (h:WkS C w N (.slice (some ⟨g,0,none⟩) (rs.length+1) cap) lv cs ds hs l (r::rs)) (hC:C.Ok) (l':List Int) (A':Option Addr) (c':Nat) (hl:IsSl C.wB C.wB.heap.size l' A' c'):
  WkS C (w.setCell ⟨g,rs.length*2+1,none⟩ (.slice A' l'.length c')) N (.slice (some ⟨g,0,none⟩) (rs.length+1) cap) lv cs ds hs l (⟨r.n,l',A',c'⟩::rs)∧w.grownBy (w.setCell ⟨g,rs.length*2+1,none⟩ (.slice A' l'.length c')) (some g):=by
 obtain⟨hs1,hg⟩:=World.ownsRow.stored h.way (rs.length*2+1) (.slice A' l'.length c')
 obtain⟨h1,h2,h3,h4,h5⟩:=h.maps hC (row:=some g) (fun g' e=>h.wayL g' e) hg
 refine⟨⟨h1,h2,h3,?_,fun x hx=>?_,h.list.kept hg h.apart,h.apart,h4,h5⟩,hg⟩
 ·have e:(owayC (r::rs)).set (rs.length*2+1) (.slice A' l'.length c')=owayC (⟨r.n,l',A',c'⟩::rs):=by
   rw[owayC_cons,owayC_cons,List.set_append_right _ _ (by rw[owayC_len];omega),owayC_len]
   have:rs.length*2+1 - rs.length*2=1:=by omega
   rw[this]
   rfl
  rw[e]at hs1
  exact hs1
 ·rcases List.mem_cons.1 hx with rfl|hx
  ·exact⟨(h.sl r (List.mem_cons_self ..)).1,hl⟩
  ·exact h.sl x (List.mem_cons_of_mem _ hx)
theorem WkS.pop {r:OwR} {g cap:Nat} (h:WkS C w N (.slice (some ⟨g,0,none⟩) (rs.length+1) cap) lv cs ds hs l (r::rs)):
  WkS C w N (.slice (some ⟨g,0,none⟩) rs.length cap) lv cs ds hs l rs:=by
 refine⟨h.come,h.done,h.heads,?_,fun x hx=>h.sl x (List.mem_cons_of_mem _ hx),h.list,h.apart,h.below,h.L⟩
 have hw:=h.way
 obtain⟨hl,h1|⟨g',cap',cur,hv,hb,hg,hn,hc,hsz,ht⟩⟩:=hw
 ·simp at h1
 ·simp only[Value.slice.injEq,Option.some.injEq,Addr.mk.injEq,and_true,true_and]at hv
  obtain⟨rfl,_,rfl⟩:=hv
  refine⟨owayC_len _,.inr ⟨_,_,cur,rfl,hb,hg,by simp at hn;omega,hc,hsz,?_⟩⟩
  have:=congrArg (List.take (rs.length*2)) ht
  rw[List.take_take,owayC_cons,List.take_append_of_le_length (by rw[owayC_len];exact Nat.le_refl _)]at this
  rw[show min (rs.length*2) ((r::rs).length *2)=rs.length*2 from by simp]at this
  rw[this]
  exact List.take_of_length_le (by rw[owayC_len];exact Nat.le_refl _)
theorem WkS.top {r:OwR} (h:WkS C w N wv lv cs ds hs l (r::rs)):∃g cap,wv= .slice (some ⟨g,0,none⟩) (rs.length+1) cap∧rs.length+1≤cap∧cap≤maxLen∧g < w.heap.size∧
  w.cell? ⟨g,rs.length*2,none⟩=some (.int .i64 r.n)∧w.cell? ⟨g,rs.length*2+1,none⟩=some (.slice r.A r.l.length r.c)∧w.frozen? ⟨g,rs.length*2+1,none⟩=false:=by
 have hw:=h.way
 obtain⟨hl,h1|⟨g,cap,cur,hv,hb,hg,hn,hc,hsz,ht⟩⟩:=hw
 ·simp at h1
 ·have hw:=h.way
  subst hv
  have hw':w.ownsRow C.L 155 2 (.slice (some ⟨g,0,none⟩) (rs.length+1) cap) (rs.length+1) (owayC (r::rs)):=hw
  refine⟨g,cap,rfl,by simpa using hn,hc,(Array.getElem?_eq_some_iff.1 hg).1,?_,?_,hw'.frozenAt _⟩
  ·rw[hw'.cellAt _ (by omega),owayC_cons,List.getElem?_append_right (by rw[owayC_len];exact Nat.le_refl _),owayC_len,Nat.sub_self]
   rfl
  ·rw[hw'.cellAt _ (by omega),owayC_cons,List.getElem?_append_right (by rw[owayC_len];omega),owayC_len]
   have:rs.length*2+1 - rs.length*2=1:=by omega
   rw[this]
   rfl
end
theorem WkS.start (wr w1:World) (x:Int) (l9:List Int) (A9:Option Addr) (c9:Nat) (hx:in64 x) (hz:ZM w1 wr.heap.size 1 (.int .i64 0) (fun y=>if y=x then .int .i64 1 else .int .i64 0) (fun y=>y=x∨False)) (hg:(wr.alloc (.map #[] 0)).grownBy w1 (some wr.heap.size)) (hsl:IsSl wr wr.heap.size l9 A9 c9):
  WkC.Ok ⟨wr,wr.heap.size,w1.heap.size,w1.heap.size+1,w1.heap.size+2⟩∧
  WkS ⟨wr,wr.heap.size,w1.heap.size,w1.heap.size+1,w1.heap.size+2⟩ (((w1.alloc (.map #[] 0)).alloc (.map #[] 0)).alloc (.cells #[.int .i64 x,.slice A9 l9.length c9] 155)) 1 (.slice (some ⟨w1.heap.size+2,0,none⟩) 1 1) (.slice none 0 0) [x] [] [] [] [⟨x,l9,A9,c9⟩]:=by
 have hsz:wr.heap.size+1≤w1.heap.size:=by have:=hg.size;simpa using this
 refine⟨?_,?_⟩
 ·constructor<;>dsimp only<;>omega
 have k1:=World.grownBy_alloc w1 (.map #[] 0) none
 have k2:=World.grownBy_alloc (w1.alloc (.map #[] 0)) (.map #[] 0) none
 have k3:=World.grownBy_alloc ((w1.alloc (.map #[] 0)).alloc (.map #[] 0)) (.cells #[.int .i64 x,.slice A9 l9.length c9] 155) none
 have m2:=((ZM.made w1 (.int .i64 0)).kept k2 (by simp)).kept k3 (by simp)
 have m3:=(ZM.made (w1.alloc (.map #[] 0)) (.bool false)).kept k3 (by simp)
 rw[World.size_alloc]at m3
 have hr:=World.ownsRow_lit (base:=w1.heap.size+2) (e:=155) (size:=2) ((w1.alloc (.map #[] 0)).alloc (.map #[] 0)) #[.int .i64 x,.slice A9 l9.length c9] 1 (by simp) (by decide) rfl
 rw[World.size_alloc,World.size_alloc]at hr
 refine⟨(((hz.kept k1 (by simp)).kept k2 (by simp)).kept k3 (by simp)).congr (Nat.le_refl _) (fun y=>?_) (fun y=>by simp),m2.congr (by omega) (fun y=>by simp[onumB]) (fun y=>by simp),m3.congr (by omega) (fun y=>by simp) (fun y=>by simp),hr,fun r hr=>?_,World.ownsRow_nil _ _ _ _,.inl rfl,?_,by simp⟩
 ·unfold onumB
  by_cases e:y=x
  ·simp[e]
  ·simp[e]
 ·obtain rfl:r=_:=List.mem_singleton.1 hr
  exact⟨hx,hsl⟩
 ·have h0:Below wr.heap.size wr (wr.alloc (.map #[] 0)):=(Below.refl _ _).alloc (Nat.le_refl _) _
  have h1:=h0.grown hg (by simp) (fun g e=>by simp at e;omega)
  exact((h1.alloc (by omega) _).alloc (by simp;omega) _).alloc (by simp;omega) _
theorem row_holds {w:World} {L gg n cap:Nat} {l:List Int} (h:w.ownsRow L 3 1 (.slice (some ⟨gg,0,none⟩) n cap) n (intC l)):Go.Sort.Holds (Value.int .i64) w gg 0 l.toArray:=by
 intro j hj
 have hl:=h.1
 simp only[intC,List.length_map]at hl
 have hj':j < l.length:=by simpa using hj
 refine⟨?_,by rw[Nat.zero_add];exact h.frozenAt j⟩
 rw[Nat.zero_add,h.cellAt j (by omega),intC,List.getElem?_map,List.getElem?_eq_getElem hj']
 simp[hj']
theorem row_rev {w w':World} {L gg n cap k:Nat} {l:List Int} (h:w.ownsRow L 3 1 (.slice (some ⟨gg,0,none⟩) n cap) n (intC l)) (hw:w'=Go.Sort.putRow (Value.int .i64) (Go.Sort.ahead w k) gg 0 l.reverse.toArray):
  w'.ownsRow L 3 1 (.slice (some ⟨gg,0,none⟩) n cap) n (intC l.reverse)∧w.grownBy w' (some gg):=by
 have hg0:∀x:World,Go.Sort.grow x #[]=x:=fun x=>by simp[Go.Sort.grow]
 have hl:=h.1
 simp only[intC,List.length_map]at hl
 obtain⟨_,h1|⟨g',cap',cur,hv,hb,hg,hn,hc,hsz,ht⟩⟩:=h
 ·simp at h1
 ·simp only[Value.slice.injEq,Option.some.injEq,Addr.mk.injEq,and_true,true_and]at hv
  obtain⟨rfl,rfl⟩:=hv
  have e1:n=l.length:=by omega
  subst e1
  have hr:=ownsRow_sortedI (w:=w) (base:=L) (g:=gg) (cap:=cap) (n:=k) (e:=3) (os:= #[]) (cur:=cur) (ss:=l) (ts:=l.reverse) (by simp) hb hg hn hc hsz
  have hw2:=grownBy_sortedI (w:=w) (g:=gg) (n:=k) (os:= #[]) l.reverse.toArray
  rw[hg0,←hw]at hr hw2
  refine⟨?_,hw2⟩
  exact hr
end Go.Proofs.YtmfioehnhjjgpaaGreatDoor
