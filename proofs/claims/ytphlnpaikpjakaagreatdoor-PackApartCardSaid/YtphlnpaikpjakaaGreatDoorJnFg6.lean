/-
  Plain laws of a tree without procedures, for its graph: its statements have edges; how many there may be. No walk.
-/
import Derived.Test.YtphlnpaikpjakaaGreatDoorJgFg5
import Derived.Test.YtphlnpaikpjakaaGreatDoorJnInS
set_option linter.unusedVariables false
set_option linter.unusedSimpArgs false
namespace Go.Proofs.YtphlnpaikpjakaaGreatDoor
open Go.RowKit Go.Shelf Go.Maps

open Go.RowKit Go.Shelf

def IsR (w:World) (S:Nat→Prop) (l:List Int) (b o:Nat):Prop:=S b∧∀(i:Nat) (n:Int),l[i]?=some n→w.cell? ⟨b,o+i,none⟩=some (.int .i64 n)∧in64 n
def EgR (w:World) (S:Nat→Prop):List Ed→Nat→Nat→Prop
 | [],_,_=>True
 |e::r,b,o=>
  (S b∧e.ok∧w.cell? ⟨b,o,none⟩=some (.int .i64 e.from_)∧w.cell? ⟨b,o+1,none⟩=some (.int .i64 e.to_)∧w.cell? ⟨b,o+2,none⟩=some (.int .u8 e.kind)∧w.cell? ⟨b,o+3,none⟩=some (.int .i64 e.n)∧w.cell? ⟨b,o+4,none⟩=some (.int .u8 e.cmp)∧w.cell? ⟨b,o+6,none⟩=some (.int .i64 e.at_))∧
   (∃A c,w.cell? ⟨b,o+5,none⟩=some (.slice A e.args.len c)∧SlR (fun b o=>ExR w S False e.args b o) e.args.len 64 A c)∧EgR w S r b (o+7)
structure GrR (w:World) (S:Nat→Prop) (g:Gr) (Aa:Option Addr) (ca:Nat) (Ae:Option Addr) (ce:Nat):Prop where
 arrays:SlR (fun b o=>IsR w S g.arrays b o) g.arrays.length 8 Aa ca
 edges:SlR (fun b o=>EgR w S g.edges b o) g.edges.length 72 Ae ce
 ok:g.ok
section
variable {w w':World} {S T:Nat→Prop}
theorem IsR.keep (h:SameS S w w') {l:List Int} {b o:Nat} (hx:IsR w S l b o):IsR w' S l b o:=
 ⟨hx.1,fun i n hi=>⟨((h ⟨b,o+i,none⟩ hx.1).1).trans (hx.2 i n hi).1,(hx.2 i n hi).2⟩⟩
theorem IsR.more (h:∀b,S b→T b) {l:List Int} {b o:Nat} (hx:IsR w S l b o):IsR w T l b o:=⟨h _ hx.1,hx.2⟩
theorem EgR.keep (h:SameS S w w'):∀ {l:List Ed} {b o:Nat},EgR w S l b o→EgR w' S l b o
 | [],_,_,_=>trivial
 |e::r,b,o,⟨⟨hb,h0,h1,h2,h3,h4,h5,h6⟩,⟨A,c,h7,h8⟩,hr⟩=>by
  have hh:=fun i=>(h ⟨b,i,none⟩ hb).1
  exact⟨⟨hb,h0,(hh _).trans h1,(hh _).trans h2,(hh _).trans h3,(hh _).trans h4,(hh _).trans h5,(hh _).trans h6⟩,⟨A,c,(hh _).trans h7,h8.imp fun _ _ hx=>ExR.keep h hx⟩,EgR.keep h hr⟩
theorem EgR.more (h:∀b,S b→T b):∀ {l:List Ed} {b o:Nat},EgR w S l b o→EgR w T l b o
 | [],_,_,_=>trivial
 |e::r,b,o,⟨⟨hb,h0⟩,⟨A,c,h7,h8⟩,hr⟩=>⟨⟨h _ hb,h0⟩,⟨A,c,h7,h8.imp fun _ _ hx=>ExR.more h hx⟩,EgR.more h hr⟩
theorem GrR.keep {g:Gr} {Aa Ae:Option Addr} {ca ce:Nat} (h:SameS S w w') (hx:GrR w S g Aa ca Ae ce):GrR w' S g Aa ca Ae ce:=
 ⟨hx.arrays.imp fun _ _ hx=>hx.keep h,hx.edges.imp fun _ _ hx=>EgR.keep h hx,hx.ok⟩
theorem ExR.at_ {B:Nat} {Z:Prop} (hS:∀b,S b→b < B):∀ {xs:Exs} {b o:Nat},ExR w S Z xs b o→ExAt w B xs b o
 | .nil,_,_,_=>trivial
 | .cons k nm n args at_ r,b,o,⟨⟨hb,_,r0,r1,r2,h0,h1,h2,h4⟩,⟨A,c,h3,hl,hc,hs⟩,hr⟩=>
  ⟨hS _ hb,h0,h1,h2,⟨A,c,h3,hl,hc.1,fun hp=>by
   obtain⟨b',o',e,hx⟩:=hs hp
   exact⟨b',o',e,ExR.at_ hS hx⟩⟩,h4,r0,r1,r2,ExR.at_ hS hr⟩
theorem EgR.at_ {B:Nat} (hS:∀b,S b→b < B):∀ {l:List Ed} {b o:Nat},EgR w S l b o→EdAt w B l b o
 | [],_,_,_=>trivial
 |e::r,b,o,⟨⟨hb,h0,h1,h2,h3,h4,h5,h6⟩,⟨A,c,h7,hl,hc,hs⟩,hr⟩=>
  ⟨hS _ hb,h1,h2,h3,h4,h5,⟨A,c,h7,hl,hc.1,fun hp=>by
   obtain⟨b',o',e,hx⟩:=hs hp
   exact⟨b',o',e,ExR.at_ hS hx⟩⟩,h6,h0,EgR.at_ hS hr⟩
theorem GrR.grSl {g:Gr} {Aa Ae:Option Addr} {ca ce B:Nat} (hS:∀b,S b→b < B) (hx:GrR w S g Aa ca Ae ce):GrSl w B g Aa ca Ae ce:=
 ⟨⟨hx.arrays.1,hx.arrays.2.1.1,fun hp=>by
  obtain⟨b,o,e,h⟩:=hx.arrays.2.2 hp
  exact⟨b,o,e,hS _ h.1,h.2⟩⟩,⟨hx.edges.1,hx.edges.2.1.1,fun hp=>by
  obtain⟨b,o,e,h⟩:=hx.edges.2.2 hp
  exact⟨b,o,e,h.at_ hS⟩⟩⟩
theorem rowEd {g:Nat} (hg:S g):∀ {l:List Ed} {cs:List Value} {o:Nat},RowR oneE w S l cs→(∀j u,cs[j]?=some u→w.cell? ⟨g,o+j,none⟩=some u)→EgR w S l g o
 | [],_,_,_,_=>trivial
 |e::r,cs,o,h,hc=>by
  obtain⟨ys,cs',e1,⟨A,c,e2,h1,h2⟩,h5⟩:=h
  subst e2
  subst e1
  refine⟨⟨hg,h1,hc 0 _ rfl,hc 1 _ rfl,hc 2 _ rfl,hc 3 _ rfl,hc 4 _ rfl,hc 6 _ rfl⟩,⟨A,c,hc 5 _ rfl,h2⟩,rowEd hg h5 fun j u hj=>?_⟩
  have:=hc (7+j) u (by rw[List.getElem?_append_right (by simp)];simpa using hj)
  rw[←Nat.add_assoc]at this
  exact this
theorem rowE_slice {L:Nat} {v:Value} {l:List Ed} {cs:List Value} (hr:w.ownsRow L 39 7 v l.length cs) (hx:RowR oneE w (NewR L v w) l cs) (hsz:l.length*72≤140737488355328):
  ∃A c,v= .slice A l.length c∧SlR (fun b o=>EgR w (New L w) l b o) l.length 72 A c:=
 RowR.slice oneE_keep hr hx hsz fun g hg hr hc=>rowEd hg hr fun j u hj=>by rw[Nat.zero_add];exact hc j u hj
theorem rowI_slice {L:Nat} {v:Value} {l:List Int} (h:w.ownsRow L 3 1 v l.length (l.map (Value.int .i64))) (h64:∀n∈l,in64 n) (hsz:l.length*8≤140737488355328):∃A c,v= .slice A l.length c∧SlR (fun b o=>IsR w (New L w) l b o) l.length 8 A c:=by
 have hown:=h
 obtain⟨hl,h|⟨g,cap,cur,rfl,hb,hg,hn,hc,hs,ht⟩⟩:=h
 ·obtain⟨rfl,h0⟩:=h
  exact⟨none,0,by rw[h0],by rw[h0];exact⟨lrq _,⟨by decide,by omega⟩,fun h=>absurd h (Nat.lt_irrefl 0)⟩⟩
 ·have hgl:g < w.heap.size:=(Array.getElem?_eq_some_iff.1 hg).1
  refine⟨some ⟨g,0,none⟩,cap,rfl,hn,⟨by simpa[maxLen]using hc,hsz⟩,fun _=>⟨g,0,rfl,⟨hb,hgl⟩,fun i n hi=>?_⟩⟩
  have hil:=(List.getElem?_eq_some_iff.1 hi).1
  have hc:=hown.cellAt i (by omega)
  exact⟨by rw[Nat.zero_add,hc,List.getElem?_map,hi];rfl,h64 n (List.mem_of_getElem? hi)⟩
end
end Go.Proofs.YtphlnpaikpjakaaGreatDoor

namespace Go.Proofs.YtphlnpaikpjakaaGreatDoor
open Go.RowKit Go.Shelf Go.Maps

def noGr:Gr:=⟨0, [],0,0,0, []⟩
def graT (t:Tre):Gr×Int:=
 if(inlT t).2 =0 then
  (if 2048 < (grF (inlT t).1).edges.length ∨4096 < (grF (inlT t).1).nodes then(noGr,9)else(⟨(inlT t).1.vars.length,(inlT t).1.arrays.map (·.size),(grF (inlT t).1).nodes,0,1,(grF (inlT t).1).edges⟩,0))
 else(noGr,(inlT t).2)
def GraP (r:Gr×Int) (W:World) (e:Ending) (w':World):Prop:=
 ∃Aa Ae ca ce,e= .returned (.tuple #[grV r.1.vars Aa r.1.arrays.length ca r.1.nodes r.1.start r.1.last Ae r.1.edges.length ce,.int .i64 r.2])∧GrR w' (New W.heap.size w') r.1 Aa ca Ae ce∧Fr NoT W w'
theorem tab_keep {w w':World} (hf:Fr NoT w w') (h:Lib.TabIs Tryz.prog w "internal/strconv.uint64pow10" .u64 Lib.pow10Tab):Lib.TabIs Tryz.prog w' "internal/strconv.uint64pow10" .u64 Lib.pow10Tab:=by
 unfold Lib.TabIs at h ⊢
 exact var_keep hf.plain h
theorem noGr_at (w:World) (S:Nat→Prop):GrR w S noGr none 0 none 0:=
 ⟨⟨lrq _,by decide,fun h=>absurd h (by decide)⟩,⟨lrq _,by decide,fun h=>absurd h (by decide)⟩,by unfold Gr.ok in64 noGr;decide⟩
theorem numsV_snoc (l:List (List UInt8)) (x t:List UInt8):numsV (l++ [x]) t=if t=x then some (l.length:Int)else numsV l t:=by
 unfold numsV
 rw[List.zipIdx_append,List.reverse_append]
 by_cases e:t=x
 ·subst e
  simp
 ·have e2:(x==t)=false:=by
   rw[beq_eq_false_iff_ne]
   exact fun h=>e h.symm
  simp[e,e2]
theorem numsV_lt:∀ {l:List (List UInt8)} {t:List UInt8} {n:Int},numsV l t=some n→0≤n∧n < l.length:=by
 intro l t n h
 unfold numsV at h
 obtain⟨x,hx,rfl⟩:=Option.map_eq_some_iff.1 h
 have h1:=List.mem_of_find?_eq_some hx
 rw[List.mem_reverse]at h1
 have h2:=List.mem_zipIdx h1
 omega
theorem numsV_in (l:List (List UInt8)) (hl:l.length≤1000000):NoR (numsV l):=fun s=>by
 unfold NoN.get
 cases e:numsV l s.data.toList with
 |none=>exact⟨by decide,by decide⟩
 |some n=>
  have:=numsV_lt e
  exact⟨by show(-9223372036854775808:Int)≤n;omega,by show n≤9223372036854775807;omega⟩
theorem bk_three (w:World) (m:Array Value) (ty:TypeId):Bk (((w.alloc (.map #[] 0)).alloc (.map #[] 0)).alloc (.cells m ty)) (w.heap.size+2) ty m:=Bk.new_at _ _ _ (by simp)
theorem NoM.made (w:World):NoM (w.alloc (.map #[] 0)) w.heap.size 0 (numsV []):=MpV.made w
theorem NoM.snoc {w':World} {b n:Nat} {l:List (List UInt8)} {x:List UInt8} (h:MpV w' b n fun y=>if y=x then some (.int .i64 l.length)else(numsV l y).map (.int .i64)):NoM w' b n (numsV (l++ [x])):=by
 unfold NoM
 have e:(fun t=>(numsV (l++ [x]) t).map (Value.int .i64))=fun y=>if y=x then some (.int .i64 l.length)else(numsV l y).map (.int .i64):=by
  funext y
  rw[numsV_snoc]
  split<;>rfl
 rw[e]
 exact h
theorem take_snocV {l:List Va} {k:Nat} {x:Va} {r:List Va} (hd:l.drop k=x::r):(l.take (k+1)).map (·.nm.data.toList)=(l.take k).map (·.nm.data.toList)++ [x.nm.data.toList]:=by
 have h1:=List.take_add_one (l:=l) (i:=k)
 have h2:l[k]?=some x:=by
  have:=congrArg List.head? hd
  rw[List.head?_drop]at this
  exact this
 rw[h1,h2]
 simp
theorem take_snocA {l:List Arr} {k:Nat} {x:Arr} {r:List Arr} (hd:l.drop k=x::r):(l.take (k+1))=(l.take k)++ [x]:=by
 have h1:=List.take_add_one (l:=l) (i:=k)
 have h2:l[k]?=some x:=by
  have:=congrArg List.head? hd
  rw[List.head?_drop]at this
  exact this
 rw[h1,h2]
 rfl

theorem infoInt2:(Tryz.prog.info? 3).map (fun i=>(i.zero,i.size,i.bytes))=some (some (.int .i64 0),1,8):=by kernel_rfl
theorem sizeGr:(Tryz.prog.info? 32).map (·.size)=some 6:=by kernel_rfl
def GrS8 (M m o:Nat) (mp:Nat) (nm:ByteArray) (W:World):Prop:=M < W.heap.size∧m < W.heap.size∧W.cell? ⟨M,o,none⟩=some (.map (some mp))∧W.cell? ⟨m,0,none⟩=some (.string nm)
def GrS14 (M m:Nat) (sl:Value) (n:Int) (W:World):Prop:=M < W.heap.size∧m < W.heap.size∧W.cell? ⟨M,1,none⟩=some sl∧W.cell? ⟨m,1,none⟩=some (.int .i64 n)
structure GrI1 (mS:Nat) (vars:List Va) (w4 wr:World) (k:Nat):Prop where
 map:NoM wr mS k (numsV ((vars.take k).map (·.nm.data.toList)))
 fr:Fr (fun i=>i=mS) w4 wr
structure GrI2 (B M mA:Nat) (cs:Value→Array Value) (arrays:List Arr) (w5 wr:World) (k:Nat) (sl:Value):Prop where
 map:NoM wr mA k (numsV ((arrays.take k).map (·.nm.data.toList)))
 bk:Bk wr M 85 (cs sl)
 row:wr.ownsRow (M+1) 3 1 sl k ((arrays.take k).map fun a=>Value.int .i64 a.size)
 fr:Fr (fun i=>i=mA∨i=M∨M+1≤i) w5 wr
theorem arR_in {w:World} {S:Nat→Prop} {Z:Prop}:∀ {l:List Arr} {b o:Nat},ArR w S Z l b o→∀a∈l,in64 a.size
 | [],_,_,_,_,h=>by simp at h
 |x::r,b,o,h,a,ha=>by
  rcases List.mem_cons.1 ha with rfl|ha
  ·exact h.1.2.2.1
  ·exact arR_in h.2 a ha
set_option maxRecDepth 100000 in
set_option maxHeartbeats 6400000 in
theorem graph_of (t:Tre) (w:World) (Av Aa Ap Am:Option Addr) (cv ca cp cm:Nat) (hin:∀w1,Fr NoT w w1→Calls Tryz.prog 30 #[trV t Av Aa Ap Am cv ca cp cm] w1 (InlP (inlT t) w1)) (hok:(inlT t).2 =0→(∀C,FBlk C (inlT t).1.main)∧szT (inlT t).1.main ≤900000000000∧((∀v∈(inlT t).1.vars,v.nm.size≤9223372036854775807)∧(inlT t).1.vars.length ≤32)∧(∀v∈(inlT t).1.arrays,v.nm.size≤9223372036854775807)∧(inlT t).1.arrays.length ≤4):
  Calls Tryz.prog 14 #[trV t Av Aa Ap Am cv ca cp cm] w (GraP (graT t) w):=by
 obtain⟨w1,hw1⟩:=nmq ((w.alloc (.cells #[.slice Av t.vars.length cv,.slice Aa t.arrays.length ca,.slice Ap t.procs.length cp,.slice Am t.main.len cm] 49)).alloc (.cells #[.int .i64 0,.slice none 0 0,.int .i64 0,.int .i64 0,.int .i64 0,.slice none 0 0] 32))
 have hf1:Fr NoT w w1:=by rw[hw1];exact((Fr.refl _ _).alloc _).alloc _
 have kk:=bk_two w #[.slice Av t.vars.length cv,.slice Aa t.arrays.length ca,.slice Ap t.procs.length cp,.slice Am t.main.len cm] #[.int .i64 0,.slice none 0 0,.int .i64 0,.int .i64 0,.int .i64 0,.slice none 0 0] 49 32
 rw[←hw1]at kk
 replace hin:=hin w1 hf1
 unfold trV at hin ⊢
 obtain⟨n1,hn1⟩:=nmq t.vars.length
 obtain⟨n2,hn2⟩:=nmq t.arrays.length
 obtain⟨n3,hn3⟩:=nmq t.procs.length
 obtain⟨n4,hn4⟩:=nmq t.main.len
 rw[←hn1,←hn2,←hn3,←hn4]at hin hw1 kk ⊢
 obtain⟨R,hR⟩:=nmq (graT t)
 rw[←hR]
 unfold graT at hR
 generalize inlT t=X at hin hR hok
 obtain⟨x,er⟩:=X
 unfold InlP at hin
 simp only at hR hok
 obtain⟨m1,hm1⟩:=nmq x.vars.length
 obtain⟨m2,hm2⟩:=nmq x.arrays.length
 obtain⟨m3,hm3⟩:=nmq x.procs.length
 obtain⟨m4,hm4⟩:=nmq x.main.len
 obtain⟨V,hV⟩:=nmq (Value.int .i64 er)
 have HIN:=hdq (show Calls Tryz.prog 30 _ w1 (fun e w'=>∃Av Aa Ap Am cv ca cp cm,e= .returned (.tuple #[.agg #[.slice Av m1 cv,.slice Aa m2 ca,.slice Ap m3 cp,.slice Am m4 cm],V])∧TrR w' (New w1.heap.size w') False x Av Aa Ap Am cv ca cp cm∧Fr NoT w1 w')from by
  rw[hm1,hm2,hm3,hm4,hV];exact hin)
 have HV:=hdq hV
 have HM:=hdq (aiq hm1 (aiq hm2 (aiq hm3 hm4)))
 have HOK:=hdq hok
 have HR:=hdq hR
 have HW1:=hdq hw1
 have HF1:=hdq hf1
 have HK0:=hdq kk.1
 have HK1:=hdq kk.2
 have HZ1:=hdq (show w1.heap.size=w.heap.size+2 from by rw[hw1];simp)
 clear hin hok hR hw1 hf1 kk hn1 hn2 hn3 hn4 hm1 hm2 hm3 hm4 hV
 go_enter Tryz.func14,Tryz.ntmps14
 go_wp2_with fail
 rw[←HW1.out]
 go_at_call 30
 refine HIN.out.mono ?_
 rintro _ w2 ⟨Bv,Ba,Bp,Bm,dv,da,dp,dm,rfl,hT,hf2⟩
 have hk0:=HK0.out.fr0 hf2
 have hk1:=HK1.out.fr0 hf2
 have z0:=hk0.frozen 0
 have z1:=hk0.frozen 1
 have z2:=hk0.frozen 2
 have z3:=hk0.frozen 3
 have y0:=hk0.cell 0
 have y1:=hk0.cell 1
 have y2:=hk0.cell 2
 have y3:=hk0.cell 3
 have yl:=hk0.lt
 simp only[getsL]at y0 y1 y2 y3
 obtain⟨w3,hw3⟩:=nmq ((((w2.setCell ⟨w.heap.size,0,none⟩ (.slice Bv m1 dv)).setCell ⟨w.heap.size,1,none⟩ (.slice Ba m2 da)).setCell ⟨w.heap.size,2,none⟩ (.slice Bp m3 dp)).setCell ⟨w.heap.size,3,none⟩ (.slice Bm m4 dm))
 have hff:Fr (fun i=>i=w.heap.size) w2 w3:=by rw[hw3];exact Fr.own (Fr.own (Fr.own (Fr.own (Fr.refl _ _) _ _) _ _) _ _) _ _
 have hk3:Bk w3 w.heap.size 49 #[.slice Bv m1 dv,.slice Ba m2 da,.slice Bp m3 dp,.slice Bm m4 dm]:=by
  have:=(((hk0.set_ 0 (.slice Bv m1 dv)).set_ 1 (.slice Ba m2 da)).set_ 2 (.slice Bp m3 dp)).set_ 3 (.slice Bm m4 dm)
  rw[hw3];simpa using this
 have hg3:Bk w3 (w.heap.size+1) 32 #[.int .i64 0,.slice none 0 0,.int .i64 0,.int .i64 0,.int .i64 0,.slice none 0 0]:=hk1.fr hff (fun e=>by have e:w.heap.size+1=w.heap.size:=e;omega)
 have hf3:Fr NoT w w3:=Fr.thenT (HF1.out.trans hf2) hff fun i hi e=>by have e:i=w.heap.size:=e;omega
 have hT3:TrR w3 (New w1.heap.size w3) False x Bv Ba Bp Bm dv da dp dm:=TrR.more (fun b hb=>⟨hb.1,ltq hb.2 hff.size⟩) (hT.keep (hff.same fun b hb=>⟨hb.2,fun e=>by have e:b=w.heap.size:=e;have:=hb.1;have:=HZ1.out;omega⟩))
 have hz3:w.heap.size+2≤w3.heap.size:=by have:=HZ1.out;have:=hf2.size;have:=hff.size;omega
 have HT3:=hdq hT3
 have HK3:=hdq hk3
 have HG3:=hdq hg3
 have HF3:=hdq hf3
 have HW3:=hdq hw3
 have HZ3:=hdq hz3
 clear hT hf2 hk0 hk1 hw3 hff hk3 hg3 hf3 hT3 hz3 HK0 HK1 HIN
 go_wp2_with fail

 rw[←HW3.out]
 clear y0 y1 y2 y3 z0 z1 z2 z3 yl
 have hV:=HV.out
 subst hV
 by_cases h0:er=0
 ·subst h0
  have HOK2:=hdq (HOK.out rfl)
  have HRE:=hdq (show R=(if 2048 < (grF x).edges.length ∨4096 < (grF x).nodes then(noGr,9)else(⟨x.vars.length,x.arrays.map (·.size),(grF x).nodes,0,1,(grF x).edges⟩,0))from by rw[HR.out,if_pos rfl])
  clear HOK HR
  have hlm1:m1≤9223372036854775807:=by have:=HOK2.out.2.2.1.2;have:=HM.out.1;omega
  have hlm2:m2≤9223372036854775807:=by have:=HOK2.out.2.2.2.2;have:=HM.out.2.1;omega
  have hmm:= @run_makeMap Tryz.prog
  obtain⟨w4,hw4⟩:=nmq (((w3.alloc (.map #[] 0)).alloc (.map #[] 0)).alloc (.cells #[.int .i64 m1,.slice none 0 0,.int .i64 2,.int .i64 0,.int .i64 1,.slice none 0 0,.map (some w3.heap.size),.map (some (w3.heap.size+1))] 85))
  have hf4:Fr NoT w3 w4:=by rw[hw4];exact(((Fr.refl _ _).alloc _).alloc _).alloc _
  have hb4:Bk w4 (w3.heap.size+2) 85 #[.int .i64 m1,.slice none 0 0,.int .i64 2,.int .i64 0,.int .i64 1,.slice none 0 0,.map (some w3.heap.size),.map (some (w3.heap.size+1))]:=by rw[hw4];exact bk_three _ _ _
  have hmS:NoM w4 w3.heap.size 0 (numsV []):=by
   rw[hw4]
   exact((NoM.made w3).fr ((Fr.refl NoT _).alloc _) id).fr ((Fr.refl NoT _).alloc _) id
  have hmA:NoM w4 (w3.heap.size+1) 0 (numsV []):=by
   rw[hw4]
   have:=(NoM.made (w3.alloc (.map #[] 0))).fr ((Fr.refl NoT _).alloc (.cells #[.int .i64 m1,.slice none 0 0,.int .i64 2,.int .i64 0,.int .i64 1,.slice none 0 0,.map (some w3.heap.size),.map (some (w3.heap.size+1))] 85)) id
   simpa using this
  have t0:=HK3.out.cell 0
  have tl:=HK3.out.lt
  have u0:=(HK3.out.fr0 hf4).cell 0
  have ul:=(HK3.out.fr0 hf4).lt
  simp only[getsL]at t0 u0
  have hz4:w4.heap.size=w3.heap.size+3:=by rw[hw4];simp
  rw[hw4]at u0 ul
  have HW4:=hdq hw4
  have HF4:=hdq hf4
  have HB4:=hdq hb4
  have HMA:=hdq hmA
  have HZ4:=hdq hz4
  have HI1:=hdq (show GrI1 w3.heap.size x.vars w4 w4 0 from⟨hmS,Fr.refl _ _⟩)
  clear hw4 hf4 hb4 hmS hmA hz4
  go_wp2_with fail
  rw[←HW4.out]
  clear t0 tl u0 ul hmm
  obtain⟨M,hM⟩:=nmq (w3.heap.size+2)
  rw[←hM]
  rw[←hM]at HB4
  have HMM:=hdq hM
  clear hM
  go_loopw [30] (fun i wr=>∃k:Nat,k≤m1∧i= .int .i64 k∧Hid (GrI1 w3.heap.size x.vars w4 wr k)) (fun i _=>m1 - (intOf i).toNat)
  case atStart=>exact⟨0,Nat.zero_le _,rfl,HI1⟩
  case round=>
   clear HI1
   obtain⟨k,hk,rfl,hb⟩:=hrel
   have hfwr:Fr NoT w3 wr:=Fr.back1 HF4.out (hb.out.fr.mono fun i _ e=>(by have e:i=w3.heap.size:=e;show w3.heap.size≤i;omega)) (lrq _)
   have hkM:Bk wr M 85 #[.int .i64 m1,.slice none 0 0,.int .i64 2,.int .i64 0,.int .i64 1,.slice none 0 0,.map (some w3.heap.size),.map (some (w3.heap.size+1))]:=HB4.out.fr hb.out.fr (fun e=>by have e:M=w3.heap.size:=e;have:=HMM.out;omega)
   have HFW:=hdq hfwr
   have HKM:=hdq hkM
   by_cases hlt:k < m1
   ·
    obtain⟨⟨a0,a1⟩,ar,hd,hd1⟩:=drop_head1 (show k < x.vars.length from by rw[←HM.out.1];exact hlt)
    obtain⟨gb,go,rfl,hat⟩:=HT3.out.vars.2.2 (by rw[←HM.out.1];omega)
    have hat1:=hat.drop k
    rw[hd]at hat1
    obtain⟨⟨hbS,_,r1,d0,d1⟩,_⟩:=hat1
    have c0:=(hfwr.cell (p:=⟨gb,go+k*2,none⟩) hbS.2 id).trans d0
    have c1:=(hfwr.cell (p:=⟨gb,go+k*2+1,none⟩) hbS.2 id).trans d1
    have hxr:gb < wr.heap.size:=ltq hbS.2 hfwr.size
    have hlt':(k:Int) < (m1:Int):=by omega
    have hge:(0:Int)≤(k:Int):=by omega
    obtain⟨w6,hw6⟩:=nmq (wr.alloc (.cells #[.string a0,.int .i64 a1] 87))
    have hf6:Fr NoT wr w6:=by rw[hw6];exact(Fr.refl _ _).alloc _
    have hk6:Bk w6 wr.heap.size 87 #[.string a0,.int .i64 a1]:=by rw[hw6];exact Bk.new _ _ _
    have hkP:=hkM.fr0 hf6
    have hsz0:a0.size≤9223372036854775807:=(HOK2.out.2.2.1.1) ⟨a0,a1⟩ (List.mem_of_mem_drop (i:=k) (by rw[hd];simp))
    obtain⟨w7,hput,hm7,hg7⟩:=((hb.out.map.fr hf6 id).fr ((Fr.refl NoT w6).drew) id).put Tryz.underlying83 (s:=a0) hsz0 (.int .i64 k) (by have h1:=HOK2.out.2.2.1.2;rw[←HM.out.1]at h1;unfold maxLen;omega)
    have hk0w:=HK3.out.fr0 hfwr
    have x0:=hk0w.cell 0
    have xl:=hk0w.lt
    have p0:=hkP.cell 6
    have pl:=hkP.lt
    have t0:=hk6.cell 0
    have tl:=hk6.lt
    simp only[getsL]at p0 t0 x0
    have hf47:Fr (fun i=>i=w3.heap.size) w4 w7:=(hb.out.fr.trans hf6.any).trans (((Fr.refl _ w6).drew).trans (Fr.grown hg7 fun g e _=>(Option.some.inj e).symm))
    have HNX:=hdq (show GrI1 w3.heap.size x.vars w4 w7 (k+1)from⟨by
     rw[take_snocV hd]
     refine NoM.snoc ?_
     have hl:((x.vars.take k).map (·.nm.data.toList)).length =k:=by rw[List.length_map,List.length_take];have:=HM.out.1;omega
     rw[hl]
     exact hm7,hf47⟩)
    have HW6:=hdq hw6
    clear hd hd1 hat hbS r1 d0 d1 hfwr hw6 hf6 hk6 hkP hm7 hg7 hf47 hsz0 hkM hk0w
    go_wp2_with fail
    rw[←HW6.out]
    clear c0 c1 hxr x0 xl
    refine wp_region_E (GrS8 M wr.heap.size 6 w3.heap.size a0) (fun i=>decide (i < 7)) (by kernel_rfl) ⟨pl,tl,p0,t0⟩ (fun hHeld=>?_)
    refine wpE_pu 0 ?_
    try simp only[putsL]
    refine wpE_pu 1 ?_
    try simp only[putsL]
    refine wpE_pu 2 ?_
    try simp only[putsL]
    refine wpE_pu 4 ?_
    try simp only[putsL]
    refine wpE_pu 6 ?_
    try simp only[putsL]
    refine wpE_take 3 (v:=?_) rfl (by kernel_rfl) (fun _ _ _ h=>h) hHeld (by rfl) ?_ ?_;rotate_left
    ·intro wz hSz;(try dsimp only[GrS8,GrS14]at hSz);go_simp;try with_reducible rfl
    try simp only[putsL]
    refine wpE_take 5 (v:=?_) rfl (by kernel_rfl) (fun _ _ _ h=>h) hHeld (by rfl) ?_ ?_;rotate_left
    ·intro wz hSz;(try dsimp only[GrS8,GrS14]at hSz);go_simp;try with_reducible rfl
    try simp only[putsL]
    refine wpE_next 7 rfl (by kernel_rfl) (fun KK hK=>?_)
    go_simp
    refine hK _ _ (fun h=>absurd h (by decide)) ?_
    clear hK KK
    try simp only[putsL]
    refine wpE_done (by kernel_rfl) ?_
    clear p0 pl t0 tl hput hHeld
    go_wp2_with fail
    go_roundw
    case rel=>exact⟨k+1,by omega,by go_num,HNX⟩
    case measure=>simp[intOf];omega
   ·
    have hlt':¬(k:Int) < (m1:Int):=by omega
    have hk:k=m1:=by omega
    subst hk
    obtain⟨w5,hw5⟩:=nmq wr
    subst hw5
    have x1:=(HK3.out.fr0 hfwr).cell 1
    have xl:=(HK3.out.fr0 hfwr).lt
    simp only[getsL]at x1
    have hI2:GrI2 w3.heap.size M (w3.heap.size+1) (fun sl=> #[.int .i64 k,sl,.int .i64 2,.int .i64 0,.int .i64 1,.slice none 0 0,.map (some w3.heap.size),.map (some (w3.heap.size+1))]) x.arrays w5 w5 0 (.slice none 0 0):=
     ⟨HMA.out.fr hb.out.fr (fun e=>by have e:w3.heap.size+1=w3.heap.size:=e;omega),hkM,World.ownsRow_nil _ _ _ _,Fr.refl _ _⟩
    have HI2:=hdq hI2
    clear hI2 hkM hfwr
    go_wp2_with fail
    clear x1 xl
    go_loopw [46] (fun i wr=>∃j:Nat,j≤m2∧i= .int .i64 j∧∃sl,Hid (GrI2 w3.heap.size M (w3.heap.size+1) (fun sl=> #[.int .i64 k,sl,.int .i64 2,.int .i64 0,.int .i64 1,.slice none 0 0,.map (some w3.heap.size),.map (some (w3.heap.size+1))]) x.arrays w5 wr j sl)) (fun i _=>m2 - (intOf i).toNat)
    case atStart=>exact⟨0,Nat.zero_le _,rfl,_,HI2⟩
    case round=>
     clear HI2
     obtain⟨j,hj,rfl,sl,hc⟩:=hrel
     have hfwq:Fr NoT w3 wr:=Fr.back1 HFW.out (hc.out.fr.mono fun i _ e=>(by have:=HMM.out;have e:i=w3.heap.size+1∨i=M∨M+1≤i:=e;show w3.heap.size≤i;omega)) (lrq _)
     have HFQ:=hdq hfwq
     by_cases hlt:j < m2
     ·
      obtain⟨⟨a0,a1,a2⟩,ar,hd,hd1⟩:=drop_head1 (show j < x.arrays.length from by rw[←HM.out.2.1];exact hlt)
      obtain⟨gb,go,rfl,hat⟩:=HT3.out.arrays.2.2 (by rw[←HM.out.2.1];omega)
      have hat1:=hat.drop j
      rw[hd]at hat1
      obtain⟨⟨hbS,_,rsz,r1,d0,d1,d2⟩,_⟩:=hat1
      have c0:=(hfwq.cell (p:=⟨gb,go+j*3,none⟩) hbS.2 id).trans d0
      have c1:=(hfwq.cell (p:=⟨gb,go+j*3+1,none⟩) hbS.2 id).trans d1
      have c2:=(hfwq.cell (p:=⟨gb,go+j*3+2,none⟩) hbS.2 id).trans d2
      have hxr:gb < wr.heap.size:=ltq hbS.2 hfwq.size
      have hlt':(j:Int) < (m2:Int):=by omega
      have hge:(0:Int)≤(j:Int):=by omega
      obtain⟨w6,hw6⟩:=nmq (wr.alloc (.cells #[.string a0,.int .i64 a1,.int .i64 a2] 89))
      have hf6:Fr NoT wr w6:=by rw[hw6];exact(Fr.refl _ _).alloc _
      have hk6:Bk w6 wr.heap.size 89 #[.string a0,.int .i64 a1,.int .i64 a2]:=by rw[hw6];exact Bk.new _ _ _
      have hkP:=hc.out.bk.fr0 hf6
      have hsz0:a0.size≤9223372036854775807:=(HOK2.out.2.2.2.1) ⟨a0,a1,a2⟩ (List.mem_of_mem_drop (i:=j) (by rw[hd];simp))
      obtain⟨w7,hput,hm7,hg7⟩:=((hc.out.map.fr hf6 id).fr ((Fr.refl NoT w6).drew) id).put Tryz.underlying83 (s:=a0) hsz0 (.int .i64 j) (by have h1:=HOK2.out.2.2.2.2;rw[←HM.out.2.1]at h1;unfold maxLen;omega)
      have hf67:Fr (fun i=>i=w3.heap.size+1) w6 w7:=((Fr.refl _ w6).drew).trans (Fr.grown hg7 fun g e _=>(Option.some.inj e).symm)
      have hmm7:NoM w7 (w3.heap.size+1) (j+1) (numsV ((x.arrays.take (j+1)).map (·.nm.data.toList))):=by
       rw[take_snocA hd,List.map_append]
       refine NoM.snoc ?_
       have hl:((x.arrays.take j).map (·.nm.data.toList)).length =j:=by rw[List.length_map,List.length_take];have:=HM.out.2.1;omega
       rw[hl]
       exact hm7
      have hlM:M < wr.heap.size:=hc.out.bk.lt
      have hk7:=hkP.fr hf67 (fun e=>by have e:M=w3.heap.size+1:=e;have:=HMM.out;omega)
      have hk67:=hk6.fr hf67 (fun e=>by have e:wr.heap.size=w3.heap.size+1:=e;have:=HMM.out;omega)
      have hrow7:w7.ownsRow (M+1) 3 1 sl j ((x.arrays.take j).map fun a=>Value.int .i64 a.size):=rw_keep (ownsRow_frF hc.out.row hf6) hf67 (fun i hi e=>by have e:i=w3.heap.size+1:=e;have:=(hc.out.row.lt i hi).1;have:=HMM.out;omega)
      have hS7:Hid (∀W',Fr NoT w7 W'→GrS14 M wr.heap.size sl a1 W'):=hdq (fun W' hf=>⟨(hk7.fr0 hf).lt,(hk67.fr0 hf).lt,(hk7.fr0 hf).cell 1,(hk67.fr0 hf).cell 1⟩)
      have p0:=hkP.cell 7
      have pl:=hkP.lt
      have t0:=hk6.cell 0
      have tl:=hk6.lt
      simp only[getsL]at p0 t0
      have HF7:=hdq (show Fr NoT wr w6∧Fr (fun i=>i=w3.heap.size+1) w6 w7 from⟨hf6,hf67⟩)
      have HK7:=hdq hk7
      have HR7:=hdq (aiq hrow7 (aiq hmm7 (aiq rsz hlM)))
      have HW6:=hdq hw6
      have HTK:=hdq (show(x.arrays.take (j+1)).map (fun a=>Value.int .i64 a.size)=((x.arrays.take j).map fun a=>Value.int .i64 a.size)++ [.int .i64 a1]from by rw[take_snocA hd];simp)
      have HJ:=hdq hlt
      clear hd hd1 hat hbS r1 rsz d0 d1 d2 hfwq hw6 hf6 hk6 hkP hm7 hg7 hf67 hsz0 hmm7 hk7 hk67 hrow7 hlM
      go_wp2_with fail
      rw[←HW6.out]
      clear c0 c1 c2 hxr
      refine wp_region_E (GrS8 M wr.heap.size 7 (w3.heap.size+1) a0) (fun i=>decide (i < 7)) (by kernel_rfl) ⟨pl,tl,p0,t0⟩ (fun hHeld=>?_)
      refine wpE_pu 0 ?_
      try simp only[putsL]
      refine wpE_pu 1 ?_
      try simp only[putsL]
      refine wpE_pu 2 ?_
      try simp only[putsL]
      refine wpE_pu 4 ?_
      try simp only[putsL]
      refine wpE_pu 6 ?_
      try simp only[putsL]
      refine wpE_take 3 (v:=?_) rfl (by kernel_rfl) (fun _ _ _ h=>h) hHeld (by rfl) ?_ ?_;rotate_left
      ·intro wz hSz;(try dsimp only[GrS8,GrS14]at hSz);go_simp;try with_reducible rfl
      try simp only[putsL]
      refine wpE_take 5 (v:=?_) rfl (by kernel_rfl) (fun _ _ _ h=>h) hHeld (by rfl) ?_ ?_;rotate_left
      ·intro wz hSz;(try dsimp only[GrS8,GrS14]at hSz);go_simp;try with_reducible rfl
      try simp only[putsL]
      refine wpE_next 7 rfl (by kernel_rfl) (fun KK hK=>?_)
      go_simp
      refine hK _ _ (fun h=>absurd h (by decide)) ?_
      clear hK KK
      try simp only[putsL]
      refine wpE_done (by kernel_rfl) ?_
      clear p0 pl t0 tl hput hHeld
      go_wp2_with fail
      obtain⟨i0,hi,hz0,hz1,hz2⟩:=info_parts infoInt2
      have HI:=hdq (aiq hi (aiq hz0 (aiq hz1 hz2)))
      clear hi hz0 hz1 hz2
      refine wp_region_E (GrS14 M wr.heap.size sl a1) (fun i=>decide (i < 10)) (by kernel_rfl) (hS7.out _ ((Fr.refl NoT w7).drew)) (fun hHeld=>?_)
      refine wpE_pu 0 ?_
      try simp only[putsL]
      refine wpE_pu 1 ?_
      try simp only[putsL]
      refine wpE_pu 2 ?_
      try simp only[putsL]
      refine wpE_pu 3 ?_
      try simp only[putsL]
      refine wpE_pu 4 ?_
      try simp only[putsL]
      refine wpE_take 5 (v:=?_) rfl (by kernel_rfl) (fun _ _ _ h=>h) hHeld (by rfl) ?_ ?_;rotate_left
      ·intro wz hSz;(try dsimp only[GrS8,GrS14]at hSz);go_simp;try with_reducible rfl
      try simp only[putsL]
      refine wpE_pu 6 ?_
      try simp only[putsL]
      refine wpE_take 7 (v:=?_) rfl (by kernel_rfl) (fun _ _ _ h=>h) hHeld (by rfl) ?_ ?_;rotate_left
      ·intro wz hSz;(try dsimp only[GrS8,GrS14]at hSz);go_simp;try with_reducible rfl
      try simp only[putsL]
      refine wpE_next 8 rfl (by kernel_rfl) (fun KK hK=>?_)
      go_simp
      obtain⟨w8,hw8⟩:=nmq ((w7.alloc (.cells #[.int .i64 a1] 3)).drew )
      rw[←hw8]
      have hf8:Fr NoT w7 w8:=by rw[hw8];exact((Fr.refl _ _).alloc _).drew
      have hk8:Bk w8 w7.heap.size 3 ([.int .i64 a1]:List Value).toArray :=by rw[hw8];exact(Bk.new _ _ _).fr0 ((Fr.refl _ _).drew)
      have hs8:=hS7.out w8 hf8
      have HF8:=hdq hf8
      have HK8:=hdq hk8
      have HROW8:=hdq (ownsRow_frF HR7.out.1 hf8)
      have hb8:M+1≤w8.heap.size:=by have:=HK7.out.lt;have:=hf8.size;omega
      clear hw8 hf8 hk8 hHeld
      try dsimp only
      refine hK _ _ (fun _ _=>hs8) ?_
      clear hK KK
      try simp only[putsL]
      refine wpE_next 9 rfl (by kernel_rfl) (fun KK hK=>?_)
      refine step_append_lies _ (by rfl) _ _ _ (by rfl) (M+1) 3 i0 (.int .i64 0) 1 8 Tryz.underlying29 HI.out.1 HI.out.2.1 HI.out.2.2.1 HI.out.2.2.2 rfl (by decide) sl j _ (by rfl) HROW8.out
       ⟨w7.heap.size,0,none⟩ 1 1 _ (by rfl) (by rfl) HK8.out.newsL (by simp[Value.oneCell']) (by omega) ?c63 ?cby hb8 _ rfl ?_
      case c63=>have:=HJ.out;unfold maxLen;omega
      case cby=>have:=HJ.out;have h1:=HOK2.out.2.2.2.2;rw[←HM.out.2.1]at h1;omega
      intro gg cap w9 hown hgrow hsp hlt9
      rw[←HTK.out]at hown
      have hne:some M≠sl.ownBlock:=fun e=>by have:=(HROW8.out.lt M e.symm).1;omega
      have hneA:some (w3.heap.size+1)≠sl.ownBlock:=fun e=>by have:=(HROW8.out.lt _ e.symm).1;have:=HMM.out;omega
      have hneW:some wr.heap.size≠sl.ownBlock:=fun e=>by have:=(hc.out.row.lt _ e.symm).2;omega
      have hk8M:=HK7.out.fr0 HF8.out
      have hk9:Bk w9 M 85 #[.int .i64 k,sl,.int .i64 2,.int .i64 0,.int .i64 1,.slice none 0 0,.map (some w3.heap.size),.map (some (w3.heap.size+1))]:=(hgrow.block M hk8M.lt hne).trans hk8M
      have hm9:NoM w9 (w3.heap.size+1) (j+1) (numsV ((x.arrays.take (j+1)).map (·.nm.data.toList))):=MpV.kept (HR7.out.2.1.fr HF8.out id) hgrow hneA
      have f9:=hk9.frozen 1
      have q9:=hk9.cell 1
      have l9:=hk9.lt
      simp only[getsL]at q9
      have hs9:GrS14 M wr.heap.size sl a1 w9:=⟨l9,ltq hs8.2.1 hgrow.size,q9,(hgrow.cell_far ⟨wr.heap.size,1,none⟩ hs8.2.1 hneW).trans hs8.2.2.2⟩
      have hown9:Fr (fun i=>i=M) w9 (w9.setCell ⟨M,1,none⟩ (.slice (some ⟨gg,0,none⟩) (j+1) cap)):=Fr.own (Fr.refl _ _) _ _
      have HNX:=hdq (show GrI2 w3.heap.size M (w3.heap.size+1) (fun sl=> #[.int .i64 k,sl,.int .i64 2,.int .i64 0,.int .i64 1,.slice none 0 0,.map (some w3.heap.size),.map (some (w3.heap.size+1))]) x.arrays w5 (w9.setCell ⟨M,1,none⟩ (.slice (some ⟨gg,0,none⟩) (j+1) cap)) (j+1) (.slice (some ⟨gg,0,none⟩) (j+1) cap)from
       ⟨hm9.fr hown9 (fun e=>by have e:w3.heap.size+1=M:=e;have:=HMM.out;omega),by
        have:=hk9.set_ 1 (.slice (some ⟨gg,0,none⟩) (j+1) cap)
        simpa using this,ownsRow_set hown (Nat.lt_succ_self M) _,
        ((((hc.out.fr.trans HF7.out.1.any).trans (HF7.out.2.mono fun i _ e=> .inl e)).trans HF8.out.any).trans ((Fr.grown hgrow fun g e _=>(HROW8.out.lt g e).1).mono fun i _ e=> .inr (.inr e))).trans (hown9.mono fun i _ e=> .inr (.inl e))⟩)
      clear hown hgrow hsp hlt9 hne hneA hneW hk8M hk9 hm9 hown9 hs8 hb8
      try dsimp only
      refine hK _ _ (fun _ _=>hs9) ?_
      clear hK KK
      try simp only[putsL]
      refine wpE_next 10 rfl (by kernel_rfl) (fun KK hK=>?_)
      go_simp
      refine hK _ _ (fun h=>absurd h (by decide)) ?_
      clear hK KK
      try simp only[putsL]
      refine wpE_next 11 rfl (by kernel_rfl) (fun KK hK=>?_)
      go_simp
      refine hK _ _ (fun h=>absurd h (by decide)) ?_
      clear hK KK
      try simp only[putsL]
      refine wpE_next 12 rfl (by kernel_rfl) (fun KK hK=>?_)
      go_simp
      refine hK _ _ (fun h=>absurd h (by decide)) ?_
      clear hK KK
      try simp only[putsL]
      refine wpE_next 13 rfl (by kernel_rfl) (fun KK hK=>?_)
      go_simp
      refine hK _ _ (fun h=>absurd h (by decide)) ?_
      clear hK KK
      try simp only[putsL]
      refine wpE_done (by kernel_rfl) ?_
      clear hs9 f9 q9 l9
      go_wp2_with fail
      go_roundw
      case rel=>exact⟨j+1,by omega,by go_num,_,HNX⟩
      case measure=>simp[intOf];omega
     ·
      have hlt':¬(j:Int) < (m2:Int):=by omega
      have hj:j=m2:=by omega
      subst hj
      obtain⟨w8,hw8⟩:=nmq wr
      subst hw8
      have x3:=(HK3.out.fr0 hfwq).cell 3
      have xl:=(HK3.out.fr0 hfwq).lt
      simp only[getsL]at x3
      have hMM:=HMM.out
      have htv:x.vars.take k=x.vars:=List.take_of_length_le (by have:=HM.out.1;omega)
      have hta:x.arrays.take j=x.arrays:=List.take_of_length_le (by have:=HM.out.2.1;omega)
      have hnS:NoM w8 w3.heap.size k (numsV (x.vars.map (·.nm.data.toList))):=by
       have:=hb.out.map.fr hc.out.fr (fun e=>by have e:w3.heap.size=w3.heap.size+1∨w3.heap.size=M∨M+1≤w3.heap.size:=e;omega)
       rw[htv]at this
       exact this
      have hnA:NoM w8 (w3.heap.size+1) j (numsV (x.arrays.map (·.nm.data.toList))):=by
       have:=hc.out.map
       rw[hta]at this
       exact this
      have r1:NoR (numsV (x.vars.map (·.nm.data.toList))):=numsV_in _ (by rw[List.length_map];have:=HOK2.out.2.2.1.2;omega)
      have r2:NoR (numsV (x.arrays.map (·.nm.data.toList))):=numsV_in _ (by rw[List.length_map];have:=HOK2.out.2.2.2.2;omega)
      have hAt:FgC.At ⟨w3.heap.size,M,w3.heap.size,w3.heap.size+1,k,sl,numsV (x.vars.map (·.nm.data.toList)),numsV (x.arrays.map (·.nm.data.toList)),r1,r2⟩ ⟨2, []⟩ (.slice none 0 0) w8:=
       ⟨by show w3.heap.size≤M;omega,hc.out.bk,⟨⟨k,hnS⟩,j,hnA⟩,⟨by show w3.heap.size≠M;omega,by show w3.heap.size+1≠M;omega,by simp[Value.ownBlock],by simp[Value.ownBlock],by simp[Value.ownBlock]⟩, [],World.ownsRow_nil _ _ _ _,rfl⟩
      have hblk:=HOK2.out.1 ⟨w3.heap.size,M,w3.heap.size,w3.heap.size+1,k,sl,numsV (x.vars.map (·.nm.data.toList)),numsV (x.arrays.map (·.nm.data.toList)),r1,r2⟩ w8 ⟨2, []⟩ (.slice none 0 0) (New w1.heap.size w3) False Bm dm hAt (fun b hb=>hb.2) (HT3.out.main.imp fun _ _ h=>StR.keep (hfwq.same fun b hb=>⟨hb.2,id⟩) h) ⟨by show(0:Int)≤2;omega,by have:=HOK2.out.2.1;show(2:Int)+_≤_;omega,by have:=HOK2.out.2.1;show 0+_≤_;omega⟩ 0 1 0 (by unfold in64;decide) (by unfold in64;decide) (by unfold in64;decide)
      rw[←HM.out.2.2.2]at hblk
      have hgro:=grow_blk (numsV (x.vars.map (·.nm.data.toList))) (numsV (x.arrays.map (·.nm.data.toList))) x.main 0 1 0 ⟨2, []⟩
      obtain⟨s9,hs9⟩:=nmq (grF x)
      replace hgro:Grow (1+szT x.main) ⟨2, []⟩ s9:=by rw[hs9];exact hgro
      replace hblk:Calls Tryz.prog 31 #[.pointer (some ⟨M,0,none⟩),.slice Bm m4 dm,.int .i64 0,.int .i64 1,.int .i64 0] w8 (MkP ⟨w3.heap.size,M,w3.heap.size,w3.heap.size+1,k,sl,numsV (x.vars.map (·.nm.data.toList)),numsV (x.arrays.map (·.nm.data.toList)),r1,r2⟩ s9 (.slice none 0 0) w8):=by rw[hs9];exact hblk
      have hrow8:=hc.out.row
      rw[hta,show(x.arrays.map fun a=>Value.int .i64 a.size)=(x.arrays.map (·.size)).map (Value.int .i64)from by rw[List.map_map];rfl]at hrow8
      have hszs:∀n∈x.arrays.map (·.size),in64 n:=fun n hn=>by
       obtain⟨a,ha,rfl⟩:=List.mem_map.1 hn
       obtain⟨b,o,_,h⟩:=HT3.out.arrays.2.2 (List.length_pos_iff.2 fun e=>by rw[e]at ha;simp at ha)
       exact arR_in h a ha
      have hal:(x.arrays.map (·.size)).length =j:=by rw[List.length_map];exact HM.out.2.1.symm
      obtain⟨Aa,ca,hsl,hsa⟩:=rowI_slice (l:=x.arrays.map (·.size)) (by rw[hal];exact hrow8) hszs (by rw[hal];have:=HOK2.out.2.2.2.2;have:=HM.out.2.1;omega)
      rw[hal]at hsl
      subst hsl
      have HBLK:=hdq hblk
      have HGRO:=hdq (show 2≤s9.nodes∧s9.nodes≤1000000000000∧s9.edges.length≤1000000000000 from by obtain⟨g1,g2,g3⟩:=hgro;have:=HOK2.out.2.1;simp only[List.length_nil]at g1 g2 g3;exact⟨g1,by omega,by omega⟩)
      have HS9:=hdq hs9
      have HSA:=hdq hsa
      have HFQ2:=hdq hfwq
      have HKM8:=hdq hc.out.bk
      clear hblk hgro hs9 hsa hfwq hrow8 hszs hal hAt hnS hnA htv hta hMM
      go_wp2_with fail
      refine HBLK.out.mono ?_
      rintro _ w9 ⟨u',rfl,hAt9,hmade⟩
      obtain⟨cs9,hr9,hrr9⟩:=hAt9.row
      obtain⟨Ae,ce,hu,hse⟩:=rowE_slice hr9 hrr9 (by have:=HGRO.out.2.2;omega)
      subst hu
      have hbk9:Bk w9 M 85 #[.int .i64 k,.slice Aa j ca,.int .i64 s9.nodes,.int .i64 0,.int .i64 1,.slice Ae s9.edges.length ce,.map (some w3.heap.size),.map (some (w3.heap.size+1))]:=hAt9.bk
      have hf89:Fr (fun i=>i=M) w8 w9:=hmade.fr.mono fun i _ e=>by
       rcases e with e|e
       ·exact e
       ·simp[Value.ownBlock]at e
      have hf39:Fr NoT w3 w9:=Fr.back1 HFQ2.out (hf89.mono fun i _ e=>(by have:=HMM.out;have e:i=M:=e;show w3.heap.size≤i;omega)) (lrq _)
      have hg9:=HG3.out.fr0 hf39
      obtain⟨nE,hnE⟩:=nmq s9.edges.length
      obtain⟨nN,hnN⟩:=nmq s9.nodes
      rw[←hnE,←hnN]at hbk9
      have q0:=hg9.frozen 0
      have q1:=hg9.frozen 1
      have q2:=hg9.frozen 2
      have q3:=hg9.frozen 3
      have q4:=hg9.frozen 4
      have q5:=hg9.frozen 5
      have p0:=hg9.cell 0
      have p1:=hg9.cell 1
      have p2:=hg9.cell 2
      have p3:=hg9.cell 3
      have p4:=hg9.cell 4
      have p5:=hg9.cell 5
      have pl:=hg9.lt
      have l0:=hbk9.cell 0
      have l1:=hbk9.cell 1
      have l2:=hbk9.cell 2
      have l3:=hbk9.cell 3
      have l4:=hbk9.cell 4
      have l5:=hbk9.cell 5
      have ll:=hbk9.lt
      simp only[getsL]at p0 p1 p2 p3 p4 p5 l0 l1 l2 l3 l4 l5
      have HR2:=hdq (show R=(if 2048 < nE∨4096 < nN then(noGr,9)else(⟨x.vars.length,x.arrays.map (·.size),nN,0,1,s9.edges⟩,0))from by rw[HRE.out,←HS9.out,←hnE,←hnN])
      have HG9:=hdq hg9
      have HF39:=hdq hf39
      have HF89:=hdq hf89
      have HSE:=hdq hse
      have HNN:=hdq (aiq hnE hnN)
      clear hAt9 hmade hr9 hrr9 hse hbk9 hf89 hf39 hg9 hnE hnN x3 xl HBLK
      rcases(show(2048:Int) < (nE:Int)∨(¬(2048:Int) < (nE:Int)∧(4096:Int) < nN)∨(¬(2048:Int) < (nE:Int)∧¬(4096:Int) < nN)from by omega)with h1|⟨h1,h2⟩|⟨h1,h2⟩
      ·
       have HRR:=hdq (show R=(noGr,9)from by rw[HR2.out,if_pos (.inl (by omega))])
       obtain⟨wf,hwf⟩:=nmq ((((((w9.setCell ⟨w.heap.size+1,0,none⟩ (.int .i64 0)).setCell ⟨w.heap.size+1,1,none⟩ (.slice none 0 0)).setCell ⟨w.heap.size+1,2,none⟩ (.int .i64 0)).setCell ⟨w.heap.size+1,3,none⟩ (.int .i64 0)).setCell ⟨w.heap.size+1,4,none⟩ (.int .i64 0)).setCell ⟨w.heap.size+1,5,none⟩ (.slice none 0 0))
       have hff:Fr NoT w wf:=by rw[hwf];exact((((((HF3.out.trans HF39.out).high (by omega) _ _).high (by omega) _ _).high (by omega) _ _).high (by omega) _ _).high (by omega) _ _).high (by omega) _ _
       have hkf:Bk wf (w.heap.size+1) 32 #[.int .i64 0,.slice none 0 0,.int .i64 0,.int .i64 0,.int .i64 0,.slice none 0 0]:=by
        have:=(((((HG9.out.set_ 0 (.int .i64 0)).set_ 1 (.slice none 0 0)).set_ 2 (.int .i64 0)).set_ 3 (.int .i64 0)).set_ 4 (.int .i64 0)).set_ 5 (.slice none 0 0)
        rw[hwf];simpa using this
       have HWF:=hdq hwf
       have HFF2:=hdq hff
       have HKF:=hdq hkf
       clear hwf hff hkf
       go_wp2_with fail
       rw[←HWF.out]
       refine bodyPost_ret (res_cell_tmp (p:=2) (q:=3) (ty:=32) rfl _ _ (w.heap.size+1) 32 _ (0,0) _ rfl HKF.out Tryz.underlying32 rfl sizeGr) rfl ?_
       rw[HRR.out]
       exact⟨none,none,0,0,rfl,noGr_at _ _,HFF2.out⟩
      ·
       have HRR:=hdq (show R=(noGr,9)from by rw[HR2.out,if_pos (.inr h2)])
       obtain⟨wf,hwf⟩:=nmq ((((((w9.setCell ⟨w.heap.size+1,0,none⟩ (.int .i64 0)).setCell ⟨w.heap.size+1,1,none⟩ (.slice none 0 0)).setCell ⟨w.heap.size+1,2,none⟩ (.int .i64 0)).setCell ⟨w.heap.size+1,3,none⟩ (.int .i64 0)).setCell ⟨w.heap.size+1,4,none⟩ (.int .i64 0)).setCell ⟨w.heap.size+1,5,none⟩ (.slice none 0 0))
       have hff:Fr NoT w wf:=by rw[hwf];exact((((((HF3.out.trans HF39.out).high (by omega) _ _).high (by omega) _ _).high (by omega) _ _).high (by omega) _ _).high (by omega) _ _).high (by omega) _ _
       have hkf:Bk wf (w.heap.size+1) 32 #[.int .i64 0,.slice none 0 0,.int .i64 0,.int .i64 0,.int .i64 0,.slice none 0 0]:=by
        have:=(((((HG9.out.set_ 0 (.int .i64 0)).set_ 1 (.slice none 0 0)).set_ 2 (.int .i64 0)).set_ 3 (.int .i64 0)).set_ 4 (.int .i64 0)).set_ 5 (.slice none 0 0)
        rw[hwf];simpa using this
       have HWF:=hdq hwf
       have HFF2:=hdq hff
       have HKF:=hdq hkf
       clear hwf hff hkf
       go_wp2_with fail
       rw[←HWF.out]
       refine bodyPost_ret (res_cell_tmp (p:=2) (q:=3) (ty:=32) rfl _ _ (w.heap.size+1) 32 _ (0,0) _ rfl HKF.out Tryz.underlying32 rfl sizeGr) rfl ?_
       rw[HRR.out]
       exact⟨none,none,0,0,rfl,noGr_at _ _,HFF2.out⟩
      ·
       have HRR:=hdq (show R=(⟨x.vars.length,x.arrays.map (·.size),nN,0,1,s9.edges⟩,0)from by rw[HR2.out,if_neg (by omega)])
       obtain⟨wf,hwf⟩:=nmq ((((((w9.setCell ⟨w.heap.size+1,0,none⟩ (.int .i64 k)).setCell ⟨w.heap.size+1,1,none⟩ (.slice Aa j ca)).setCell ⟨w.heap.size+1,2,none⟩ (.int .i64 nN)).setCell ⟨w.heap.size+1,3,none⟩ (.int .i64 0)).setCell ⟨w.heap.size+1,4,none⟩ (.int .i64 1)).setCell ⟨w.heap.size+1,5,none⟩ (.slice Ae nE ce))
       have hff0:Fr (fun i=>i=w.heap.size+1) w9 wf:=by rw[hwf];exact Fr.own (Fr.own (Fr.own (Fr.own (Fr.own (Fr.own (Fr.refl _ _) _ _) _ _) _ _) _ _) _ _) _ _
       have hff:Fr NoT w wf:=Fr.thenT (HF3.out.trans HF39.out) hff0 fun i hi e=>by have e:i=w.heap.size+1:=e;omega
       have hkf:Bk wf (w.heap.size+1) 32 #[.int .i64 k,.slice Aa j ca,.int .i64 nN,.int .i64 0,.int .i64 1,.slice Ae nE ce]:=by
        have:=(((((HG9.out.set_ 0 (.int .i64 k)).set_ 1 (.slice Aa j ca)).set_ 2 (.int .i64 nN)).set_ 3 (.int .i64 0)).set_ 4 (.int .i64 1)).set_ 5 (.slice Ae nE ce)
        rw[hwf];simpa using this
       have hzz:w.heap.size+1 < M:=by have:=HMM.out;have:=HZ3.out;omega
       have h98:=HF89.out.size
       have hf9:=hff0.size
       have hk89:SameS (New (M+1) w8) w8 w9:=HF89.out.same fun b hb=>⟨hb.2,fun e=>by have e:b=M:=e;have:M+1≤b:=hb.1;omega⟩
       have hk9f:SameS (New (M+1) w8) w9 wf:=hff0.same fun b hb=>⟨by have:b < w8.heap.size:=hb.2;omega,fun e=>by have e:b=w.heap.size+1:=e;have:M+1≤b:=hb.1;omega⟩
       have hk9f':SameS (New (M+1) w9) w9 wf:=hff0.same fun b hb=>⟨hb.2,fun e=>by have e:b=w.heap.size+1:=e;have:M+1≤b:=hb.1;omega⟩
       have hmo8:∀b,New (M+1) w8 b→New w.heap.size wf b:=fun b hb=>⟨by have:M+1≤b:=hb.1;omega,by have:b < w8.heap.size:=hb.2;omega⟩
       have hmo9:∀b,New (M+1) w9 b→New w.heap.size wf b:=fun b hb=>⟨by have:M+1≤b:=hb.1;omega,by have:b < w9.heap.size:=hb.2;omega⟩
       have HGR:=hdq (show GrR wf (New w.heap.size wf) ⟨x.vars.length,x.arrays.map (·.size),nN,0,1,s9.edges⟩ Aa ca Ae ce from
        ⟨HSA.out.imp fun _ _ h=>((h.keep hk89).keep hk9f).more hmo8,
         HSE.out.imp fun _ _ h=>EgR.more hmo9 (EgR.keep hk9f' h),
         by
          have g1:=HGRO.out
          have g2:=HNN.out.2
          have g3:=HOK2.out.2.2.1.2
          unfold Gr.ok in64
          refine⟨⟨?_,?_⟩,⟨?_,?_⟩,⟨?_,?_⟩,⟨?_,?_⟩⟩
          ·show(-9223372036854775808:Int)≤(x.vars.length:Int);omega
          ·show(x.vars.length:Int)≤9223372036854775807;omega
          ·show -9223372036854775808≤nN;omega
          ·show nN≤9223372036854775807;omega
          ·show(-9223372036854775808:Int)≤0;omega
          ·show(0:Int)≤9223372036854775807;omega
          ·show(-9223372036854775808:Int)≤1;omega
          ·show(1:Int)≤9223372036854775807;omega⟩)
       have HWF:=hdq hwf
       have HFF2:=hdq hff
       have HKF:=hdq hkf
       clear hwf hff0 hff hkf hzz h98 hf9 hk89 hk9f hk9f' hmo8 hmo9
       go_wp2_with fail
       rw[←HWF.out]
       refine bodyPost_ret (res_cell_tmp (p:=2) (q:=3) (ty:=32) rfl _ _ (w.heap.size+1) 32 _ (0,0) _ rfl HKF.out Tryz.underlying32 rfl sizeGr) rfl ?_
       rw[HRR.out]
       refine⟨Aa,Ae,ca,ce,?_,HGR.out,HFF2.out⟩
       simp only[grV,List.length_map,←HM.out.1,←HM.out.2.1,←HNN.out.1]
       rfl
 ·have h0':¬er=0:=h0
  have q0:=HG3.out.frozen 0
  have q1:=HG3.out.frozen 1
  have q2:=HG3.out.frozen 2
  have q3:=HG3.out.frozen 3
  have q4:=HG3.out.frozen 4
  have q5:=HG3.out.frozen 5
  have p0:=HG3.out.cell 0
  have p1:=HG3.out.cell 1
  have p2:=HG3.out.cell 2
  have p3:=HG3.out.cell 3
  have p4:=HG3.out.cell 4
  have p5:=HG3.out.cell 5
  have pl:=HG3.out.lt
  simp only[getsL]at p0 p1 p2 p3 p4 p5
  have HRR:=hdq (show R=(noGr,er)from by rw[HR.out,if_neg h0])
  obtain⟨wf,hwf⟩:=nmq ((((((w3.setCell ⟨w.heap.size+1,0,none⟩ (.int .i64 0)).setCell ⟨w.heap.size+1,1,none⟩ (.slice none 0 0)).setCell ⟨w.heap.size+1,2,none⟩ (.int .i64 0)).setCell ⟨w.heap.size+1,3,none⟩ (.int .i64 0)).setCell ⟨w.heap.size+1,4,none⟩ (.int .i64 0)).setCell ⟨w.heap.size+1,5,none⟩ (.slice none 0 0))
  have hff:Fr NoT w wf:=by rw[hwf];exact(((((HF3.out.high (by omega) _ _).high (by omega) _ _).high (by omega) _ _).high (by omega) _ _).high (by omega) _ _).high (by omega) _ _
  have hkf:Bk wf (w.heap.size+1) 32 #[.int .i64 0,.slice none 0 0,.int .i64 0,.int .i64 0,.int .i64 0,.slice none 0 0]:=by
   have:=(((((HG3.out.set_ 0 (.int .i64 0)).set_ 1 (.slice none 0 0)).set_ 2 (.int .i64 0)).set_ 3 (.int .i64 0)).set_ 4 (.int .i64 0)).set_ 5 (.slice none 0 0)
   rw[hwf];simpa using this
  have HWF:=hdq hwf
  have HFF2:=hdq hff
  have HKF:=hdq hkf
  clear hwf hff hkf
  go_wp2_with fail
  rw[←HWF.out]
  refine bodyPost_ret (res_cell_tmp (p:=2) (q:=3) (ty:=32) rfl _ _ (w.heap.size+1) 32 _ (0,0) _ rfl HKF.out Tryz.underlying32 rfl sizeGr) rfl ?_
  rw[HRR.out]
  exact⟨none,none,0,0,rfl,noGr_at _ _,HFF2.out⟩
end Go.Proofs.YtphlnpaikpjakaaGreatDoor
