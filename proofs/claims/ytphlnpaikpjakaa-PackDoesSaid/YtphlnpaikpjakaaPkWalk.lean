/-
  pack.Packs.
-/
import Derived.Test.YtphlnpaikpjakaaPkOut
import Derived.Test.YtphlnpaikpjakaaPkRound
import Derived.Test.YtphlnpaikpjakaaShelf
import Derived.ScopeJumps
import Derived.WalkMore
set_option linter.unusedVariables false
set_option linter.unusedSimpArgs false
namespace Go.Proofs.Ytphlnpaikpjakaa
open Go.RowKit Go.Shelf
attribute [local go_sem] Oper.semAt_some

theorem infoPtr:(Try.prog.info? 49).map (fun i=>(i.zero,i.size,i.bytes))=some (some (.pointer none),1,8):=by kernel_rfl
theorem infoRow:(Try.prog.info? 22).map (fun i=>(i.zero,i.size,i.bytes))=some (some (.slice none 0 0),1,24):=by kernel_rfl
theorem infoInt7:(Try.prog.info? 3).map (fun i=>(i.zero,i.size,i.bytes))=some (some (.int .i64 0),1,8):=by kernel_rfl
theorem run_mkP (n:Nat) (hn:n≤100000) (w:World):(Instr.makeSlice 48 (.int .i64 n) (.int .i64 n)).run Try.prog w= .ok (.slice (some ⟨w.heap.size,0,none⟩) n n) (w.alloc (.cells (List.replicate n (Value.pointer none)).toArray 49)):=by
 obtain⟨i0,hi,hz0,hz1,hz2⟩:=info_parts infoPtr
 have h:=run_makeSlice (P:=Try.prog) w 48 49 i0 (.pointer none) Try.underlying48 hi hz0 .i64 .i64 (n:Int) n (by omega) (Int.le_refl _) (by rw[hz1];simp;omega) (by rw[hz2];omega) (by omega)
 simp only[Int.toNat_natCast,hz1,Nat.mul_one]at h
 have e:madeCells (Value.pointer none).cells n=(List.replicate n (Value.pointer none)).toArray :=by
  apply Array.ext
  ·simp[size_madeCells]
  ·intro j h1 h2
   have e1:j % 1=0:=Nat.mod_one j
   simp[madeCells,Value.cells,e1]
 rw[e]at h
 exact h
theorem pk0_succ (k:Nat):pk0 (k+1)=pk0 k++ [[(k:Int)]]:=by simp[pk0,List.range_succ]
theorem all_step {n₀:Nat} {W w6:World} {tb m k:Nat} {y y':Value} {xs ys:List Value} (hy:Boxed W tb 22 y) (hrow:W.ownsRow n₀ 3 1 y m xs) (hn:n₀≤W.heap.size) (htb:n₀≤tb) (hg:W.drew.grownBy w6 y.ownBlock) (ho:w6.ownsRow n₀ 3 1 y' k ys):
  Boxed w6 tb 22 y∧Boxed (w6.setCell ⟨tb,0,none⟩ y') tb 22 y'∧(w6.setCell ⟨tb,0,none⟩ y').ownsRow n₀ 3 1 y' k ys∧KeepsOthers W (w6.setCell ⟨tb,0,none⟩ y')∧KpT n₀ W (w6.setCell ⟨tb,0,none⟩ y'):=by
 have hte:(22:TypeId)≠3:=by decide
 have hv1:Boxed w6 tb 22 y:=Boxed.kept (W:=W.drew) hy hg (hy.not_row hte hrow)
 have hrb:∀j,y.ownBlock=some j→n₀≤j∧∃cs,W.heap[j]?=some (.cells cs 3 (0,0)):=fun j ej=>by
  rcases hrow.2 with⟨rfl,_⟩|⟨g,cap,cur,rfl,hb,hgb,_⟩
  ·simp[Value.ownBlock]at ej
  ·obtain rfl:g=j:=by simpa[Value.ownBlock]using ej
   exact⟨hb,cur,hgb⟩
 have hsz:(w6.setCell ⟨tb,0,none⟩ y').heap.size =w6.heap.size:=by simp
 refine⟨hv1,hv1.set y',ho.kept (grownBy_setCell' w6 tb y') (.inr (hv1.not_row hte ho).symm),?_,?_,?_,fun j cs t fr hk h1 h2=>?_⟩
 ·refine((KeepsOthers.drew W).trans (KeepsOthers.of_grownBy hg fun j o ej hj=>?_)).trans (KeepsOthers.setCell _ _ _)
  obtain⟨_,cs,hc⟩:=hrb j ej
  have hc':W.drew.heap[j]?=some (.cells cs 3 (0,0)):=hc
  rw[hc']at hj;cases hj;rfl
 ·exact((Below.refl n₀ W).drew.grown hg hn fun j ej=>(hrb j ej).1).setCell (p:=⟨tb,0,none⟩) htb y'
 ·rw[hsz];exact hg.size
 ·have hlt:=(Array.getElem?_eq_some_iff.1 hk).1
  have n1:some j≠y.ownBlock:=fun e=>by
   obtain⟨_,cs',hc⟩:=hrb j e.symm
   rw[hk]at hc
   cases hc
   exact h1 rfl
  have n2:j≠tb:=fun e=>by
   subst e
   rw[show W.heap[j]?=_ from hy]at hk
   cases hk
   exact h2 rfl
  exact(Below.heap_setCell w6 ⟨tb,0,none⟩ y' j n2).trans (hg.block j hlt n1)
theorem rowZ_holds {w:World} {L gg n cap:Nat} {l:List Int} (h:w.ownsRow L 3 1 (.slice (some ⟨gg,0,none⟩) n cap) n (intZ l)):Go.Sort.Holds (Value.int .i64) w gg 0 l.toArray:=by
 intro j hj
 have hl:=h.1
 simp only[intZ,List.length_map]at hl
 have hj':j < l.length:=by simpa using hj
 refine⟨?_,by rw[Nat.zero_add];exact h.frozenAt j⟩
 rw[Nat.zero_add,h.cellAt j (by omega),intZ,List.getElem?_map,List.getElem?_eq_getElem hj']
 simp[hj']
theorem rowZ_put {w w':World} {L gg n cap k:Nat} {l l':List Int} {os:Array Obj} (h:w.ownsRow L 3 1 (.slice (some ⟨gg,0,none⟩) n cap) n (intZ l)) (hl':l'.length=l.length) (hw:w'=Go.Sort.grow (Go.Sort.putRow (Value.int .i64) (Go.Sort.ahead w k) gg 0 l'.toArray) os):
  w'.ownsRow L 3 1 (.slice (some ⟨gg,0,none⟩) n cap) n (intZ l')∧w.grownBy w' (some gg):=by
 have hl:=h.1
 simp only[intZ,List.length_map]at hl
 obtain⟨_,h1|⟨g',cap',cur,hv,hb,hg,hn,hc,hsz,ht⟩⟩:=h
 ·simp at h1
 ·simp only[Value.slice.injEq,Option.some.injEq,Addr.mk.injEq,and_true,true_and]at hv
  obtain⟨rfl,rfl⟩:=hv
  have e1:n=l.length:=by omega
  subst e1
  have hr:=ownsRow_sortedI (w:=w) (base:=L) (g:=gg) (cap:=cap) (n:=k) (e:=3) (os:=os) (cur:=cur) (ss:=l) (ts:=l') hl' hb hg hn hc hsz
  have hw2:=grownBy_sortedI (w:=w) (g:=gg) (n:=k) (os:=os) l'.toArray
  rw[←hw]at hr hw2
  exact⟨hr,hw2⟩
theorem grow_none (x:World):Go.Sort.grow x #[]=x:=by simp[Go.Sort.grow]
theorem clip_any (g n cap:Nat) (w:World) (hn:n≤cap) (hc:cap≤9223372036854775807) (h0:0 < n):
  Calls Try.prog 17 #[.slice (some ⟨g,0,none⟩) n cap] w fun e w'=>e= .returned (.slice (some ⟨g,0,none⟩) n n)∧w'=w:=by
 go_enter Try.func17,Try.ntmps17
 have hz:¬n=0:=by omega
 go_wp2_with fail
 go_ret
 exact⟨rfl,rfl⟩
theorem clip_zero (p:Option Addr) (cap:Nat) (w:World) (hc:cap≤9223372036854775807):
  Calls Try.prog 17 #[.slice p 0 cap] w fun e w'=>(∃p',e= .returned (.slice p' 0 0))∧w'=w:=by
 go_enter Try.func17,Try.ntmps17
 go_wp2_with fail
 go_ret
 exact⟨⟨_,rfl⟩,rfl⟩
theorem round_up {ne k:Nat} (h:k < ne) (hn:ne≤9223372036854775807):wrap64 ((k:Int)+1)=((k+1:Nat):Int):=by
 unfold wrap64;omega
theorem round_meas {ne k:Nat} (h:k < ne):ne - (intOf (.int .i64 ((k+1:Nat):Int))).toNat < ne - (intOf (.int .i64 (k:Int))).toNat :=by
 show ne - (((k+1:Nat):Int)).toNat < ne - ((k:Int)).toNat
 rw[Int.toNat_natCast,Int.toNat_natCast]
 exact Nat.sub_lt_sub_left h (Nat.lt_succ_self k)
theorem pkAll_len {P:List (List Int)} {m:Nat} (h:∀(i:Nat) (l:List Int),P[i]?=some l→l.length≤m):∀sc:List Int,(pkAll P sc).length ≤m*sc.length
 | []=>by simp[pkAll]
 |n::sc=>by
  have ih:=pkAll_len h sc
  have h1:(P.getD n.toNat []).length ≤m:=by
   rw[List.getD_eq_getElem?_getD]
   cases hg:P[n.toNat]? with
   |none=>simp
   |some l=>exact h _ _ hg
  unfold pkAll at ih ⊢
  rw[List.flatMap_cons,List.length_append,List.length_cons,Nat.mul_succ]
  omega
theorem pkAll_snoc (P:List (List Int)) (pre:List Int) (n:Int):pkAll P (pre++ [n])=pkAll P pre++P.getD n.toNat []:=by simp[pkAll]
theorem pk_fill {wr:World} {ob v k:Nat} (h:PkM wr wr.heap.size ob v (pk0 k)) (hk:k < v) (hob:ob < wr.heap.size) (hv:k≤1000):
  PkM (((wr.setCell ⟨ob,k,none⟩ (.pointer (some ⟨wr.heap.size+1,0,none⟩))).alloc (.cells #[.int .i64 (k:Int)] 3)).alloc (.cells #[.slice (some ⟨wr.heap.size,0,none⟩) 1 1] 22))
   (((wr.setCell ⟨ob,k,none⟩ (.pointer (some ⟨wr.heap.size+1,0,none⟩))).alloc (.cells #[.int .i64 (k:Int)] 3)).alloc (.cells #[.slice (some ⟨wr.heap.size,0,none⟩) 1 1] 22)).heap.size ob v (pk0 (k+1)):=by
 obtain⟨wx,hwx⟩:=nmq ((wr.alloc (.cells #[.int .i64 (k:Int)] 3)).alloc (.cells #[.slice (some ⟨wr.heap.size,0,none⟩) 1 1] 22))
 have e:(((wr.setCell ⟨ob,k,none⟩ (.pointer (some ⟨wr.heap.size+1,0,none⟩))).alloc (.cells #[.int .i64 (k:Int)] 3)).alloc (.cells #[.slice (some ⟨wr.heap.size,0,none⟩) 1 1] 22))=wx.setCell ⟨ob,k,none⟩ (.pointer (some ⟨wr.heap.size+1,0,none⟩)):=by
  rw[hwx,World.setCell_alloc_past _ _ _ _ (by simp;omega),World.setCell_alloc_past _ _ _ _ hob]
 have hsz:wx.heap.size=wr.heap.size+2:=by rw[hwx];simp
 have b1:Bk wx wr.heap.size 3 #[.int .i64 (k:Int)]:=by rw[hwx];exact(Bk.new _ _ _).alloc _
 have b2:Bk wx (wr.heap.size+1) 22 #[.slice (some ⟨wr.heap.size,0,none⟩) 1 1]:=by rw[hwx];exact Bk.new_at _ _ _ (by simp)
 have hp:PkM wx wx.heap.size ob v (pk0 k):=(h.keep (by rw[hwx];exact((Below.refl _ _).alloc (lrq _) _).alloc (by simp) _)).rise (by omega)
 have hl0:(pk0 k).length =k:=by simp[pk0]
 rw[e]
 have hs2:(wx.setCell ⟨ob,k,none⟩ (.pointer (some ⟨wr.heap.size+1,0,none⟩))).heap.size =wx.heap.size:=by simp
 rw[hs2]
 refine hp.put (i:=k) (b:=wr.heap.size+1) (g:=wr.heap.size) (c:=1) (l:= [(k:Int)]) hk (by rw[pk0_succ];simp[hl0];omega) (fun j l' hj=>?_) (by omega) (by omega) (by rw[b2.cell 0];rfl) (by omega) (by omega) (by simp) (by omega) (fun j x hj=>?_)
 ·rw[pk0_succ]at hj
  by_cases hjk:j < k
  ·rw[List.getElem?_append_left (by omega)]at hj
   exact .inr ⟨by omega,hj⟩
  ·rw[List.getElem?_append_right (by omega),hl0]at hj
   obtain⟨h1,h2⟩:=List.getElem?_eq_some_iff.1 hj
   simp at h1
   obtain rfl:j=k:=by omega
   simp at h2
   exact .inl ⟨rfl,h2.symm⟩
 ·obtain⟨h1,h2⟩:=List.getElem?_eq_some_iff.1 hj
  simp at h1
  subst h1
  simp at h2
  subst h2
  exact⟨by rw[b1.cell 0];rfl,by unfold in64;omega⟩
theorem PkM.zero (w:World) (v:Nat):PkM (w.alloc (.cells (List.replicate v (Value.pointer none)).toArray 49)) (w.heap.size+1) w.heap.size v (pk0 0):=
 ⟨by simp[pk0],by omega,⟨_,by simp,Bk.new _ _ _⟩,fun i l h=>by simp[pk0]at h⟩

def PacksP (g:Gr) (most:Int) (W:World) (e:Ending) (w':World):Prop:=
 (mayG g=false∧e= .returned (.tuple #[.slice none 0 0,.int .i64 8])∧Below W.heap.size W w')∨
 (mayG g=true∧(most < 1∨6 < most)∧e= .returned (.tuple #[.slice none 0 0,.int .i64 2])∧Below W.heap.size W w')∨
 (mayG g=true∧1≤most∧most≤6∧∃(v:Nat) (u:Value),g.vars=(v:Int)∧e= .returned (.tuple #[u,.int .i64 0])∧LsM w' w'.heap.size (pkOut (pkRun most (pk0 v) (g.edges.map scalE)) v) u∧Below W.heap.size W w')

set_option maxRecDepth 100000 in
set_option maxHeartbeats 6400000 in
theorem packs_any (g:Gr) (Aa Ae:Option Addr) (ca ce:Nat) (most:Int) (w:World) (hg:GrSl w w.heap.size g Aa ca Ae ce) (hm64:in64 most) (hsc:∀e∈g.edges,(scalE e).length ≤100000):
  Calls Try.prog 5 #[grV g.vars Aa g.arrays.length ca g.nodes g.start g.last Ae g.edges.length ce,.int .i64 most] w (PacksP g most w):=by
 obtain⟨w1,hw1⟩:=nmq (w.alloc (.cells #[.int .i64 g.vars,.slice Aa g.arrays.length ca,.int .i64 g.nodes,.int .i64 g.start,.int .i64 g.last,.slice Ae g.edges.length ce] 25))
 have hf1:Fr NoT w w1:=by rw[hw1];exact(Fr.refl _ _).alloc _
 have hk1:Bk w1 w.heap.size 25 #[.int .i64 g.vars,.slice Aa g.arrays.length ca,.int .i64 g.nodes,.int .i64 g.start,.int .i64 g.last,.slice Ae g.edges.length ce]:=by rw[hw1];exact Bk.new _ _ _
 have hck:=check_any g Aa Ae ca ce w.heap.size w1 hf1.size (hg.keep (Same.of hf1.plain (lrq _)))
 unfold grV at hck ⊢
 have HCK:=hdq hck
 have HF1:=hdq hf1
 have HK1:=hdq hk1
 have HW1:=hdq hw1
 have HG:=hdq hg.edges
 have HSC:=hdq hsc
 obtain⟨M,hM⟩:∃M:Int,M=(if mayG g=true then 0 else 8):=⟨_,rfl⟩
 have HM:=hdq hM
 have hways:(M=8∧mayG g=false)∨(M=0∧mayG g=true∧most < 1)∨(M=0∧mayG g=true∧¬most < 1∧6 < most)∨(M=0∧mayG g=true∧¬most < 1∧¬6 < most):=by
  cases h:mayG g
  ·rw[h]at hM;exact .inl ⟨hM,rfl⟩
  ·rw[h]at hM
   have hM:M=0:=hM
   by_cases h1:most < 1
   ·exact .inr (.inl ⟨hM,rfl,h1⟩)
   by_cases h2:6 < most
   ·exact .inr (.inr (.inl ⟨hM,rfl,h1,h2⟩))
   ·exact .inr (.inr (.inr ⟨hM,rfl,h1,h2⟩))
 obtain⟨ne,hne⟩:=nmq g.edges.length
 obtain⟨na,hna⟩:=nmq g.arrays.length
 rw[←hne,←hna]at HCK HW1 HK1 ⊢
 have HNE:=hdq hne
 clear hck hf1 hk1 hw1 hM hg hsc hne hna hm64
 refine(callsIn_wide (n:=6)).1 (callsIn_of_wp_marks Try.func5 rfl trivial (wpIn_wide.2 ?_) rfl)
 simp only[Try.ntmps5,List.size_toArray,List.length_cons,List.length_nil,Nat.reduceAdd,Nat.reduceSub,Array.replicate_succ,Array.replicate_zero,List.push_toArray,List.append_toArray,List.nil_append,List.cons_append]
 go_wp2_with fail
 go_at_call 13
 rw[←HW1.out]
 refine HCK.out.mono ?_
 rintro _ w2 ⟨he,hb2⟩
 rw[←HM.out]at he
 subst he
 have hf2:Fr NoT w1 w2:=Fr.below hb2
 have HF2:=hdq (HF1.out.trans hf2)
 have hk2:=HK1.out.fr0 hf2
 have HK2:=hdq hk2
 have gc0:=hk2.cell 0
 have gc5:=hk2.cell 5
 have gl:=hk2.lt
 simp only[List.getElem?_toArray,List.getElem?_cons_succ,List.getElem?_cons_zero]at gc0 gc5
 clear hk2 hf2 hb2
 rcases hways with⟨rfl,hm⟩|⟨rfl,hm,h1⟩|⟨rfl,hm,h1,h2⟩|⟨rfl,hm,h1,h2⟩
 ·go_wp2_with fail
  refine⟨_,results_tmp2 rfl _ _ _,?_⟩
  exact .inl ⟨hm,rfl,HF2.out.plain⟩
 ·go_wp2_with fail
  refine⟨_,results_tmp2 rfl _ _ _,?_⟩
  exact .inr (.inl ⟨hm,.inl h1,rfl,HF2.out.plain⟩)
 ·go_wp2_with fail
  refine⟨_,results_tmp2 rfl _ _ _,?_⟩
  exact .inr (.inl ⟨hm,.inr h2,rfl,HF2.out.plain⟩)
 have HMM:=hdq hm
 have hv32:0≤g.vars∧g.vars≤32:=by
  have h:=hm
  unfold mayG at h
  simp only[Bool.and_eq_true,Bool.not_eq_true']at h
  have h1:=(Bool.or_eq_false_iff.1 h.1.1).1
  unfold odd1 at h1
  simp only[Bool.or_eq_false_iff,decide_eq_false_iff_not]at h1
  omega
 obtain⟨v,hv⟩:∃v:Nat,g.vars=(v:Int):=⟨g.vars.toNat,by omega⟩
 have hv2:v≤32:=by omega
 have HV:=hdq hv
 rw[hv]at gc0
 have hmk:=fun(W:World)=>run_mkP v (by omega) W
 obtain⟨nz,hnz⟩:=nmq ((List.replicate v (Value.pointer none)).toArray )
 simp only[←hnz]at hmk
 have HNZ:=hdq hnz
 clear hm hv32 hv hnz
 go_wp2_with fail
 obtain⟨w4,hw4⟩:=nmq ((w2.alloc (.cells nz 49)).alloc (.cells #[.slice (some ⟨w2.heap.size,0,none⟩) v v] 48))
 have hpm0:PkM w4 (w2.heap.size+1) w2.heap.size v (pk0 0):=by
  rw[hw4,HNZ.out]
  exact(PkM.zero w2 v).keep (((Below.refl _ _)).alloc (by simp) _)
 have hb4:Bk w4 (w2.heap.size+1) 48 #[.slice (some ⟨w2.heap.size,0,none⟩) v v]:=by rw[hw4];exact Bk.new_at _ _ _ (by simp)
 have hz4:w4.heap.size=w2.heap.size+2:=by rw[hw4];simp
 have HF4:=hdq (show Fr NoT w2 w4 from by rw[hw4];exact((Fr.refl _ _).alloc _).alloc _)
 have HW4:=hdq hw4
 have HB4:=hdq hb4
 have HP0:=hdq hpm0
 have HZ4:=hdq hz4
 clear hpm0 hb4 hz4 hw4 gc0 gc5
 rw[←HW4.out]
 go_loopw [35] (fun i wr=>∃k:Nat,k≤v∧i= .int .i64 k∧Hid (PkM wr wr.heap.size w2.heap.size v (pk0 k))∧Hid (Fr (fun i=>i=w2.heap.size) w4 wr)) (fun i _=>v - (intOf i).toNat)
 case atStart=>exact⟨0,Nat.zero_le _,rfl,HP0.out.rise (by rw[HZ4.out];omega),Fr.refl _ _⟩
 case round=>
  obtain⟨k,hk,rfl,hpm,hfr⟩:=hrel
  have hzr:w2.heap.size+2≤wr.heap.size:=by have h1:=hfr.out.size;have h2:=HZ4.out;omega
  have hbx:=HB4.out.fr hfr.out (by omega)
  have q0:=hbx.cell 0
  simp only[List.getElem?_toArray,List.getElem?_cons_zero]at q0
  have ql:w2.heap.size+1 < wr.heap.size:=by omega
  have obl:w2.heap.size < wr.heap.size:=by omega
  clear hbx
  by_cases hlt:k < v
  ·obtain⟨cs,hcs,hbo⟩:=hpm.out.blk
   have o0:wr.cell? ⟨w2.heap.size,k,none⟩=some cs[k]:=by rw[hbo.cell k];exact Array.getElem?_eq_getElem (by omega)
   have of:=hbo.frozen k
   have HPK:=hdq (pk_fill hpm.out hlt obl (by omega))
   have HFK:=hdq (show Fr (fun i=>i=w2.heap.size) w4 (((wr.setCell ⟨w2.heap.size,k,none⟩ (.pointer (some ⟨wr.heap.size+1,0,none⟩))).alloc (.cells #[.int .i64 (k:Int)] 3)).alloc (.cells #[.slice (some ⟨wr.heap.size,0,none⟩) 1 1] 22))from((hfr.out.own k _).alloc _).alloc _)
   clear hbo hfr hpm
   go_wp2_with fail
   go_roundw
   case rel=>exact⟨k+1,by omega,by go_num,HPK,HFK⟩
   case measure=>simp[intOf];omega
  ·have hk':k=v:=by omega
   have HP1:=hdq hpm.out
   rw[hk']at HP1
   have HFR:=hdq hfr.out
   have HM0:=hdq (Mks.nil w4.heap.size wr)
   have hf24:Fr (fun i=>i=w2.heap.size) w2 wr:=HF4.out.any.trans hfr.out
   have gk:=HK2.out.fr hf24 (by have:=HK2.out.lt;omega)
   have gc5:=gk.cell 5
   have gl5:=gk.lt
   simp only[List.getElem?_toArray,List.getElem?_cons_succ,List.getElem?_cons_zero]at gc5
   clear hk' hpm hfr hf24 gk q0
   go_wp2_with fail
   obtain⟨T0,hT0⟩:=nmq (Value.agg #[.int .i64 g.vars,.slice Aa na ca,.int .i64 g.nodes,.int .i64 g.start,.int .i64 g.last,.slice Ae ne ce])
   have HT0:=hdq hT0
   rw[←hT0]
   clear hT0
   refine wp_loop (fun a' w'=>∃(k:Nat) (ds:List Deferred),k≤ne∧Hid (PkM w' w'.heap.size w2.heap.size v (pkRun most (pk0 v) ((g.edges.take k).map scalE))∧Fr (fun i=>i=w2.heap.size) w4 w'∧Mks w4.heap.size w' ds)∧a'={tmps:= #[T0,.int .i64 most,.pointer (some ⟨w.heap.size,0,none⟩),a'.tmps.getD 3 undef,a'.tmps.getD 4 undef,a'.tmps.getD 5 undef,a'.tmps.getD 6 undef,.pointer (some ⟨w2.heap.size+1,0,none⟩),a'.tmps.getD 8 undef,a'.tmps.getD 9 undef,a'.tmps.getD 10 undef,a'.tmps.getD 11 undef,a'.tmps.getD 12 undef,a'.tmps.getD 13 undef,a'.tmps.getD 14 undef,a'.tmps.getD 15 undef,a'.tmps.getD 16 undef,a'.tmps.getD 17 undef,a'.tmps.getD 18 undef,a'.tmps.getD 19 undef,a'.tmps.getD 20 undef,a'.tmps.getD 21 undef,a'.tmps.getD 22 undef,a'.tmps.getD 23 undef,a'.tmps.getD 24 undef,a'.tmps.getD 25 undef,a'.tmps.getD 26 undef,a'.tmps.getD 27 undef,a'.tmps.getD 28 undef,a'.tmps.getD 29 undef,a'.tmps.getD 30 undef,a'.tmps.getD 31 undef,a'.tmps.getD 32 undef,a'.tmps.getD 33 undef,a'.tmps.getD 34 undef,a'.tmps.getD 35 undef,a'.tmps.getD 36 undef,a'.tmps.getD 37 undef,a'.tmps.getD 38 undef,a'.tmps.getD 39 undef,a'.tmps.getD 40 undef,a'.tmps.getD 41 undef,a'.tmps.getD 42 undef,a'.tmps.getD 43 undef,a'.tmps.getD 44 undef,a'.tmps.getD 45 undef,.slice Ae ne ce,.int .i64 (ne:Int),.int .i64 (k:Int),a'.tmps.getD 49 undef,a'.tmps.getD 50 undef,a'.tmps.getD 51 undef,a'.tmps.getD 52 undef,a'.tmps.getD 53 undef,a'.tmps.getD 54 undef,a'.tmps.getD 55 undef,a'.tmps.getD 56 undef,a'.tmps.getD 57 undef,a'.tmps.getD 58 undef,a'.tmps.getD 59 undef,a'.tmps.getD 60 undef,a'.tmps.getD 61 undef,a'.tmps.getD 62 undef,a'.tmps.getD 63 undef,a'.tmps.getD 64 undef,a'.tmps.getD 65 undef,a'.tmps.getD 66 undef,a'.tmps.getD 67 undef,a'.tmps.getD 68 undef,a'.tmps.getD 69 undef,a'.tmps.getD 70 undef,a'.tmps.getD 71 undef,a'.tmps.getD 72 undef,a'.tmps.getD 73 undef,a'.tmps.getD 74 undef,a'.tmps.getD 75 undef,a'.tmps.getD 76 undef,a'.tmps.getD 77 undef,a'.tmps.getD 78 undef,a'.tmps.getD 79 undef,a'.tmps.getD 80 undef,a'.tmps.getD 81 undef,a'.tmps.getD 82 undef,a'.tmps.getD 83 undef,a'.tmps.getD 84 undef,a'.tmps.getD 85 undef,a'.tmps.getD 86 undef,a'.tmps.getD 87 undef,a'.tmps.getD 88 undef,a'.tmps.getD 89 undef,a'.tmps.getD 90 undef,a'.tmps.getD 91 undef,a'.tmps.getD 92 undef,a'.tmps.getD 93 undef,a'.tmps.getD 94 undef,a'.tmps.getD 95 undef,a'.tmps.getD 96 undef,a'.tmps.getD 97 undef,a'.tmps.getD 98 undef,a'.tmps.getD 99 undef,a'.tmps.getD 100 undef,a'.tmps.getD 101 undef,a'.tmps.getD 102 undef,a'.tmps.getD 103 undef,a'.tmps.getD 104 undef,a'.tmps.getD 105 undef,a'.tmps.getD 106 undef],defers:=ds}) (fun a' _=>ne - (intOf (a'.tmps.getD 48 undef)).toNat) ?start ?round2
   case start=>
    exact⟨0, [],Nat.zero_le _,hdq ⟨HP1.out,HFR.out,HM0.out⟩,by kernel_rfl⟩
   case round2=>
    clear gc5 gl5
    rintro a' w5 ⟨k,ds,hk,hrel,ha⟩
    obtain⟨u,rfl⟩:∃u:Nat→Value,a'={tmps:= #[T0,.int .i64 most,.pointer (some ⟨w.heap.size,0,none⟩),u 3,u 4,u 5,u 6,.pointer (some ⟨w2.heap.size+1,0,none⟩),u 8,u 9,u 10,u 11,u 12,u 13,u 14,u 15,u 16,u 17,u 18,u 19,u 20,u 21,u 22,u 23,u 24,u 25,u 26,u 27,u 28,u 29,u 30,u 31,u 32,u 33,u 34,u 35,u 36,u 37,u 38,u 39,u 40,u 41,u 42,u 43,u 44,u 45,.slice Ae ne ce,.int .i64 (ne:Int),.int .i64 (k:Int),u 49,u 50,u 51,u 52,u 53,u 54,u 55,u 56,u 57,u 58,u 59,u 60,u 61,u 62,u 63,u 64,u 65,u 66,u 67,u 68,u 69,u 70,u 71,u 72,u 73,u 74,u 75,u 76,u 77,u 78,u 79,u 80,u 81,u 82,u 83,u 84,u 85,u 86,u 87,u 88,u 89,u 90,u 91,u 92,u 93,u 94,u 95,u 96,u 97,u 98,u 99,u 100,u 101,u 102,u 103,u 104,u 105,u 106],defers:=ds}:=⟨fun i=>a'.tmps.getD i undef,ha⟩
    clear ha
    obtain⟨hpm,hfr,hmk⟩:=hrel.out
    have hbw:Below w.heap.size w w5:=(HF2.out.plain.trans (HF4.out.plain.mono HF2.out.size)).trans (hfr.to_below (by have:=HF2.out.size;have:=HF4.out.size;omega) (fun i hi e=>by have:=HF2.out.size;have e:i=w2.heap.size:=e;omega))
    by_cases hlt2:k < ne
    ·obtain⟨r,hr⟩:∃r,g.edges[k]?=some r:=⟨_,List.getElem?_eq_getElem (by rw[←HNE.out];exact hlt2)⟩
     obtain⟨b,o,rfl,hat⟩:=HG.out.2.2 (by rw[←HNE.out];omega)
     obtain⟨hbB,c0,c1,c2,c3,c4,⟨A5,n5,c5,hx5⟩,c6,hok⟩:=(hat.keep (Same.of hbw (lrq _))).at_ hr
     have hbl:b < w5.heap.size:=ltq hbB hbw.size
     have HR:=hdq hr
     obtain⟨wb,hwb⟩:=nmq (((w5.alloc (.cells #[.int .i64 r.from_,.int .i64 r.to_,.int .u8 r.kind,.int .i64 r.n,.int .u8 r.cmp,.slice A5 r.args.len n5,.int .i64 r.at_] 46)).alloc (.cells #[.slice none 0 0] 22)).alloc (.cells #[.int .i64 r.from_,.int .i64 r.to_,.int .u8 r.kind,.int .i64 r.n,.int .u8 r.cmp,.slice A5 r.args.len n5,.int .i64 r.at_] 46))
     have hwz:wb.heap.size=w5.heap.size+3:=by rw[hwb];simp
     have hbb:Below w5.heap.size w5 wb:=by rw[hwb];exact(((Below.refl _ _).alloc (lrq _) _).alloc (by simp) _).alloc (by simp;omega) _
     have hbe:wb.heap[w5.heap.size+2]?=some (.cells #[.int .i64 r.from_,.int .i64 r.to_,.int .u8 r.kind,.int .i64 r.n,.int .u8 r.cmp,.slice A5 r.args.len n5,.int .i64 r.at_] 46 (0,0)):=by
      rw[hwb]
      exact Bk.new_at _ _ _ (by simp)
     have hbt:Boxed wb (w5.heap.size+1) 22 (.slice none 0 0):=by
      rw[hwb]
      exact(Bk.new_at _ _ _ (by simp)).alloc _
     have HSTOP:=scal_stops r 5 w5.heap.size (w5.heap.size+2) A5 n5 wb (by omega) ((hx5.more hbw.size).keep (Same.of hbb (lrq _))) hbe
     have HPM:=hdq hpm
     have HFR5:=hdq hfr
     have HMK:=hdq hmk
     have HBB:=hdq hbb
     have HBT:=hdq hbt
     have HWB:=hdq hwb
     have HWZ:=hdq hwz
     have HBW:=hdq hbw
     clear hr hat hx5 hok hpm hfr hmk hrel hbb hbt hbe hwb hbw hwz
     go_wp2_with fail
     go_at_call 14
     refine(scal_in r A5 n5 _).mono ?_
     rintro _ _ ⟨rfl,rfl⟩
     rw[←HWB.out]
     go_wp2_with fail
     obtain⟨P,hP⟩:=nmq (pkRun most (pk0 v) ((g.edges.take k).map scalE))
     have HPI:=hdq (show PkI v most P∧∀x∈scalE r,0≤x∧x < v from by
      have hin:=scalE_in HMM.out
      rw[HV.out]at hin
      refine⟨?_,hin r (List.mem_of_getElem? HR.out)⟩
      rw[hP]
      refine PkI.run _ (PkI.zero (by omega)) fun sc hsc=>?_
      obtain⟨e,he,rfl⟩:=List.mem_map.1 hsc
      exact hin e (List.mem_of_mem_take he))
     have HPM2:=hdq (show PkM w5 w5.heap.size w2.heap.size v P from by rw[hP];exact HPM.out)
     have HPP:=hdq hP
     have hz2:w2.heap.size+2≤w5.heap.size:=by have h1:=HFR5.out.size;have h2:=HZ4.out;omega
     clear c0 c1 c2 c3 c4 c5 c6 hP
     refine(wpIn_wide (n:=6)).1 (wpIn_rangeFunc_ownG rfl (by omega) (gf:=36) (lb:= #[.pointer (some ⟨w5.heap.size+2,0,none⟩)]) (by rfl) trivial (enters_of Try.func36 (by kernel_rfl) rfl) HSTOP
      (fun {A B C} h1 h2=>KpT.trans h1 h2) (fun W l o o' h1 h2 h3 h4=>⟨belowK_b (by have:=HWZ.out;omega) W l o o' h1 h2 h3 h4,by simp,fun j cs t fr hj _ _=>World.putObj_heap_other (fun e=>by subst e;rw[h2]at hj;cases hj;cases h3)⟩) (Below.refl _ _) (fun _=>rfl)
      (fun(pre:List {x:Int // x∈scalE r}) W=>(∃y,Boxed W (w5.heap.size+1) 22 y∧W.ownsRow w5.heap.size 3 1 y (pkAll P (pre.map Subtype.val)).length (intZ (pkAll P (pre.map Subtype.val)))∧True)∧Below w5.heap.size w5 W)
      (fun _ _ _=>False)
      (OwnFrom.and (Own.from (holdsRow_own w5.heap.size (w5.heap.size+1) 22 3 1 (fun(pre:List {x:Int // x∈scalE r})=>(pkAll P (pre.map Subtype.val)).length) (fun(pre:List {x:Int // x∈scalE r})=>intZ (pkAll P (pre.map Subtype.val))) (fun _ _=>True)) _) (ownFrom_below (lrq _) (by have:=HWZ.out;omega)))
      (fun _ _ _ _ _ hs _ _=>hs)
      ⟨⟨_,HBT.out,World.ownsRow_nil _ _ _ _,trivial⟩,HBB.out⟩ ?a1 ?assign ?body ?done ?stop)
     case assign=>
      intro l x W K hK
      gi_wp2_with fail
      exact hK
     case body=>
      rintro l0 pre x W ⟨⟨y,hy,hrow,_⟩,hB⟩ hlen
      obtain⟨hpi,hscv⟩:=HPI.out
      have hx:=hscv x.1 x.2
      have HX1:=hdq (show ∀z,z=x.val→pkAll P ((pre++ [x]).map Subtype.val)=pkAll P (pre.map Subtype.val)++P.getD z.toNat []from fun z hz=>by rw[List.map_append,hz];exact pkAll_snoc P _ _)
      obtain⟨xz,hxz⟩:=nmq x.val
      rw[←hxz]at hx ⊢
      obtain⟨xi,rfl⟩:∃xi:Nat,xz=(xi:Int):=⟨xz.toNat,by omega⟩
      have hxv:xi < v:=by omega
      obtain⟨lx,hlx⟩:∃lx,P[xi]?=some lx:=⟨_,List.getElem?_eq_getElem (by rw[hpi.len];exact hxv)⟩
      have HX2:=hdq (show pkAll P ((pre++ [x]).map Subtype.val)=pkAll P (pre.map Subtype.val)++lx from by rw[HX1.out _ hxz,List.getD_eq_getElem?_getD,Int.toNat_natCast,hlx];rfl)
      have hpw:=HPM2.out.keep hB
      obtain⟨b1,g1,c1,p1,p2,p3,p4,p5,p6,p7,p8,p9⟩:=hpw.each xi lx hlx
      have hl0:0 < lx.length:=List.length_pos_of_mem (hpi.own xi lx hlx)
      have hl6:lx.length≤6:=by have:=hpi.few xi lx hlx;omega
      have hal:(pkAll P (pre.map Subtype.val)).length ≤6*pre.length:=by
       have h:=pkAll_len (P:=P) (m:=6) (fun i l hi=>by have:=hpi.few i l hi;omega) (pre.map Subtype.val)
       simpa using h
      have hpl:pre.length≤100000:=by have:=HSC.out r (List.mem_of_getElem? HR.out);omega
      have q7:W.cell? ⟨w2.heap.size+1,0,none⟩=some (.slice (some ⟨w2.heap.size,0,none⟩) v v):=by
       have h:=(HB4.out.fr HFR5.out (by omega)).cell 0
       exact(hB.cell (p:=⟨w2.heap.size+1,0,none⟩) (by show w2.heap.size+1 < _;omega)).trans h
      have q7l:w2.heap.size+1 < W.heap.size:=by have:=hB.size;omega
      have obl:w2.heap.size < W.heap.size:=by omega
      have bl1:b1 < W.heap.size:=by have:=hB.size;omega
      have gl1:g1 < W.heap.size:=by have:=hB.size;omega
      have yc:=hy.cell
      have yl:=hy.lt
      have yf:=hy.frozen
      obtain⟨m,hm⟩:=nmq ((pkAll P (pre.map Subtype.val)).length )
      obtain⟨xs,hxs⟩:=nmq (intZ (pkAll P (pre.map Subtype.val)))
      rw[←hm,←hxs]at hrow
      rw[←hm]at hal
      obtain⟨nl,hnl⟩:=nmq lx.length
      have hnews:∀j u,(intZ lx)[j]?=some u→W.drew.cell? ((⟨g1,0,none⟩:Addr).add j)=some u:=fun j u hu=>by
       unfold intZ at hu
       rw[List.getElem?_map]at hu
       cases hj:lx[j]? with
       |none=>rw[hj]at hu;cases hu
       |some z=>
        rw[hj]at hu
        cases hu
        have hadd:(⟨g1,0,none⟩:Addr).add j=⟨g1,j,none⟩:=by unfold Addr.add;split<;>simp_all
        rw[hadd]
        exact(p9 j z hj).1
      have HNEWS:=hdq hnews
      have HM2:=hdq hm
      have HXS:=hdq hxs
      have HNL:=hdq hnl
      rw[←hnl]at p4 p7 hl0 hl6
      clear hx hpw hpi hscv hlx p9 hnews hm hxs hnl hlen hxz
      gi_wp2_with fail
      obtain⟨i0,hi0,hz0,hz1,hz2⟩:=info_parts infoInt7
      refine wpIn_region_E (fun W'=>W'.cell? ⟨w2.heap.size+1,0,none⟩=some (.slice (some ⟨w2.heap.size,0,none⟩) v v)∧W'.cell? ⟨w2.heap.size,xi,none⟩=some (.pointer (some ⟨b1,0,none⟩))∧W'.cell? ⟨b1,0,none⟩=some (.slice (some ⟨g1,0,none⟩) nl c1)∧W'.cell? ⟨w5.heap.size+1,0,none⟩=some y) (fun i=>decide (i < 8)) (by kernel_rfl) (fun⟨_,_,h⟩=>h) (by kernel_rfl) ⟨q7,p1,p4,yc⟩ (fun hHeld=>?_)
      refine wpE_tk 0 hHeld ?_
      try simp only[Act.put,List.setIfInBounds_toArray,List.set_cons_zero,List.set_cons_succ]
      refine wpE_tk 1 hHeld ?_
      try simp only[Act.put,List.setIfInBounds_toArray,List.set_cons_zero,List.set_cons_succ]
      refine wpE_pu 2 ?_
      try simp only[Act.put,List.setIfInBounds_toArray,List.set_cons_zero,List.set_cons_succ]
      refine wpE_pu 3 ?_
      try simp only[Act.put,List.setIfInBounds_toArray,List.set_cons_zero,List.set_cons_succ]
      refine wpE_tk 4 hHeld ?_
      try simp only[Act.put,List.setIfInBounds_toArray,List.set_cons_zero,List.set_cons_succ]
      refine wpE_pu 5 ?_
      try simp only[Act.put,List.setIfInBounds_toArray,List.set_cons_zero,List.set_cons_succ]
      refine wpE_tk 6 hHeld ?_
      try simp only[Act.put,List.setIfInBounds_toArray,List.set_cons_zero,List.set_cons_succ]
      refine wpE_next 7 rfl (by kernel_rfl) (fun KK hK=>?_)
      refine step_append_lies _ (by rfl) _ _ _ (by rfl) w5.heap.size 3 i0 _ 1 8 Try.underlying22 hi0 hz0 hz1 hz2 rfl (by omega) y m xs (by rfl) hrow.drew ⟨g1,0,none⟩ nl c1 (intZ lx) (by rfl) (by rw[HNL.out];simp[intZ]) HNEWS.out (by simp[intZ,Value.oneCell']) (by omega) (by unfold maxLen;omega) (by omega) (by have:=hB.size;simpa using this) _ rfl ?_
      intro gg cap w6 ho hg6 hat hlt6
      have hyn:∀j,j < w5.heap.size→some j≠y.ownBlock:=fun j hj e=>by have:=(hrow.lt j e.symm).1;omega
      refine hK _ _ (fun _ hS=>⟨(hg6.cell_far ⟨w2.heap.size+1,0,none⟩ (by simpa using q7l) (hyn (w2.heap.size+1) (by omega))).trans hS.1,(hg6.cell_far ⟨w2.heap.size,xi,none⟩ (by simpa using obl) (hyn w2.heap.size (by omega))).trans hS.2.1,(hg6.cell_far ⟨b1,0,none⟩ (by simpa using bl1) (hyn b1 p2)).trans hS.2.2.1,(hg6.cell_far ⟨w5.heap.size+1,0,none⟩ (by simpa using yl) (hy.not_row (by decide) hrow)).trans hS.2.2.2⟩) ?_
      clear hK KK
      (try simp only[Act.put,List.setIfInBounds_toArray,List.set_cons_zero,List.set_cons_succ])
      obtain⟨s1,s2,s3,s4,s5⟩:=all_step hy hrow hB.size (by omega) hg6 ho
      have yc6:=s1.cell
      have yl6:=s1.lt
      have yf6:=s1.frozen
      have S2:=hdq s2
      have S3:=hdq s3
      have S4:=hdq s4
      have S5:=hdq s5
      clear s1 s2 s3 s4 s5 yc yl yf hg6 ho q7 p1 p4 hrow hy
      refine wpE_next 8 rfl (by kernel_rfl) (fun KK hK=>?_)
      go_simp
      refine hK _ _ (fun h=>absurd h (by decide)) ?_
      clear hK KK
      try simp only[Act.put,List.setIfInBounds_toArray,List.set_cons_zero,List.set_cons_succ]
      refine wpE_done (by kernel_rfl) ?_
      show KeepsFrom _ _ _∧KpT _ _ _∧_
      have hln:(pkAll P ((pre++ [x]).map Subtype.val)).length =m+nl:=by rw[HX2.out,List.length_append,←HM2.out,←HNL.out]
      refine⟨S4.out.from _,S5.out,⟨_,S2.out,?_,trivial⟩,hB.trans S5.out.1⟩
      rw[hln,HX2.out]
      have h:=S3.out
      rw[HXS.out]at h
      unfold intZ at h ⊢
      rw[List.map_append]
      exact h
     case stop=>
      rintro D c pre W _ _ h _
      exact h.elim
     case done=>
      rintro D ys W hD hS ⟨⟨y,hy,hrow,_⟩,hB⟩ hK
      rw[hS]at hrow
      have hmkW:Mks w4.heap.size W ({target:= .collected D,args:= #[]}::ds):=(HMK.out.keep (OthK.below hB)).more (by have h1:=HFR5.out.size;have h2:=HWZ.out;omega) hK (HMK.out.lt (by have:=HWZ.out;omega))
      have hfrW:Fr (fun i=>i=w2.heap.size) w4 W:=HFR5.out.trans (Fr.below hB)
      have HEW:=hdq (show PkE w4 w5.heap.size w2.heap.size v P ({target:= .collected D,args:= #[]}::ds) W from⟨HPM2.out.keep hB,hfrW,hmkW,hB.size,HFR5.out.size⟩)
      have hwW:=hB.size
      obtain⟨A,hA⟩:=nmq (pkAll P (scalE r))
      rw[←hA]at hrow
      have HA:=hdq hA
      have yc:=hy.cell
      have yl:=hy.lt
      have yf:=hy.frozen
      have hruns:pkRun most (pk0 v) ((g.edges.take (k+1)).map scalE)=pkStep most P (scalE r):=by
       obtain⟨hi,e⟩:=List.getElem?_eq_some_iff.1 HR.out
       rw[List.take_succ_eq_append_getElem hi,e,List.map_append,HPP.out]
       simp[pkRun]
      have HRUN:=hdq hruns
      have hm0:¬most < 0:=by omega
      clear hS hmkW hfrW hruns hA
      have HCL:=hdq (fun(g n cap:Nat) (w:World) h1 h2 h3=>clip_any g n cap w h1 h2 h3)
      rcases Nat.eq_zero_or_pos A.length with h0|h0
      ·have hA0:A= []:=List.length_eq_zero_iff.1 h0
       have HRUN0:=hdq (show pkRun most (pk0 v) ((g.edges.take (k+1)).map scalE)=P from by
        rw[HRUN.out]
        unfold pkStep
        rw[←HA.out,hA0]
        have e:sdup []= []:=by simp[sdup,Lib.compact,Lib.compactUpTo]
        rw[e]
        simp[pkSet,hm0])
       obtain⟨p,cap,rfl,hcap⟩:∃p cap,y= .slice p 0 cap∧cap≤9223372036854775807:=by
        rw[h0]at hrow
        rcases hrow.2 with⟨h,_⟩|⟨g',cap,cur,h,_,_,_,hc,_⟩
        ·exact⟨none,0,h,by omega⟩
        ·exact⟨_,cap,h,by unfold maxLen at hc;omega⟩
       have HCZ:=hdq (fun(W:World)=>clip_zero p cap W hcap)
       have HYB:=hdq hy
       clear hrow hy hA0 h0 hK hB
       go_wp2_with fail
       go_at_call 15
       refine(Try.slices_Sort_int_none p cap _).mono ?_
       rintro _ W1 ⟨rfl,rfl⟩
       go_wp2_with fail
       go_at_call 16
       refine(Try.slices_Compact_int_empty p cap _).mono ?_
       rintro _ W2 ⟨rfl,rfl⟩
       go_wp2_with fail
       go_at_call 17
       refine(HCZ.out _).mono ?_
       rintro _ W3 ⟨⟨p',rfl⟩,rfl⟩
       go_wp2_with fail
       have hE6:PkE w4 w5.heap.size w2.heap.size v P ({target:= .collected D,args:= #[]}::ds) ((W2.setCell ⟨w5.heap.size+1,0,none⟩ (.slice p 0 cap)).alloc (.cells #[.slice p' 0 0] 22)):=(HEW.out.setC 0 (Nat.le_succ _) ⟨_,_,_,HYB.out⟩ _).alloc _
       have HE6:=hdq hE6
       clear hE6
       go_loop [75] (fun i=>i= .int .i64 0) (fun _=>0)
       case atStart=>rfl
       case round=>
        subst hrel
        go_wp2_with fail
        rw[round_up hlt2 (by have h1:=HG.out.1;have h2:=HG.out.2.1;have h3:=HNE.out;omega)]
        refine⟨⟨k+1,hlt2,hdq ?_,rfl⟩,round_meas hlt2⟩
        rw[←List.map_take,HRUN0.out]
        exact⟨HE6.out.pm.rise (by have:=HEW.out.sz;omega),HE6.out.fr,HE6.out.mks⟩
      ·obtain⟨gy,cap,rfl,hgyL,hgyl,hgyc,hgc,hcap⟩:=rowZ_open hrow h0
       obtain⟨hpi,hscv⟩:=HPI.out
       have hAin:=pkAll_in hpi hscv
       have hAl:A.length≤600000:=by
        have h:=pkAll_len (P:=P) (m:=6) (fun i l hi=>by have:=hpi.few i l hi;omega) (scalE r)
        have h1:=HSC.out r (List.mem_of_getElem? HR.out)
        rw[←HA.out]at h
        omega
       rw[←HA.out]at hAin
       have HAIN:=hdq hAin
       obtain⟨B,hBd⟩:=nmq (A.mergeSort leZ)
       have hBl:B.length=A.length:=by rw[hBd];simp
       obtain⟨a,had⟩:=nmq (Lib.compact B)
       have hda:a=sdup A:=by rw[had,hBd];rfl
       have hal:0 < a.length:=by rw[hda];exact sdup_pos h0
       have hal2:a.length≤A.length:=by rw[had,←hBl];exact Lib.compact_length_le B
       have hain:∀x∈a,0≤x∧x < v:=fun x hx=>hAin x (((sdup_spec A).2 x).1 (hda▸hx))
       have HAIN2:=hdq hain
       have HDA:=hdq hda
       have HBD:=hdq hBd
       have HAD:=hdq had
       have HROW:=hdq hrow
       have HYB:=hdq hy
       have HGY:=hdq hgyc
       clear hrow hy hK hB hAin hain hpi hscv hda had hgyc hBd
       go_wp2_with fail
       go_at_call 15
       refine(Try.slices_Sort_int gy 0 cap A _ (rowZ_holds HROW.out) hgyl (by omega)).mono ?_
       rintro _ W1 ⟨rfl,n1,os1,hW1⟩
       obtain⟨hrow1,hg1⟩:=rowZ_put (l':=A.mergeSort leZ) HROW.out (by simp) hW1
       rw[←HBD.out]at hrow1
       have hy1:Boxed W1 (w5.heap.size+1) 22 (.slice (some ⟨gy,0,none⟩) A.length cap):=HYB.out.kept hg1 (HYB.out.not_row (by decide) HROW.out)
       have HE1:=hdq (HEW.out.grown hg1 hgyL (by obtain⟨cs,h⟩:=HGY.out;exact⟨_,_,_,h⟩))
       have hgyl1:gy < W1.heap.size:=ltq hgyl hg1.size
       have HROW1:=hdq hrow1
       have HY1:=hdq hy1
       have yc1:=hy1.cell
       have yl1:=hy1.lt
       have yf1:=hy1.frozen
       clear hW1 hrow1 hg1 hy1 yc yl yf hwW
       go_wp2_with fail
       go_at_call 16
       have hC:=Try.slices_Compact_int gy 0 cap B W1 (rowZ_holds (n:=A.length) HROW1.out) (by omega) (by omega)
       rw[hBl,←HAD.out]at hC
       refine hC.mono ?_
       clear hC
       rintro _ W2 ⟨rfl,n2,hW2⟩
       have hlen2:(a++List.replicate (A.length - a.length) 0).length =B.length:=by rw[List.length_append,List.length_replicate,hBl];omega
       obtain⟨hrow2,hg2⟩:=rowZ_put (w':=W2) (os:= #[]) HROW1.out hlen2 (by rw[grow_none];exact hW2)
       obtain⟨_,_,hq0,_,_,hgyc1,_,_⟩:=rowZ_open HROW1.out h0
       cases hq0
       have hy2:Boxed W2 (w5.heap.size+1) 22 (.slice (some ⟨gy,0,none⟩) A.length cap):=HY1.out.kept hg2 (HY1.out.not_row (by decide) HROW1.out)
       have HE2:=hdq (HE1.out.grown hg2 hgyL (by obtain⟨cs,h⟩:=hgyc1;exact⟨_,_,_,h⟩))
       have hgyl2:gy < W2.heap.size:=ltq hgyl1 hg2.size
       have HROW2:=hdq hrow2
       have HY2:=hdq hy2
       have yc2:=hy2.cell
       have yl2:=hy2.lt
       have yf2:=hy2.frozen
       have hcl:=HCL.out gy a.length cap (W2.setCell ⟨w5.heap.size+1,0,none⟩ (.slice (some ⟨gy,0,none⟩) a.length cap)) (by omega) hcap hal
       obtain⟨nl,hnl⟩:=nmq a.length
       rw[←hnl]at hal hal2 hcl
       have HCL2:=hdq hcl
       have HNL:=hdq hnl
       clear hW2 hrow2 hg2 hy2 yc1 yl1 yf1 hgyc1 hnl hcl
       rw[←HNL.out]
       by_cases hmo:most < (nl:Int)
       ·have hE3:PkE w4 w5.heap.size w2.heap.size v P ({target:= .collected D,args:= #[]}::ds) (W2.setCell ⟨w5.heap.size+1,0,none⟩ (.slice (some ⟨gy,0,none⟩) nl cap)):=HE2.out.setC 0 (Nat.le_succ _) ⟨_,_,_,HY2.out⟩ _
        have hrun:pkRun most (pk0 v) ((g.edges.take (k+1)).map scalE)=P:=by
         rw[HRUN.out]
         unfold pkStep
         rw[←HA.out,←HDA.out,if_pos (by rw[←HNL.out];exact hmo)]
        have HE3:=hdq hE3
        have HRUN3:=hdq hrun
        clear hE3 hrun
        go_wp2_with fail
        rw[round_up hlt2 (by have h1:=HG.out.1;have h2:=HG.out.2.1;have h3:=HNE.out;omega)]
        refine⟨⟨k+1,{target:= .collected D,args:= #[]}::ds,hlt2,hdq ?_,by kernel_rfl⟩,round_meas hlt2⟩
        rw[HRUN3.out]
        exact HE3.out.out
       ·go_wp2_with fail
        go_at_call 17
        refine HCL2.out.mono ?_
        rintro _ _ ⟨rfl,rfl⟩
        go_wp2_with fail
        obtain⟨w6,hw6⟩:=nmq ((W2.setCell ⟨w5.heap.size+1,0,none⟩ (.slice (some ⟨gy,0,none⟩) nl cap)).alloc (.cells #[.slice (some ⟨gy,0,none⟩) nl nl] 22))
        have hsz6:w6.heap.size=W2.heap.size+1:=by rw[hw6];simp
        have hE6:PkE w4 w6.heap.size w2.heap.size v P ({target:= .collected D,args:= #[]}::ds) w6:=by
         have h:PkE w4 w5.heap.size w2.heap.size v P ({target:= .collected D,args:= #[]}::ds) w6:=by
          rw[hw6]
          exact(HE2.out.setC 0 (Nat.le_succ _) ⟨_,_,_,HY2.out⟩ _).alloc _
         exact h.rise h.sz (lrq _)
        have hbx6:Bk w6 W2.heap.size 22 #[.slice (some ⟨gy,0,none⟩) nl nl]:=by rw[hw6];exact Bk.new_at _ _ _ (by simp)
        have hcells:∀(j:Nat) (x:Int),a[j]?=some x→w6.cell? ⟨gy,j,none⟩=some (.int .i64 x):=fun j x hj=>by
         have h:=rowZ_cell HROW2.out j x (by rw[List.getElem?_append_left (List.getElem?_eq_some_iff.1 hj).1];exact hj)
         have hne:¬gy=w5.heap.size+1:=fun e=>HY2.out.not_row (by decide) HROW2.out (by rw[←e];rfl)
         rw[hw6]
         exact((((Fr.refl (fun i=>i=w5.heap.size+1) W2).own 0 (.slice (some ⟨gy,0,none⟩) nl cap)).alloc (.cells #[.slice (some ⟨gy,0,none⟩) nl nl] 22)).cell (p:=⟨gy,j,none⟩) hgyl2 hne).trans h
        have HE6:=hdq hE6
        have HB6:=hdq hbx6
        have HC6:=hdq hcells
        have HW6:=hdq hw6
        have HSZ6:=hdq hsz6
        clear hE6 hbx6 hcells hw6 hsz6
        rw[←HW6.out]
        go_loopw [75] (fun i wr=>∃q:Nat,q≤nl∧i= .int .i64 q∧Hid (PkE w4 w6.heap.size w2.heap.size v (pkSet P (a.take q) a) ({target:= .collected D,args:= #[]}::ds) wr)∧Hid (Fr (fun i=>i=w2.heap.size) w6 wr)) (fun i _=>nl - (intOf i).toNat)
        case atStart=>exact⟨0,Nat.zero_le _,rfl,HE6.out,Fr.refl _ _⟩
        case round=>
         obtain⟨q,hq,rfl,hpe,hfr6⟩:=hrel
         have q7:=(HB4.out.fr hpe.out.fr (by omega)).cell 0
         simp only[List.getElem?_toArray,List.getElem?_cons_zero]at q7
         have hs6:=hfr6.out.size
         have hsz6:=HSZ6.out
         have hw52:=HE2.out.sz
         have q7l:w2.heap.size+1 < wr.heap.size:=by omega
         have obl2:w2.heap.size < wr.heap.size:=by omega
         have gyl3:gy < wr.heap.size:=by omega
         by_cases hqn:q < nl
         ·obtain⟨x,hx⟩:∃x,a[q]?=some x:=⟨_,List.getElem?_eq_getElem (by rw[←HNL.out];exact hqn)⟩
          have hxv:=HAIN2.out x (List.mem_of_getElem? hx)
          obtain⟨xi,rfl⟩:∃xi:Nat,x=(xi:Int):=⟨x.toNat,by omega⟩
          have hxi:xi < v:=by omega
          have gc:=(hfr6.out.cell (p:=⟨gy,q,none⟩) (by show gy < _;omega) (by show ¬gy=_;omega)).trans (HC6.out q _ hx)
          have bc:=(HB6.out.fr hfr6.out (by omega)).cell 0
          simp only[List.getElem?_toArray,List.getElem?_cons_zero]at bc
          obtain⟨cs,hcs,hbo⟩:=hpe.out.pm.blk
          have o0:wr.cell? ⟨w2.heap.size,xi,none⟩=some cs[xi]:=by rw[hbo.cell xi];exact Array.getElem?_eq_getElem (by omega)
          have of:=hbo.frozen xi
          have HPK:=hdq (show PkE w4 w6.heap.size w2.heap.size v (pkSet P (a.take (q+1)) a) ({target:= .collected D,args:= #[]}::ds) (wr.setCell ⟨w2.heap.size,xi,none⟩ (.pointer (some ⟨W2.heap.size,0,none⟩)))from by
           rw[take_snoc hx,pkSet_snoc]
           refine hpe.out.put (b:=W2.heap.size) (g:=gy) (c:=nl) (l:=a) hxi (by rw[List.length_set];exact hpe.out.pm.le) put_q (by omega) (by omega) (by rw[←HNL.out];exact bc) (by omega) (by omega) (by rw[HNL.out];exact lrq _) (by omega) (fun j z hj=>⟨(hfr6.out.cell (p:=⟨gy,j,none⟩) (by show gy < _;omega) (by show ¬gy=_;omega)).trans (HC6.out j z hj),?_⟩)
           have:=HAIN2.out z (List.mem_of_getElem? hj)
           unfold in64;omega)
          have HFK:=hdq (hfr6.out.own xi (.pointer (some ⟨W2.heap.size,0,none⟩)))
          clear hbo hfr6 hpe hx bc
          go_wp2_with fail
          go_roundw
          case rel=>exact⟨q+1,by omega,by go_num,HPK,HFK⟩
          case measure=>simp[intOf];omega
         ·have hrun:pkRun most (pk0 v) ((g.edges.take (k+1)).map scalE)=pkSet P (a.take q) a:=by
           rw[HRUN.out]
           unfold pkStep
           rw[←HA.out,←HDA.out,if_neg (by rw[←HNL.out];omega),List.take_of_length_le (by rw[←HNL.out];omega)]
          have HRUN3:=hdq hrun
          have HPE:=hdq hpe.out
          clear hrun hpe hfr6 q7
          go_wp2_with fail
          rw[round_up hlt2 (by have h1:=HG.out.1;have h2:=HG.out.2.1;have h3:=HNE.out;omega)]
          refine⟨⟨k+1,{target:= .collected D,args:= #[]}::ds,hlt2,hdq ?_,by kernel_rfl⟩,round_meas hlt2⟩
          rw[HRUN3.out]
          exact HPE.out.out
    ·obtain⟨P,hP⟩:=nmq (pkRun most (pk0 v) (g.edges.map scalE))
     have hPk:pkRun most (pk0 v) ((g.edges.take k).map scalE)=P:=by rw[hP,List.take_of_length_le (by rw[←HNE.out];omega)]
     rw[hPk]at hpm
     have hpi:PkI v most P:=by
      have hin:=scalE_in HMM.out
      rw[HV.out]at hin
      rw[hP]
      refine PkI.run _ (PkI.zero (by omega)) fun sc hsc=>?_
      obtain⟨e,he,rfl⟩:=List.mem_map.1 hsc
      exact hin e he
     have h4s:=hfr.size
     have h4z:=HZ4.out
     have q7:=(HB4.out.fr hfr (by omega)).cell 0
     simp only[List.getElem?_toArray,List.getElem?_cons_zero]at q7
     have q7l:w2.heap.size+1 < w5.heap.size:=by omega
     have HPM:=hdq hpm
     have HPI:=hdq hpi
     have HPP:=hdq hP
     have HMK:=hdq hmk
     have HBW:=hdq hbw
     have HFR5:=hdq hfr
     have HZ:=hdq h4z
     obtain⟨i0,hi,hz0,hz1,hz2⟩:=info_parts infoRow
     clear hrel hpm hpi hP hmk hbw hfr hPk h4z
     go_wp2_with fail
     go_loopw [16,86] (fun y i wr=>∃q:Nat,q≤v∧i= .int .i64 q∧Hid (Below w5.heap.size w5 wr)∧Hid (RowsR wr w5.heap.size y (pkOut P q))) (fun _ i _=>v - (intOf i).toNat)
     case atStart=>exact⟨0,Nat.zero_le _,rfl,Below.refl _ _,RowsR.nil _ _⟩
     case round=>
      obtain⟨q,hq,rfl,hb,hr⟩:=hrel
      by_cases hqv:q < v
      ·obtain⟨l,hl⟩:∃l,P[q]?=some l:=⟨_,List.getElem?_eq_getElem (by rw[HPI.out.len];exact hqv)⟩
       obtain⟨b1,g1,c1,p1,p2,p3,p4,p5,p6,p7,p8,p9⟩:=(HPM.out.keep hb.out).each q l hl
       have hl0:0 < l.length:=List.length_pos_of_mem (HPI.out.own q l hl)
       have hl6:l.length≤6:=by have:=HPI.out.few q l hl;omega
       obtain⟨z,hz⟩:∃z,l[0]?=some z:=⟨_,List.getElem?_eq_getElem hl0⟩
       have z0:=(p9 0 z hz).1
       have hhd:=pkHd_iff hl hz
       have hgd:P.getD q []=l:=by rw[List.getD_eq_getElem?_getD,hl];rfl
       have hs5:=hb.out.size
       have bl1:b1 < wr.heap.size:=by omega
       have gl1:g1 < wr.heap.size:=by omega
       have obl5:w2.heap.size < wr.heap.size:=by omega
       have q7r:=(hb.out.cell (p:=⟨w2.heap.size+1,0,none⟩) q7l).trans q7
       have HIN:=hdq (show ∀x∈l,in64 x from fun x hx=>by have:=HPI.out.mem q l hl x hx;unfold in64;omega)
       have HPN:=hdq p9
       have HHD:=hdq hhd
       have HGD:=hdq hgd
       obtain⟨nl,hnl⟩:=nmq l.length
       rw[←hnl]at p4 p7 hl0 hl6
       have HNL:=hdq hnl
       have HB:=hdq hb.out
       clear hnl hl hz p9 hhd hgd hb
       by_cases hzq:z=(q:Int)
       ·subst hzq
        go_wp2_with fail
        go_at_call 18
        refine(Try.slices_Clone_int g1 0 nl c1 l _ (by rw[HNL.out];exact lrq _) (by omega) (fun j hj=>by rw[Nat.zero_add,List.getD_eq_getElem?_getD,List.getElem?_eq_getElem hj];exact(HPN.out j _ (List.getElem?_eq_getElem hj)).1)).mono ?_
        rintro _ W1 ⟨v',rfl,hown,_,hb1⟩
        rw[HNL.out,List.take_length]at hown
        have hra:=RowAt.of_owns hown (by rw[←HNL.out];exact hl0) HIN.out
        obtain⟨rows,ho,hrr⟩:=hr.out.below hb1
        obtain⟨gv,cv,rfl,hrest⟩:=hra
        have HRA:=hdq (show RowAt W1 l (.slice (some ⟨gv,0,none⟩) l.length cv)from⟨gv,cv,rfl,hrest⟩)
        have HO:=hdq ho
        have HRR:=hdq hrr
        have HB1:=hdq (HB.out.trans (hb1.mono HB.out.size))
        have hw1:=hb1.size
        have hpl:=pkOut_len P q
        clear hown hrest ho hrr hb1
        go_wp2_with (at_builtin;refine wpList_append_own _ rfl _ _ 26 rfl w5.heap.size 22 i0 (.slice none 0 0) 1 24 Try.underlying26 hi hz0 hz1 hz2 rfl (by decide) _ _ _ rfl (HO.out.alloc _) ⟨W1.heap.size,0,none⟩ 1 1 [.slice (some ⟨gv,0,none⟩) l.length cv] rfl rfl ?c1 ?c2 ?c3 ?c4 ?c5 ?_)
        case c1=>
         intro j u hj
         match j,hj with
         |0,hj=>simp at hj;subst hj;simp[Addr.add]
        case c2=>
         intro u hu
         rw[List.mem_singleton.1 hu]
         rfl
        case c3=>unfold maxLen;omega
        case c4=>omega
        case c5=>simp;have:=HB1.out.size;omega
        intro y' w9 hown9 hgrow _
        have ho2:RowsR (W1.alloc (.cells #[.slice (some ⟨gv,0,none⟩) l.length cv] 22)) w5.heap.size u16 (pkOut P q):=RowsR.below ⟨rows,HO.out,HRR.out⟩ ((Below.refl _ _).alloc (lrq _) _)
        have hpush:RowsR w9 w5.heap.size y' (pkOut P q++ [l]):=RowsR.push (w:=W1.alloc (.cells #[.slice (some ⟨gv,0,none⟩) l.length cv] 22)) (fun i l' hi=>by
         obtain⟨r,h1,h2⟩:=HRR.out i l' hi
         exact⟨r,h1,h2.fr (T:=NoT) ((Fr.refl _ _).alloc _) fun _ _ h=>h.elim⟩) (HO.out.alloc _) (HRA.out.fr (T:=NoT) ((Fr.refl _ _).alloc _) fun _ _ h=>h.elim) hgrow hown9
        have HPU:=hdq hpush
        have HB9:=hdq ((HB1.out.alloc (by have:=HB1.out.size;omega) (.cells #[.slice (some ⟨gv,0,none⟩) l.length cv] 22)).grown hgrow (by simp;omega) (fun g hg=>(HO.out.lt g hg).1))
        clear hown9 hgrow ho2 hpush
        go_wp2_with fail
        go_roundw
        case rel=>exact⟨q+1,by omega,by go_num,HB9.out,by rw[pkOut_succ,HHD.out,if_pos (by simp),HGD.out];exact HPU.out⟩
        case measure=>simp[intOf];omega
       ·go_wp2_with fail
        go_roundw
        case rel=>exact⟨q+1,by omega,by go_num,HB.out,by rw[pkOut_succ,HHD.out,if_neg (by simpa using hzq),List.append_nil];exact hr.out⟩
        case measure=>simp[intOf];omega
      ·have hqe:q=v:=by omega
       have hrv:=hr.out
       rw[hqe,HPP.out]at hrv
       have HRV:=hdq hrv
       have HB:=hdq hb.out
       clear hqe hrv hr hb
       go_wp2_with fail
       refine leaves_marks (B:=w4.heap.size) (HMK.out.keep (OthK.below HB.out)) (by have:=HB.out.size;omega) fun w' k1 k2 k3=>⟨_,results_tmp2 rfl _ _ _,?_⟩
       have hs1:=HF2.out.size
       have hs2:=HF4.out.size
       exact .inr (.inr ⟨HMM.out,h1,h2,v,u16,HV.out,rfl,HRV.out.out.cells (by rw[k2];exact lrq _) k3,(HBW.out.trans (HB.out.mono HBW.out.size)).trans (k1.mono (by omega))⟩)
end Go.Proofs.Ytphlnpaikpjakaa
