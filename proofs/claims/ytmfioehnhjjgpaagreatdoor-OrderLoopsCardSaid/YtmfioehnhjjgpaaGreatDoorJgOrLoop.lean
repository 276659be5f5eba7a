/-
  law29: the chapter's graph.
-/
import Derived.Test.YtmfioehnhjjgpaaGreatDoorJgSlGraph
import Derived.Test.YtmfioehnhjjgpaaGreatDoorOrOrd
import Derived.Test.YtmfioehnhjjgpaaGreatDoorJgOrMap
import Derived.Test.YtmfioehnhjjgpaaGreatDoorJgFlGreat
import Derived.BigQuiet
set_option linter.unusedVariables false
set_option linter.unusedSimpArgs false
set_option maxHeartbeats 6400000
set_option maxRecDepth 100000
namespace Go.Proofs.YtmfioehnhjjgpaaGreatDoor
open Go.RowKit Go.Shelf Go.Maps

def Loop9P (W:World) (e:Ending) (w':World):Prop:=∃Aa Ae ca ce,e= .returned (.agg #[.int .i64 1,.slice Aa 0 ca,.int .i64 5,.int .i64 0,.int .i64 1,.slice Ae 5 ce])∧GrR w' (New W.heap.size w') lwG Aa ca Ae ce∧Fr NoT W w'
theorem oloop_any (w:World) (he:NameEnv w):Calls Tryz.prog 43 #[] w (Loop9P w):=by
 obtain⟨w1,hw1⟩:=nmq (w.alloc (.cells #[.int .i64 0,.slice none 0 0,.int .i64 0,.int .i64 0,.int .i64 0,.slice none 0 0] 33))
 have hf1:Fr NoT w w1:=by rw[hw1];exact(Fr.refl _ _).alloc _
 have hk1:Bk w1 w.heap.size 33 #[.int .i64 0,.slice none 0 0,.int .i64 0,.int .i64 0,.int .i64 0,.slice none 0 0]:=by rw[hw1];exact Bk.new _ _ _
 have h1:=lw_par w1 (he.keep hf1.plain)
 unfold lw0 at h1
 have HW1:=hdq hw1
 have HF1:=hdq hf1
 have HK1:=hdq hk1
 clear hw1 hf1 hk1
 have H1:=hdq (show Calls Tryz.prog 47 _ w1 (fun e w'=>∃Av Aa Ap Am cv ca cp cm,e= .returned (.tuple #[.agg #[.slice Av 1 cv,.slice Aa 0 ca,.slice Ap 0 cp,.slice Am 1 cm],.int .i64 0,.int .i64 0])∧TrR w' (New w1.heap.size w') False lw1 Av Aa Ap Am cv ca cp cm∧Below w1.heap.size w1 w')from h1)
 have HE:=hdq he
 clear h1 he
 go_enter Tryz.func43,Tryz.ntmps43
 go_wp2_with fail
 rw[←HW1.out]
 refine H1.out.mono ?_
 rintro _ w2 ⟨Av,Aa,Ap,Am,cv,ca,cp,cm,rfl,hT,hb⟩
 have hf2:Fr NoT w1 w2:=Fr.below hb
 obtain⟨w3,hw3⟩:=nmq (w2.alloc (.cells #[.slice Av 1 cv,.slice Aa 0 ca,.slice Ap 0 cp,.slice Am 1 cm] 27))
 have hf3:Fr NoT w2 w3:=by rw[hw3];exact(Fr.refl _ _).alloc _
 have hf03:Fr NoT w w3:=(HF1.out.trans hf2).trans hf3
 have h3:=lw_graph w3 (New w1.heap.size w2) False Av Aa Ap Am cv ca cp cm (HE.out.keep hf03.plain).toSp (HE.out.keep hf03.plain).lex.tab (fun b hb=>Nat.lt_of_lt_of_le hb.2 hf3.size) (hT.keep (hf3.same fun b hb=>⟨hb.2,id⟩))
 have H3:=hdq (show Calls Tryz.prog 8 #[.agg #[.slice Av 1 cv,.slice Aa 0 ca,.slice Ap 0 cp,.slice Am 1 cm]] w3 (fun e w'=>∃Aa Ae ca ce,e= .returned (.tuple #[.agg #[.int .i64 1,.slice Aa 0 ca,.int .i64 5,.int .i64 0,.int .i64 1,.slice Ae 5 ce],.int .i64 0])∧GrR w' (New w3.heap.size w') lwG Aa ca Ae ce∧Fr NoT w3 w')from h3)
 have HW3:=hdq hw3
 have HF03:=hdq hf03
 have HK3:=hdq ((HK1.out.fr0 hf2).fr0 hf3)
 clear hT hb hf2 hw3 hf3 hf03 h3
 go_wp2_with fail
 rw[←HW3.out]
 go_at_call 8
 refine H3.out.mono ?_
 rintro _ w4 ⟨Ba,Be,da,de,rfl,hG4,hf4⟩
 have hk4:=HK3.out.fr0 hf4
 have yl:=hk4.lt
 obtain⟨w5,hw5⟩:=nmq ((((((w4.setCell ⟨w.heap.size,0,none⟩ (.int .i64 1)).setCell ⟨w.heap.size,1,none⟩ (.slice Ba 0 da)).setCell ⟨w.heap.size,2,none⟩ (.int .i64 5)).setCell ⟨w.heap.size,3,none⟩ (.int .i64 0)).setCell ⟨w.heap.size,4,none⟩ (.int .i64 1)).setCell ⟨w.heap.size,5,none⟩ (.slice Be 5 de))
 have hff0:Fr (fun i=>i=w.heap.size) w4 w5:=by rw[hw5];exact Fr.own (Fr.own (Fr.own (Fr.own (Fr.own (Fr.own (Fr.refl _ _) _ _) _ _) _ _) _ _) _ _) _ _
 have hk5:Bk w5 w.heap.size 33 #[.int .i64 1,.slice Ba 0 da,.int .i64 5,.int .i64 0,.int .i64 1,.slice Be 5 de]:=by
  have:=(((((hk4.set_ 0 (.int .i64 1)).set_ 1 (.slice Ba 0 da)).set_ 2 (.int .i64 5)).set_ 3 (.int .i64 0)).set_ 4 (.int .i64 1)).set_ 5 (.slice Be 5 de)
  rw[hw5];simpa using this
 obtain⟨wf,hwf⟩:=nmq (w5.alloc (.cells #[.int .i64 1,.slice Ba 0 da,.int .i64 5,.int .i64 0,.int .i64 1,.slice Be 5 de] 33))
 have hf5:Fr NoT w5 wf:=by rw[hwf];exact(Fr.refl _ _).alloc _
 have hkf:=hk5.fr0 hf5
 have hff:Fr NoT w wf:=(Fr.thenT (HF03.out.trans hf4) hff0 fun i hi e=>by have e:i=w.heap.size:=e;omega).trans hf5
 have hz3:w.heap.size < w3.heap.size:=HK3.out.lt
 have hz4:=hf4.size
 have hz5:=hf5.size
 have hzf:=hff0.size
 have HG4:=hdq (show GrR wf (New w.heap.size wf) lwG Ba da Be de from(((hG4.keep (hff0.same fun b hb=>⟨hb.2,fun e=>by have e:b=w.heap.size:=e;have:w3.heap.size≤b:=hb.1;omega⟩)).keep (hf5.same fun b hb=>⟨Nat.lt_of_lt_of_le hb.2 hzf,id⟩)).more fun b hb=>⟨by have:w3.heap.size≤b:=hb.1;omega,by have:b < w4.heap.size:=hb.2;omega⟩))
 have HK4:=hdq hk4
 have HW5:=hdq hw5
 have HWF:=hdq hwf
 have HFF:=hdq hff
 have HKF:=hdq hkf
 clear hG4 hf4 hk4 hwf hff hff0 hkf hz3 hz4 hz5 hzf hw5 hf5 hk5
 have kz0:=HK4.out.frozen 0
 have kz1:=HK4.out.frozen 1
 have kz2:=HK4.out.frozen 2
 have kz3:=HK4.out.frozen 3
 have kz4:=HK4.out.frozen 4
 have kz5:=HK4.out.frozen 5
 have kc0:=HK4.out.cell 0
 have kc1:=HK4.out.cell 1
 have kc2:=HK4.out.cell 2
 have kc3:=HK4.out.cell 3
 have kc4:=HK4.out.cell 4
 have kc5:=HK4.out.cell 5
 have kl:=HK4.out.lt
 simp only[getsL]at kc0 kc1 kc2 kc3 kc4 kc5
 go_wp2_with fail
 rw[←HW5.out,←HWF.out]
 refine bodyPost_ret (results_cell_row (p:=0) (ty:=33) rfl _ _ w.heap.size 33 _ (0,0) _ rfl HKF.out Tryz.underlying33 rfl sizeGr) rfl ?_
 exact⟨Ba,Be,da,de,rfl,HG4.out,HFF.out⟩

theorem lw_may:mayG lwG=true:=by kernel_rfl
theorem lw_order:(osN (outI (opairE lwG.edges)) 0 20).way = []∧(osN (outI (opairE lwG.edges)) 0 20).done.reverse = [0,2,3,1,4]∧(osN (outI (opairE lwG.edges)) 0 20).heads = [2]:=⟨by kernel_rfl,by kernel_rfl,by kernel_rfl⟩
theorem heads_one {l:List Int} (h:HeadsL [2] l):l= [2]:=by
 obtain⟨h1,h2,h3⟩:=h
 have hall:∀x∈l,x=2:=fun x hx=>by simpa using (h2 x (h3 x hx)).1 hx
 have h2m:(2:Int)∈l:=(h2 2 (by unfold in64;omega)).2 (by simp)
 match l,h1,hall,h2m with
 | [],_,_,h=>simp at h
 | [x],_,ha,_=>rw[ha x (by simp)]
 |x::y::r,hn,ha,_=>
  have e1:=ha x (by simp)
  have e2:=ha y (by simp)
  rw[e1,e2]at hn
  simp at hn
theorem oalive_any (w:World) (he:NameEnv w):Calls Tryz.prog 13 #[] w (TruePost w):=by
 have HC:=hdq (oloop_any w he)
 have HE:=hdq he
 clear he
 go_enter Tryz.func13,Tryz.ntmps13
 go_wp2_with fail
 refine HC.out.mono ?_
 rintro _ w1 ⟨Aa,Ae,ca,ce,rfl,hG,hf⟩
 have HF:=hdq hf
 have HO:=hdq (show Calls Tryz.prog 12 #[.agg #[.int .i64 1,.slice Aa 0 ca,.int .i64 5,.int .i64 0,.int .i64 1,.slice Ae 5 ce]] w1 (OrderP lwG w1)from order_any lwG Aa Ae ca ce w1 (hG.grSl fun b hb=>hb.2))
 clear hG hf
 go_wp2_with fail
 go_at_call 12
 refine HO.out.mono ?_
 rintro _ w2 ho
 rcases ho with⟨hm,_⟩|⟨_,k,gg,c,hway,rfl,hrow,hb2⟩
 ·rw[lw_may]at hm;cases hm
 rw[show lwG.start=0 from rfl]at hway hrow ⊢
 have hk:=osN_uniq hway lw_order.1
 rw[hk]at hrow ⊢
 have hl5:(osN (outI (opairE lwG.edges)) 0 20).done.length =5:=by
  have:=congrArg List.length lw_order.2.1
  simpa using this
 rw[hl5,lw_order.2.1]at hrow
 rw[hl5]
 have HROW:=hdq hrow
 have HF2:=hdq (HF.out.trans (Fr.below hb2:Fr NoT w1 w2))
 have HC2:=hdq (oloop_any w2 (HE.out.keep HF2.out.plain))
 clear hway hrow hb2 hk hl5
 go_wp2_with fail
 go_at_call 43
 refine HC2.out.mono ?_
 rintro _ w3 ⟨Ba,Be,da,de,rfl,hG,hf⟩
 have HF23:=hdq hf
 have HH:=hdq (show Calls Tryz.prog 15 #[.agg #[.int .i64 1,.slice Ba 0 da,.int .i64 5,.int .i64 0,.int .i64 1,.slice Be 5 de]] w3 (HeadsP lwG w3)from heads_any lwG Ba Be da de w3 (hG.grSl fun b hb=>hb.2))
 clear hG hf
 go_wp2_with fail
 go_at_call 15
 refine HH.out.mono ?_
 rintro _ w4 ho
 rcases ho with⟨hm,_⟩|⟨_,k,v,l,hway,rfl,hh,hrow,hl,hb4⟩
 ·rw[lw_may]at hm;cases hm
 rw[show lwG.start=0 from rfl]at hway hh
 have hk:=osN_uniq hway lw_order.1
 rw[hk,lw_order.2.2]at hh
 obtain rfl:=heads_one hh
 have hf24:Fr NoT w2 w4:=HF23.out.trans (Fr.below hb4)
 have hgl:gg < w2.heap.size:=(HROW.out.lt gg rfl).2
 have cell:∀(j:Nat) (x:Int),j < 5→([0,2,3,1,4]:List Int)[j]?=some x→w4.cell? ⟨gg,j,none⟩=some (.int .i64 x):=fun j x hj hx=>by
  rw[hf24.cell (p:=⟨gg,j,none⟩) hgl id,HROW.out.cellAt j (by omega),intC,List.getElem?_map,hx]
  rfl
 have c0:=cell 0 0 (by omega) rfl
 have c1:=cell 1 2 (by omega) rfl
 have c2:=cell 2 3 (by omega) rfl
 have c3:=cell 3 1 (by omega) rfl
 have c4:=cell 4 4 (by omega) rfl
 obtain⟨gh,ch,hv⟩:∃g cap,v= .slice (some ⟨g,0,none⟩) 1 cap:=by
  obtain⟨_,h1|⟨g,cap,cur,hv,_⟩⟩:=hrow
  ·simp at h1
  ·exact⟨g,cap,hv⟩
 subst hv
 have d0:=hrow.cellAt 0 (by decide)
 simp only[intC,List.map_cons,List.map_nil,List.getElem?_cons_zero]at d0
 have hb0:=HF2.out.plain.trans ((hf24.plain).mono HF2.out.size)
 have HB:=hdq hb0
 have hgl4:gg < w4.heap.size:=Nat.lt_of_lt_of_le hgl hf24.size
 have hgh4:gh < w4.heap.size:=(hrow.lt gh rfl).2
 clear hway hh hb4 hk hf24 hrow hl cell hb0 hgl
 go_wp2_with fail
 go_ret
 exact⟨rfl,HB.out⟩
theorem onames_any (w:World) (he:NameEnv w):Calls Tryz.prog 4 #[] w (TruePost w):=by
 have hz:GrSl w w.heap.size ⟨0, [],0,0,0, []⟩ none 0 none 0:=⟨⟨by simp,by omega,fun h=>by simp at h⟩,⟨by simp,by omega,fun h=>by simp at h⟩⟩
 have HO:=hdq (show Calls Tryz.prog 12 #[.agg #[.int .i64 0,.slice none 0 0,.int .i64 0,.int .i64 0,.int .i64 0,.slice none 0 0]] w (OrderP ⟨0, [],0,0,0, []⟩ w)from order_any ⟨0, [],0,0,0, []⟩ none none 0 0 w hz)
 have HE:=hdq he
 clear he hz
 go_enter Tryz.func4,Tryz.ntmps4
 go_wp2_with fail
 go_at_call 12
 refine HO.out.mono ?_
 rintro _ w2 ho
 rcases ho with⟨_,rfl,hb⟩|⟨hm,_⟩
 rotate_left
 ·rw[show mayG ⟨0, [],0,0,0, []⟩=false from by kernel_rfl]at hm;cases hm
 have HB:=hdq hb
 have HA:=hdq (oalive_any w2 (HE.out.keep hb))
 clear hb
 go_wp2_with fail
 go_at_call 13
 refine HA.out.mono ?_
 rintro _ w3 ⟨rfl,hb3⟩
 have HB3:=hdq hb3
 clear hb3
 go_wp2_with fail
 go_ret
 exact⟨rfl,HB.out.trans (HB3.out.mono HB.out.size)⟩

theorem placeI_pos {l:List Int} {n:Int}:0≤placeI l n↔n∈l:=by
 unfold placeI
 split
 ·rename_i h
  exact⟨fun _=>h,fun _=>by omega⟩
 ·rename_i h
  exact⟨fun h'=>by omega,fun h'=>absurd h' h⟩
theorem placeI_in {l:List Int} {n:Int} (h:n∈l):placeI l n=l.idxOf n:=by
 unfold placeI
 rw[if_pos h]
theorem mem_opairE {l:List Ed} {e:Ed} (h:e∈l):e.to_∈outI (opairE l) e.from_:=by
 unfold outI opairE
 rw[List.mem_map]
 exact⟨(e.from_,e.to_),List.mem_filter.2 ⟨List.mem_map.2 ⟨e,h,rfl⟩,by simp⟩,rfl⟩
theorem loops_edge {g:Gr} {k:Nat} {hl:List Int} (hw:(osN (outI (opairE g.edges)) g.start k).way = []) (hh:HeadsL (osN (outI (opairE g.edges)) g.start k).heads hl) {e:Ed} (he:e∈g.edges) (h64:in64 e.to_):
  let l:=(osN (outI (opairE g.edges)) g.start k).done.reverse
  placeI l e.from_ < 0∨(0≤placeI l e.from_∧0≤placeI l e.to_∧placeI l e.from_ < placeI l e.to_)∨(0≤placeI l e.from_∧0≤placeI l e.to_∧placeI l e.to_≤placeI l e.from_∧0≤placeI hl e.to_):=by
 intro l
 obtain⟨_,_,_,h4⟩:=order_law hw
 by_cases h1:placeI l e.from_ < 0
 ·exact .inl h1
 have hf:e.from_∈l:=placeI_pos.1 (by omega)
 obtain⟨ht,hor⟩:=h4 e.from_ hf e.to_ (mem_opairE he)
 by_cases h2:placeI l e.from_ < placeI l e.to_
 ·exact .inr (.inl ⟨by omega,placeI_pos.2 ht,h2⟩)
 ·refine .inr (.inr ⟨by omega,placeI_pos.2 ht,by omega,placeI_pos.2 ?_⟩)
  rcases hor with h3|h3
  ·rw[placeI_in hf,placeI_in ht]at h2
   exact absurd (Int.ofNat_lt.2 h3) h2
  ·exact(hh.2.1 _ h64).2 h3
theorem nodup_place {l:List Int} (h:l.Nodup) {i:Nat} {x:Int} (hi:l[i]?=some x):placeI l x=i:=by
 refine place_yes (fun j y hj hy e=>?_) hi
 subst e
 obtain⟨h1,e1⟩:=List.getElem?_eq_some_iff.1 hi
 obtain⟨h2,e2⟩:=List.getElem?_eq_some_iff.1 hy
 exact(List.pairwise_iff_getElem.1 h) j i h2 h1 hj (e2.trans e1.symm)
theorem row_isl {w:World} {L n:Nat} {v:Value} {l:List Int} (h:w.ownsRow L 3 1 v n (intC l)) (h64:∀x∈l,in64 x):∃A c,v= .slice A l.length c∧IsSl w w.heap.size l A c∧l.length=n:=by
 have hown:=h
 obtain⟨hl,h1|⟨g,cap,cur,hv,hb,hg,hn,hc,hsz,ht⟩⟩:=h
 ·have e:l.length=n:=by simpa[intC]using hl
  exact⟨none,0,by rw[e,h1.1,h1.2],⟨by omega,by omega,fun hp=>by omega⟩,e⟩
 ·have e:l.length=n:=by simpa[intC]using hl
  subst e
  refine⟨_,cap,hv,⟨hn,by unfold maxLen at hc;omega,fun hp=>⟨g,0,rfl,(Array.getElem?_eq_some_iff.1 hg).1,fun i m hi=>?_⟩⟩,rfl⟩
  subst hv
  obtain⟨hil,_⟩:=List.getElem?_eq_some_iff.1 hi
  refine⟨?_,h64 _ (List.mem_of_getElem? hi)⟩
  rw[Nat.zero_add,hown.cellAt i (by omega),intC,List.getElem?_map,hi]
  rfl

theorem oloops_any (g:Gr) (Aa Ae:Option Addr) (ca ce:Nat) (w:World) (he:NameEnv w) (hg:GrSl w w.heap.size g Aa ca Ae ce):
  Calls Tryz.prog 5 #[grV g.vars Aa g.arrays.length ca g.nodes g.start g.last Ae g.edges.length ce] w (TruePost w):=by
 have hla:=Nat.le_trans hg.arrays.1 hg.arrays.2.1
 have hle:=Nat.le_trans hg.edges.1 hg.edges.2.1
 have hgr:=fun(W:World) (hf:Fr NoT w W)=>great_any g.vars Aa g.arrays.length ca g.nodes g.start g.last g.edges Ae ce w.heap.size W hf.size (hg.edges.keep (Same.of hf.plain (Nat.le_refl _))) hla
 have hup:∀W:World,Fr NoT w W→GrSl W W.heap.size g Aa ca Ae ce:=fun W hf=>(hg.keep (Same.of hf.plain (Nat.le_refl _))).rise hf.size
 have hor:=fun(W:World) (hf:Fr NoT w W)=>order_any g Aa Ae ca ce W (hup W hf)
 have hhe:=fun(W:World) (hf:Fr NoT w W)=>heads_any g Aa Ae ca ce W (hup W hf)
 unfold grV at hgr hor hhe ⊢
 obtain⟨na,hna⟩:=nmq g.arrays.length
 obtain⟨ne,hne⟩:=nmq g.edges.length
 rw[←hna,←hne]at hgr hor hhe ⊢
 rw[←hna]at hla
 rw[←hne]at hle
 obtain⟨w1,hw1⟩:=nmq (w.alloc (.cells #[.int .i64 g.vars,.slice Aa na ca,.int .i64 g.nodes,.int .i64 g.start,.int .i64 g.last,.slice Ae ne ce] 33))
 have hf1:Fr NoT w w1:=by rw[hw1];exact(Fr.refl _ _).alloc _
 have hk1:Bk w1 w.heap.size 33 #[.int .i64 g.vars,.slice Aa na ca,.int .i64 g.nodes,.int .i64 g.start,.int .i64 g.last,.slice Ae ne ce]:=by rw[hw1];exact Bk.new _ _ _
 have HAL:=hdq (oalive_any w1 (he.keep hf1.plain))
 have HGR:=hdq hgr
 have HOR:=hdq hor
 have HHE:=hdq hhe
 have HW1:=hdq hw1
 have HF1:=hdq hf1
 have HK1:=hdq hk1
 have HNE:=hdq hne
 have HG:=hdq hg.edges
 clear hg hgr hor hhe hup hna hne hw1 hf1 hk1 he
 go_enter Tryz.func5,Tryz.ntmps5
 go_wp2_with fail
 rw[←HW1.out]
 refine HAL.out.mono ?_
 rintro _ w2 ⟨rfl,hb2⟩
 have HF2:=hdq (HF1.out.trans (Fr.below hb2:Fr NoT w1 w2))
 have HK2:=hdq (HK1.out.fr0 (Fr.below hb2:Fr NoT w1 w2))
 clear hb2
 have gc0:=HK2.out.cell 0
 have gc1:=HK2.out.cell 1
 have gc2:=HK2.out.cell 2
 have gc3:=HK2.out.cell 3
 have gc4:=HK2.out.cell 4
 have gc5:=HK2.out.cell 5
 have gl:=HK2.out.lt
 simp only[getsL]at gc0 gc1 gc2 gc3 gc4 gc5
 go_wp2_with fail
 go_at_call 14
 refine(HGR.out w2 HF2.out).mono ?_
 rintro _ w3 ⟨b,rfl,hb3⟩
 have hf23:Fr NoT w2 w3:=Fr.below hb3
 have HF3:=hdq (HF2.out.trans hf23)
 have HK3:=hdq (HK2.out.fr0 hf23)
 clear hb3 hf23 gc0 gc1 gc2 gc3 gc4 gc5 gl
 have gc0:=HK3.out.cell 0
 have gc1:=HK3.out.cell 1
 have gc2:=HK3.out.cell 2
 have gc3:=HK3.out.cell 3
 have gc4:=HK3.out.cell 4
 have gc5:=HK3.out.cell 5
 have gl:=HK3.out.lt
 simp only[getsL]at gc0 gc1 gc2 gc3 gc4 gc5
 cases b
 rotate_left
 ·go_wp2_with fail
  go_ret
  exact⟨rfl,HF3.out.plain⟩
 go_wp2_with fail
 go_at_call 12
 refine(HOR.out w3 HF3.out).mono ?_
 rintro _ w4 ho
 have hb4:Below w3.heap.size w3 w4:=by
  rcases ho with⟨_,_,h⟩|⟨_,k,gg,c,_,_,_,h⟩<;>exact h
 have hf34:Fr NoT w3 w4:=Fr.below hb4
 have HF4:=hdq (HF3.out.trans hf34)
 have HK4:=hdq (HK3.out.fr0 hf34)
 clear hb4 hf34 gc0 gc1 gc2 gc3 gc4 gc5 gl
 have gc0:=HK4.out.cell 0
 have gc1:=HK4.out.cell 1
 have gc2:=HK4.out.cell 2
 have gc3:=HK4.out.cell 3
 have gc4:=HK4.out.cell 4
 have gc5:=HK4.out.cell 5
 have gl:=HK4.out.lt
 simp only[getsL]at gc0 gc1 gc2 gc3 gc4 gc5
 rcases ho with⟨hm,rfl,_⟩|⟨hm,k,gg,c,hway,rfl,hrow,_⟩
 ·have HM:=hdq hm
  clear hm
  go_wp2_with fail
  go_at_call 15
  refine(HHE.out w4 HF4.out).mono ?_
  rintro _ w5 ho
  rcases ho with⟨_,rfl,hb5⟩|⟨hm,_⟩
  rotate_left
  ·rw[HM.out]at hm;cases hm
  have HF5:=hdq (HF4.out.trans (Fr.below hb5:Fr NoT w4 w5))
  clear hb5 gc0 gc1 gc2 gc3 gc4 gc5 gl
  go_wp2_with fail
  go_ret
  exact⟨rfl,HF5.out.plain⟩
 -- <MAY>
 have HM:=hdq hm
 have HROW:=hdq hrow
 have HWAY:=hdq hway
 clear hm hrow hway
 go_wp2_with fail
 go_at_call 15
 refine(HHE.out w4 HF4.out).mono ?_
 rintro _ w5 ho
 rcases ho with⟨hm,_⟩|⟨_,k',v,hl,hway',rfl,hh,hrow',hlen',hb5⟩
 ·rw[HM.out]at hm;cases hm
 rw[osN_uniq hway' HWAY.out]at hh
 have hf45:Fr NoT w4 w5:=Fr.below hb5
 have hf5:=HF4.out.trans hf45
 obtain⟨hln,hnd,hst,hlt,hed⟩:=mayG_nodes9 HM.out
 obtain⟨h1,h2,h3,h4⟩:=order_law HWAY.out
 obtain⟨l,hl2⟩:=nmq ((osN (outI (opairE g.edges)) g.start k).done.reverse )
 have hle:∀ {e:Ed},e∈g.edges→placeI l e.from_ < 0∨(0≤placeI l e.from_∧0≤placeI l e.to_∧placeI l e.from_ < placeI l e.to_)∨(0≤placeI l e.from_∧0≤placeI l e.to_∧placeI l e.to_≤placeI l e.from_∧0≤placeI hl e.to_):=fun {e} hm=>by
  rw[hl2]
  exact loops_edge HWAY.out hh hm (by have:=hed e hm;unfold in64;omega)
 have h64:∀x∈l,in64 x:=fun x hx=>by
  rw[hl2]at hx
  rcases osN_done _ _ k x (by simpa using hx)with rfl|⟨n,hn⟩
  ·unfold in64;omega
  ·unfold outI opairE at hn
   obtain⟨e,he,rfl⟩:=List.mem_map.1 hn
   obtain⟨e',he',rfl⟩:=List.mem_map.1 (List.mem_filter.1 he).1
   have:=hed e' he'
   show in64 e'.to_
   unfold in64;omega
 have hD:(osN (outI (opairE g.edges)) g.start k).done.length =l.length:=by rw[hl2];simp
 have hrow4:=HROW.out
 rw[hD,←hl2]at hrow4
 rw[hD]
 obtain⟨A1,c1,hv1,hs1,_⟩:=row_isl hrow4 h64
 simp only[Value.slice.injEq,true_and]at hv1
 obtain⟨rfl,rfl⟩:=hv1
 obtain⟨A2,c2,rfl,hs2,_⟩:=row_isl hrow' hh.2.2
 have hs15:IsSl w5 w4.heap.size l (some ⟨gg,0,none⟩) c:=hs1.keep (Same.of hf45.plain (Nat.le_refl _))
 rw[←hl2]at h1 h2 h3
 have hst0:l[0]?=some g.start:=by rw[←List.head?_eq_getElem?];exact h2
 have hnl:0 < l.length:=List.length_pos_iff.2 h1
 have hgg:gg < w5.heap.size:=Nat.lt_of_lt_of_le (hrow4.lt gg rfl).2 hf45.size
 have k0:w5.cell? ⟨gg,0,none⟩=some (.int .i64 g.start):=by
  obtain⟨b,o,e,hat⟩:=hs15.2.2 hnl
  cases e
  exact(hat.2 0 g.start hst0).1
 have hpl:∀(W:World) (x:Int),Fr NoT w5 W→Calls Tryz.prog 16 #[.slice (some ⟨gg,0,none⟩) l.length c,.int .i64 x] W fun e w'=>e= .returned (.int .i64 (placeI l x))∧w'=W:=fun W x hf=>
  place_any l _ c x _ W (hs15.keep (Same.of hf.plain hf45.size))
 have hph:∀(W:World) (x:Int),Fr NoT w5 W→Calls Tryz.prog 16 #[.slice A2 hl.length c2,.int .i64 x] W fun e w'=>e= .returned (.int .i64 (placeI hl x))∧w'=W:=fun W x hf=>
  place_any hl _ c2 x _ W (hs2.keep (Same.of hf.plain (Nat.le_refl _)))
 have hplc:∀(i:Nat),i < l.length→∃x:Int,placeI l x=i∧∀W,Fr NoT w5 W→W.cell? ⟨gg,i,none⟩=some (.int .i64 x):=fun i hi=>by
  obtain⟨x,hx⟩:∃x,l[i]?=some x:=⟨_,List.getElem?_eq_getElem hi⟩
  refine⟨x,nodup_place h3 hx,fun W hf=>?_⟩
  obtain⟨b,o,e,hat⟩:=hs15.2.2 hnl
  cases e
  rw[hf.cell (p:=⟨gg,i,none⟩) hgg id]
  have:=(hat.2 i x hx).1
  rw[Nat.zero_add]at this
  exact this
 obtain⟨n,hn⟩:=nmq l.length
 obtain⟨m,hm⟩:=nmq hl.length
 have hn63:n≤9223372036854775807:=by rw[hn];exact Nat.le_trans hs15.1 hs15.2.1
 have hnc:n≤c:=by rw[hn];exact hs15.1
 rw[←hn]at hpl hplc hnl ⊢
 rw[←hm]at hph ⊢
 have HPL:=hdq hpl
 have HPH:=hdq hph
 have HPLC:=hdq hplc
 have HLE:=hdq (show ∀e:Ed,e∈g.edges→_ from fun e he=>hle he)
 have HF5:=hdq hf5
 have HK5:=hdq (HK4.out.fr0 hf45)
 have HLN:=hdq hln
 clear h1 h2 h3 h4 hh hb5 hf45 hf5 hed hln hnd hst hlt hle h64 hD hrow4 hs1 hs2 hs15 hst0 hl2 hpl hph hplc hn hm hrow' hway' hlen'
 clear gc0 gc1 gc2 gc3 gc4 gc5 gl
 have gc0:=HK5.out.cell 0
 have gc1:=HK5.out.cell 1
 have gc2:=HK5.out.cell 2
 have gc3:=HK5.out.cell 3
 have gc4:=HK5.out.cell 4
 have gc5:=HK5.out.cell 5
 have gl:=HK5.out.lt
 simp only[getsL]at gc0 gc1 gc2 gc3 gc4 gc5
 have hn1:¬n=0:=by omega
 have hn2:((n:Int)==0)=false:=by simpa using hn1
 have hn3:decide (n=0)=false:=by simpa using hn1
 have hn4:(n==0)=false:=by simpa using hn1
 go_wp2_with fail
 go_quiet (fail)
 rename_i nq
 obtain⟨wd,hwd⟩:=nmq (w5.drewN nq)
 rw[←hwd]
 have HFD:=hdq (show Fr NoT w5 wd from by rw[hwd];exact(Fr.refl _ _).drewN _)
 clear hwd k0 gc0 gc1 gc2 gc3 gc4 gc5 gl
 go_wp2_with fail
 go_loop [8] (fun i=>∃j:Nat,j≤n∧i= .int .i64 j) (fun i=>n - (intOf i).toNat)
 case atStart=>exact⟨0,Nat.zero_le _,rfl⟩
 case round=>
  obtain⟨j,hj,rfl⟩:=hrel
  by_cases hlt:j < n
  ·obtain⟨x,hpx,hcx⟩:=HPLC.out j hlt
   have c0:=hcx wd HFD.out
   have hgd:gg < wd.heap.size:=Nat.lt_of_lt_of_le hgg HFD.out.size
   have HC:=hdq (HPL.out wd x HFD.out)
   rw[hpx]at HC
   clear hcx hpx
   go_wp2_with fail
   go_at_call 16
   refine HC.out.mono ?_
   rintro _ _ ⟨rfl,rfl⟩
   go_wp2_with fail
   go_round
   case rel=>exact⟨j+1,by omega,by go_num⟩
   case measure=>simp[intOf];omega
  ·have hj':j=n:=by omega
   clear hj'
   go_wp2_with fail
   go_loopw [9] (fun i wr=>∃j:Nat,j≤ne∧i= .int .i64 j∧Hid (Fr NoT w5 wr)) (fun i _=>ne - (intOf i).toNat)
   case atStart=>exact⟨0,Nat.zero_le _,rfl,HFD⟩
   case round=>
    obtain⟨i,hi,rfl,HFR⟩:=hrel
    have HKR:=hdq (HK5.out.fr0 HFR.out)
    have gc5:=HKR.out.cell 5
    have gl:=HKR.out.lt
    simp only[getsL]at gc5
    by_cases hlt2:i < ne
    ·obtain⟨e,hee⟩:∃e,g.edges[i]?=some e:=⟨_,List.getElem?_eq_getElem (by rw[←HNE.out];exact hlt2)⟩
     obtain⟨b,o,rfl,hat⟩:=HG.out.2.2 (by rw[←HNE.out];omega)
     obtain⟨hbB,c0,c1,_⟩:=(hat.keep (Same.of (HF5.out.trans HFR.out).plain (Nat.le_refl _))).at_ hee
     have hbl:b < wr.heap.size:=Nat.lt_of_lt_of_le hbB (HF5.out.trans HFR.out).size
     have hq:∀(x:Int) (q:Nat),Calls Tryz.prog 16 #[.slice (some ⟨gg,0,none⟩) n c,.int .i64 x] (wr.drewN q) fun e w'=>e= .returned (.int .i64 (placeI l x))∧wr.drewN q=w':=fun x q=>(HPL.out (wr.drewN q) x (HFR.out.drewN q)).mono fun _ _ h=>⟨h.1,h.2.symm⟩
     have hcase:=HLE.out e (List.mem_of_getElem? hee)
     obtain⟨ef,hef⟩:=nmq e.from_
     obtain⟨et,het⟩:=nmq e.to_
     rw[←hef,←het]at hcase
     rw[←hef]at c0
     rw[←het]at c1
     have h1:=hq ef
     have h2:=hq et
     have hph:=fun W hf=>HPH.out W et hf
     obtain⟨pa,hpa⟩:=nmq (placeI l ef)
     obtain⟨pb,hpb⟩:=nmq (placeI l et)
     obtain⟨pc,hpc⟩:=nmq (placeI hl et)
     rw[←hpa,←hpb,←hpc]at hcase
     rw[←hpa]at h1
     rw[←hpb]at h2
     rw[←hpc]at hph
     have H1:=hdq h1
     have H2:=hdq h2
     have HPC:=hdq hph
     have HCS:=hdq hcase
     clear hq h1 h2 hph hcase hpa hpb hpc hef het hee hat hlt
     go_wp2_with fail
     go_quiet (first|(go_at_call 16;with_reducible exact quiet_left (H1.out _))|(go_at_call 16;with_reducible exact quiet_left (H2.out _)))
     rename_i nq2
     rcases HCS.out with q1|⟨q1,q2,q3⟩|⟨q1,q2,q3,q4⟩
     ·have g1:¬0≤pa:=by omega
      clear q1 HCS
      go_wp2_with fail
      go_roundw
      case rel=>exact⟨i+1,by omega,by go_num,HFR.out.drewN _⟩
      case measure=>simp[intOf];omega
     ·have g2:¬pb < 0:=by omega
      have g3:¬pb≤pa:=by omega
      clear q2 q3 HCS
      go_wp2_with fail
      go_roundw
      case rel=>exact⟨i+1,by omega,by go_num,HFR.out.drewN _⟩
      case measure=>simp[intOf];omega
     ·have g2:¬pb < 0:=by omega
      have g4:¬pc < 0:=by omega
      clear q2 q4 HCS
      go_wp2_with fail
      go_at_call 16
      refine(HPC.out _ (HFR.out.drewN _)).mono ?_
      rintro _ _ ⟨rfl,rfl⟩
      go_wp2_with fail
      go_roundw
      case rel=>exact⟨i+1,by omega,by go_num,HFR.out.drewN _⟩
      case measure=>simp[intOf];omega
    ·clear hlt
     go_wp2_with fail
     go_ret
     exact⟨rfl,(HF5.out.trans HFR.out).plain⟩
 -- </MAY>
end Go.Proofs.YtmfioehnhjjgpaaGreatDoor
