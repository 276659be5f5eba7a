/-
  law29: the chapter's graph.
-/
import Derived.Test.YtmfioehnhjjgpaaGreatDoorJgSlGraph
import Derived.Test.YtmfioehnhjjgpaaGreatDoorOrOrd
import Derived.Test.YtmfioehnhjjgpaaGreatDoorJgOrMap
set_option linter.unusedVariables false
set_option linter.unusedSimpArgs false
set_option maxHeartbeats 1600000
set_option maxRecDepth 100000
namespace Go.Proofs.YtmfioehnhjjgpaaGreatDoor
open Go.RowKit Go.Shelf Go.Maps

def Loop9P (W:World) (e:Ending) (w':World):Prop:=∃Aa Ae ca ce,e= .returned (.agg #[.int .i64 1,.slice Aa 0 ca,.int .i64 5,.int .i64 0,.int .i64 1,.slice Ae 5 ce])∧GrR w' (New W.heap.size w') lwG Aa ca Ae ce∧Fr NoT W w'
theorem oloop_any (w:World) (he:NameEnv w):Calls Tryz.prog 43 #[] w (Loop9P w):=by
 obtain⟨w1,hw1⟩:=nmq (w.alloc (.cells #[.int .i64 0,.slice none 0 0,.int .i64 0,.int .i64 0,.int .i64 0,.slice none 0 0] 33))
 have hf1:Fr NoT w w1:=by rw[hw1];exact(Fr.refl _ _).alloc _
 have hk1:Bk w1 w.heap.size 33 #[.int .i64 0,.slice none 0 0,.int .i64 0,.int .i64 0,.int .i64 0,.slice none 0 0]:=by rw[hw1];exact Bk.new _ _ _
 have h1:=lw_par w1 (he.keep hf1.plain)
 unfold lw0 at h1
 have HW1:=hdq hw1
 have HF1:=hdq hf1
 have HK1:=hdq hk1
 clear hw1 hf1 hk1
 have H1:=hdq (show Calls Tryz.prog 47 _ w1 (fun e w'=>∃Av Aa Ap Am cv ca cp cm,e= .returned (.tuple #[.agg #[.slice Av 1 cv,.slice Aa 0 ca,.slice Ap 0 cp,.slice Am 1 cm],.int .i64 0,.int .i64 0])∧TrR w' (New w1.heap.size w') False lw1 Av Aa Ap Am cv ca cp cm∧Below w1.heap.size w1 w')from h1)
 have HE:=hdq he
 clear h1 he
 go_enter Tryz.func43,Tryz.ntmps43
 go_wp2_with fail
 rw[←HW1.out]
 refine H1.out.mono ?_
 rintro _ w2 ⟨Av,Aa,Ap,Am,cv,ca,cp,cm,rfl,hT,hb⟩
 have hf2:Fr NoT w1 w2:=Fr.below hb
 obtain⟨w3,hw3⟩:=nmq (w2.alloc (.cells #[.slice Av 1 cv,.slice Aa 0 ca,.slice Ap 0 cp,.slice Am 1 cm] 27))
 have hf3:Fr NoT w2 w3:=by rw[hw3];exact(Fr.refl _ _).alloc _
 have hf03:Fr NoT w w3:=(HF1.out.trans hf2).trans hf3
 have h3:=lw_graph w3 (New w1.heap.size w2) False Av Aa Ap Am cv ca cp cm (HE.out.keep hf03.plain).toSp (HE.out.keep hf03.plain).lex.tab (fun b hb=>Nat.lt_of_lt_of_le hb.2 hf3.size) (hT.keep (hf3.same fun b hb=>⟨hb.2,id⟩))
 have H3:=hdq (show Calls Tryz.prog 8 #[.agg #[.slice Av 1 cv,.slice Aa 0 ca,.slice Ap 0 cp,.slice Am 1 cm]] w3 (fun e w'=>∃Aa Ae ca ce,e= .returned (.tuple #[.agg #[.int .i64 1,.slice Aa 0 ca,.int .i64 5,.int .i64 0,.int .i64 1,.slice Ae 5 ce],.int .i64 0])∧GrR w' (New w3.heap.size w') lwG Aa ca Ae ce∧Fr NoT w3 w')from h3)
 have HW3:=hdq hw3
 have HF03:=hdq hf03
 have HK3:=hdq ((HK1.out.fr0 hf2).fr0 hf3)
 clear hT hb hf2 hw3 hf3 hf03 h3
 go_wp2_with fail
 rw[←HW3.out]
 go_at_call 8
 refine H3.out.mono ?_
 rintro _ w4 ⟨Ba,Be,da,de,rfl,hG4,hf4⟩
 have hk4:=HK3.out.fr0 hf4
 have yl:=hk4.lt
 obtain⟨w5,hw5⟩:=nmq ((((((w4.setCell ⟨w.heap.size,0,none⟩ (.int .i64 1)).setCell ⟨w.heap.size,1,none⟩ (.slice Ba 0 da)).setCell ⟨w.heap.size,2,none⟩ (.int .i64 5)).setCell ⟨w.heap.size,3,none⟩ (.int .i64 0)).setCell ⟨w.heap.size,4,none⟩ (.int .i64 1)).setCell ⟨w.heap.size,5,none⟩ (.slice Be 5 de))
 have hff0:Fr (fun i=>i=w.heap.size) w4 w5:=by rw[hw5];exact Fr.own (Fr.own (Fr.own (Fr.own (Fr.own (Fr.own (Fr.refl _ _) _ _) _ _) _ _) _ _) _ _) _ _
 have hk5:Bk w5 w.heap.size 33 #[.int .i64 1,.slice Ba 0 da,.int .i64 5,.int .i64 0,.int .i64 1,.slice Be 5 de]:=by
  have:=(((((hk4.set_ 0 (.int .i64 1)).set_ 1 (.slice Ba 0 da)).set_ 2 (.int .i64 5)).set_ 3 (.int .i64 0)).set_ 4 (.int .i64 1)).set_ 5 (.slice Be 5 de)
  rw[hw5];simpa using this
 obtain⟨wf,hwf⟩:=nmq (w5.alloc (.cells #[.int .i64 1,.slice Ba 0 da,.int .i64 5,.int .i64 0,.int .i64 1,.slice Be 5 de] 33))
 have hf5:Fr NoT w5 wf:=by rw[hwf];exact(Fr.refl _ _).alloc _
 have hkf:=hk5.fr0 hf5
 have hff:Fr NoT w wf:=(Fr.thenT (HF03.out.trans hf4) hff0 fun i hi e=>by have e:i=w.heap.size:=e;omega).trans hf5
 have hz3:w.heap.size < w3.heap.size:=HK3.out.lt
 have hz4:=hf4.size
 have hz5:=hf5.size
 have hzf:=hff0.size
 have HG4:=hdq (show GrR wf (New w.heap.size wf) lwG Ba da Be de from(((hG4.keep (hff0.same fun b hb=>⟨hb.2,fun e=>by have e:b=w.heap.size:=e;have:w3.heap.size≤b:=hb.1;omega⟩)).keep (hf5.same fun b hb=>⟨Nat.lt_of_lt_of_le hb.2 hzf,id⟩)).more fun b hb=>⟨by have:w3.heap.size≤b:=hb.1;omega,by have:b < w4.heap.size:=hb.2;omega⟩))
 have HK4:=hdq hk4
 have HW5:=hdq hw5
 have HWF:=hdq hwf
 have HFF:=hdq hff
 have HKF:=hdq hkf
 clear hG4 hf4 hk4 hwf hff hff0 hkf hz3 hz4 hz5 hzf hw5 hf5 hk5
 have kz0:=HK4.out.frozen 0
 have kz1:=HK4.out.frozen 1
 have kz2:=HK4.out.frozen 2
 have kz3:=HK4.out.frozen 3
 have kz4:=HK4.out.frozen 4
 have kz5:=HK4.out.frozen 5
 have kc0:=HK4.out.cell 0
 have kc1:=HK4.out.cell 1
 have kc2:=HK4.out.cell 2
 have kc3:=HK4.out.cell 3
 have kc4:=HK4.out.cell 4
 have kc5:=HK4.out.cell 5
 have kl:=HK4.out.lt
 simp only[getsL]at kc0 kc1 kc2 kc3 kc4 kc5
 go_wp2_with fail
 rw[←HW5.out,←HWF.out]
 refine bodyPost_ret (results_cell_row (p:=0) (ty:=33) rfl _ _ w.heap.size 33 _ (0,0) _ rfl HKF.out Tryz.underlying33 rfl sizeGr) rfl ?_
 exact⟨Ba,Be,da,de,rfl,HG4.out,HFF.out⟩

theorem lw_may:mayG lwG=true:=by kernel_rfl
theorem lw_order:(osN (outI (opairE lwG.edges)) 0 20).way = []∧(osN (outI (opairE lwG.edges)) 0 20).done.reverse = [0,2,3,1,4]∧(osN (outI (opairE lwG.edges)) 0 20).heads = [2]:=⟨by kernel_rfl,by kernel_rfl,by kernel_rfl⟩
theorem heads_one {l:List Int} (h:HeadsL [2] l):l= [2]:=by
 obtain⟨h1,h2,h3⟩:=h
 have hall:∀x∈l,x=2:=fun x hx=>by simpa using (h2 x (h3 x hx)).1 hx
 have h2m:(2:Int)∈l:=(h2 2 (by unfold in64;omega)).2 (by simp)
 match l,h1,hall,h2m with
 | [],_,_,h=>simp at h
 | [x],_,ha,_=>rw[ha x (by simp)]
 |x::y::r,hn,ha,_=>
  have e1:=ha x (by simp)
  have e2:=ha y (by simp)
  rw[e1,e2]at hn
  simp at hn
theorem oalive_any (w:World) (he:NameEnv w):Calls Tryz.prog 13 #[] w (TruePost w):=by
 have HC:=hdq (oloop_any w he)
 have HE:=hdq he
 clear he
 go_enter Tryz.func13,Tryz.ntmps13
 go_wp2_with fail
 refine HC.out.mono ?_
 rintro _ w1 ⟨Aa,Ae,ca,ce,rfl,hG,hf⟩
 have HF:=hdq hf
 have HO:=hdq (show Calls Tryz.prog 12 #[.agg #[.int .i64 1,.slice Aa 0 ca,.int .i64 5,.int .i64 0,.int .i64 1,.slice Ae 5 ce]] w1 (OrderP lwG w1)from order_any lwG Aa Ae ca ce w1 (hG.grSl fun b hb=>hb.2))
 clear hG hf
 go_wp2_with fail
 go_at_call 12
 refine HO.out.mono ?_
 rintro _ w2 ho
 rcases ho with⟨hm,_⟩|⟨_,k,gg,c,hway,rfl,hrow,hb2⟩
 ·rw[lw_may]at hm;cases hm
 rw[show lwG.start=0 from rfl]at hway hrow ⊢
 have hk:=osN_uniq hway lw_order.1
 rw[hk]at hrow ⊢
 have hl5:(osN (outI (opairE lwG.edges)) 0 20).done.length =5:=by
  have:=congrArg List.length lw_order.2.1
  simpa using this
 rw[hl5,lw_order.2.1]at hrow
 rw[hl5]
 have HROW:=hdq hrow
 have HF2:=hdq (HF.out.trans (Fr.below hb2:Fr NoT w1 w2))
 have HC2:=hdq (oloop_any w2 (HE.out.keep HF2.out.plain))
 clear hway hrow hb2 hk hl5
 go_wp2_with fail
 go_at_call 43
 refine HC2.out.mono ?_
 rintro _ w3 ⟨Ba,Be,da,de,rfl,hG,hf⟩
 have HF23:=hdq hf
 have HH:=hdq (show Calls Tryz.prog 15 #[.agg #[.int .i64 1,.slice Ba 0 da,.int .i64 5,.int .i64 0,.int .i64 1,.slice Be 5 de]] w3 (HeadsP lwG w3)from heads_any lwG Ba Be da de w3 (hG.grSl fun b hb=>hb.2))
 clear hG hf
 go_wp2_with fail
 go_at_call 15
 refine HH.out.mono ?_
 rintro _ w4 ho
 rcases ho with⟨hm,_⟩|⟨_,k,v,l,hway,rfl,hh,hrow,hl,hb4⟩
 ·rw[lw_may]at hm;cases hm
 rw[show lwG.start=0 from rfl]at hway hh
 have hk:=osN_uniq hway lw_order.1
 rw[hk,lw_order.2.2]at hh
 obtain rfl:=heads_one hh
 have hf24:Fr NoT w2 w4:=HF23.out.trans (Fr.below hb4)
 have hgl:gg < w2.heap.size:=(HROW.out.lt gg rfl).2
 have cell:∀(j:Nat) (x:Int),j < 5→([0,2,3,1,4]:List Int)[j]?=some x→w4.cell? ⟨gg,j,none⟩=some (.int .i64 x):=fun j x hj hx=>by
  rw[hf24.cell (p:=⟨gg,j,none⟩) hgl id,HROW.out.cellAt j (by omega),intC,List.getElem?_map,hx]
  rfl
 have c0:=cell 0 0 (by omega) rfl
 have c1:=cell 1 2 (by omega) rfl
 have c2:=cell 2 3 (by omega) rfl
 have c3:=cell 3 1 (by omega) rfl
 have c4:=cell 4 4 (by omega) rfl
 obtain⟨gh,ch,hv⟩:∃g cap,v= .slice (some ⟨g,0,none⟩) 1 cap:=by
  obtain⟨_,h1|⟨g,cap,cur,hv,_⟩⟩:=hrow
  ·simp at h1
  ·exact⟨g,cap,hv⟩
 subst hv
 have d0:=hrow.cellAt 0 (by decide)
 simp only[intC,List.map_cons,List.map_nil,List.getElem?_cons_zero]at d0
 have hb0:=HF2.out.plain.trans ((hf24.plain).mono HF2.out.size)
 have HB:=hdq hb0
 have hgl4:gg < w4.heap.size:=Nat.lt_of_lt_of_le hgl hf24.size
 have hgh4:gh < w4.heap.size:=(hrow.lt gh rfl).2
 clear hway hh hb4 hk hf24 hrow hl cell hb0 hgl
 go_wp2_with fail
 go_ret
 exact⟨rfl,HB.out⟩
theorem onames_any (w:World) (he:NameEnv w):Calls Tryz.prog 4 #[] w (TruePost w):=by
 have hz:GrSl w w.heap.size ⟨0, [],0,0,0, []⟩ none 0 none 0:=⟨⟨by simp,by omega,fun h=>by simp at h⟩,⟨by simp,by omega,fun h=>by simp at h⟩⟩
 have HO:=hdq (show Calls Tryz.prog 12 #[.agg #[.int .i64 0,.slice none 0 0,.int .i64 0,.int .i64 0,.int .i64 0,.slice none 0 0]] w (OrderP ⟨0, [],0,0,0, []⟩ w)from order_any ⟨0, [],0,0,0, []⟩ none none 0 0 w hz)
 have HE:=hdq he
 clear he hz
 go_enter Tryz.func4,Tryz.ntmps4
 go_wp2_with fail
 go_at_call 12
 refine HO.out.mono ?_
 rintro _ w2 ho
 rcases ho with⟨_,rfl,hb⟩|⟨hm,_⟩
 rotate_left
 ·rw[show mayG ⟨0, [],0,0,0, []⟩=false from by kernel_rfl]at hm;cases hm
 have HB:=hdq hb
 have HA:=hdq (oalive_any w2 (HE.out.keep hb))
 clear hb
 go_wp2_with fail
 go_at_call 13
 refine HA.out.mono ?_
 rintro _ w3 ⟨rfl,hb3⟩
 have HB3:=hdq hb3
 clear hb3
 go_wp2_with fail
 go_ret
 exact⟨rfl,HB.out.trans (HB3.out.mono HB.out.size)⟩
end Go.Proofs.YtmfioehnhjjgpaaGreatDoor
