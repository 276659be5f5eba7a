/-
  law13: the chapter's graph, alive; FlowNames.
-/
import Derived.Test.YtobegfbdedgmpaaGreatDoorJgFgLw
set_option linter.unusedVariables false
set_option linter.unusedSimpArgs false
set_option maxHeartbeats 3200000
set_option maxRecDepth 100000
namespace Go.Proofs.YtobegfbdedgmpaaGreatDoor
open Go.RowKit Go.Shelf Go.Maps

def LoopP (W:World) (e:Ending) (w':World):Prop:=∃Aa Ae ca ce,e= .returned (.tuple #[.agg #[.int .i64 1,.slice Aa 0 ca,.int .i64 5,.int .i64 0,.int .i64 1,.slice Ae 5 ce],.bool true])∧GrR w' (New W.heap.size w') lwG Aa ca Ae ce∧Fr NoT W w'
theorem floop_any (w:World) (he:NameEnv w):Calls Tryz.prog 65 #[] w (LoopP w):=by
 obtain⟨w1,hw1⟩:=nmq (w.alloc (.cells #[.int .i64 0,.slice none 0 0,.int .i64 0,.int .i64 0,.int .i64 0,.slice none 0 0] 40))
 have hf1:Fr NoT w w1:=by rw[hw1];exact(Fr.refl _ _).alloc _
 have hk1:Bk w1 w.heap.size 40 #[.int .i64 0,.slice none 0 0,.int .i64 0,.int .i64 0,.int .i64 0,.slice none 0 0]:=by rw[hw1];exact Bk.new _ _ _
 have h1:=lw_par w1 (he.keep hf1.plain)
 unfold lw0 at h1
 have HW1:=hdq hw1
 have HF1:=hdq hf1
 have HK1:=hdq hk1
 clear hw1 hf1 hk1
 have H1:=hdq (show Calls Tryz.prog 19 _ w1 (fun e w'=>∃Av Aa Ap Am cv ca cp cm,e= .returned (.tuple #[.agg #[.slice Av 1 cv,.slice Aa 0 ca,.slice Ap 0 cp,.slice Am 1 cm],.int .i64 0,.int .i64 0])∧TrR w' (New w1.heap.size w') False lw1 Av Aa Ap Am cv ca cp cm∧Below w1.heap.size w1 w')from h1)
 have HE:=hdq he
 clear h1 he
 go_enter Tryz.func65,Tryz.ntmps65
 go_wp2_with fail
 rw[←HW1.out]
 refine H1.out.mono ?_
 rintro _ w2 ⟨Av,Aa,Ap,Am,cv,ca,cp,cm,rfl,hT,hb⟩
 have hf2:Fr NoT w1 w2:=Fr.below hb
 obtain⟨w3,hw3⟩:=nmq (w2.alloc (.cells #[.slice Av 1 cv,.slice Aa 0 ca,.slice Ap 0 cp,.slice Am 1 cm] 27))
 have hf3:Fr NoT w2 w3:=by rw[hw3];exact(Fr.refl _ _).alloc _
 have hf03:Fr NoT w w3:=(HF1.out.trans hf2).trans hf3
 have h3:=lw_graph w3 (New w1.heap.size w2) False Av Aa Ap Am cv ca cp cm (HE.out.keep hf03.plain).toSp (HE.out.keep hf03.plain).lex.tab (fun b hb=>Nat.lt_of_lt_of_le hb.2 hf3.size) (hT.keep (hf3.same fun b hb=>⟨hb.2,id⟩))
 have H3:=hdq (show Calls Tryz.prog 20 #[.agg #[.slice Av 1 cv,.slice Aa 0 ca,.slice Ap 0 cp,.slice Am 1 cm]] w3 (fun e w'=>∃Aa Ae ca ce,e= .returned (.tuple #[.agg #[.int .i64 1,.slice Aa 0 ca,.int .i64 5,.int .i64 0,.int .i64 1,.slice Ae 5 ce],.int .i64 0])∧GrR w' (New w3.heap.size w') lwG Aa ca Ae ce∧Fr NoT w3 w')from h3)
 have HW3:=hdq hw3
 have HF03:=hdq hf03
 have HK3:=hdq ((HK1.out.fr0 hf2).fr0 hf3)
 clear hT hb hf2 hw3 hf3 hf03 h3
 go_wp2_with fail
 rw[←HW3.out]
 go_at_call 20
 refine H3.out.mono ?_
 rintro _ w4 ⟨Ba,Be,da,de,rfl,hG4,hf4⟩
 have hk4:=HK3.out.fr0 hf4
 have yl:=hk4.lt
 obtain⟨w5,hw5⟩:=nmq ((((((w4.setCell ⟨w.heap.size,0,none⟩ (.int .i64 1)).setCell ⟨w.heap.size,1,none⟩ (.slice Ba 0 da)).setCell ⟨w.heap.size,2,none⟩ (.int .i64 5)).setCell ⟨w.heap.size,3,none⟩ (.int .i64 0)).setCell ⟨w.heap.size,4,none⟩ (.int .i64 1)).setCell ⟨w.heap.size,5,none⟩ (.slice Be 5 de))
 have hff0:Fr (fun i=>i=w.heap.size) w4 w5:=by rw[hw5];exact Fr.own (Fr.own (Fr.own (Fr.own (Fr.own (Fr.own (Fr.refl _ _) _ _) _ _) _ _) _ _) _ _) _ _
 have hk5:Bk w5 w.heap.size 40 #[.int .i64 1,.slice Ba 0 da,.int .i64 5,.int .i64 0,.int .i64 1,.slice Be 5 de]:=by
  have:=(((((hk4.set_ 0 (.int .i64 1)).set_ 1 (.slice Ba 0 da)).set_ 2 (.int .i64 5)).set_ 3 (.int .i64 0)).set_ 4 (.int .i64 1)).set_ 5 (.slice Be 5 de)
  rw[hw5];simpa using this
 obtain⟨wf,hwf⟩:=nmq (w5.alloc (.cells #[.int .i64 1,.slice Ba 0 da,.int .i64 5,.int .i64 0,.int .i64 1,.slice Be 5 de] 40))
 have hf5:Fr NoT w5 wf:=by rw[hwf];exact(Fr.refl _ _).alloc _
 have hkf:=hk5.fr0 hf5
 have hff:Fr NoT w wf:=(Fr.thenT (HF03.out.trans hf4) hff0 fun i hi e=>by have e:i=w.heap.size:=e;omega).trans hf5
 have hz3:w.heap.size < w3.heap.size:=HK3.out.lt
 have hz4:=hf4.size
 have hz5:=hf5.size
 have hzf:=hff0.size
 have HG4:=hdq (show GrR wf (New w.heap.size wf) lwG Ba da Be de from(((hG4.keep (hff0.same fun b hb=>⟨hb.2,fun e=>by have e:b=w.heap.size:=e;have:w3.heap.size≤b:=hb.1;omega⟩)).keep (hf5.same fun b hb=>⟨Nat.lt_of_lt_of_le hb.2 hzf,id⟩)).more fun b hb=>⟨by have:w3.heap.size≤b:=hb.1;omega,by have:b < w4.heap.size:=hb.2;omega⟩))
 have HK4:=hdq hk4
 have HW5:=hdq hw5
 have HWF:=hdq hwf
 have HFF:=hdq hff
 have HKF:=hdq hkf
 clear hG4 hf4 hk4 hwf hff hff0 hkf hz3 hz4 hz5 hzf hw5 hf5 hk5
 have kz0:=HK4.out.frozen 0
 have kz1:=HK4.out.frozen 1
 have kz2:=HK4.out.frozen 2
 have kz3:=HK4.out.frozen 3
 have kz4:=HK4.out.frozen 4
 have kz5:=HK4.out.frozen 5
 have kc0:=HK4.out.cell 0
 have kc1:=HK4.out.cell 1
 have kc2:=HK4.out.cell 2
 have kc3:=HK4.out.cell 3
 have kc4:=HK4.out.cell 4
 have kc5:=HK4.out.cell 5
 have kl:=HK4.out.lt
 simp only[getsL]at kc0 kc1 kc2 kc3 kc4 kc5
 go_wp2_with fail
 rw[←HW5.out,←HWF.out]
 refine bodyPost_ret (res_cell_tmp (p:=0) (q:=1) (ty:=40) rfl _ _ w.heap.size 40 _ (0,0) _ rfl HKF.out Tryz.underlying40 rfl sizeGr) rfl ?_
 exact⟨Ba,Be,da,de,rfl,HG4.out,HFF.out⟩

theorem EgR.cells {w:World} {S:Nat→Prop}:∀ {l:List Ed} {b o i:Nat} {e:Ed},EgR w S l b o→l[i]?=some e→
  w.cell? ⟨b,o+i*7,none⟩=some (.int .i64 e.from_)∧w.cell? ⟨b,o+i*7+1,none⟩=some (.int .i64 e.to_)∧w.cell? ⟨b,o+i*7+2,none⟩=some (.int .u8 e.kind)∧w.cell? ⟨b,o+i*7+3,none⟩=some (.int .i64 e.n)∧w.cell? ⟨b,o+i*7+4,none⟩=some (.int .u8 e.cmp)∧w.cell? ⟨b,o+i*7+6,none⟩=some (.int .i64 e.at_)
 | [],_,_,_,_,_,h=>by simp at h
 |x::r,b,o,0,e,h,he=>by
  simp only[List.getElem?_cons_zero,Option.some.injEq]at he
  subst he
  obtain⟨⟨_,_,h1,h2,h3,h4,h5,h6⟩,_⟩:=h
  simp only[Nat.zero_mul,Nat.add_zero]
  exact⟨h1,h2,h3,h4,h5,h6⟩
 |x::r,b,o,i+1,e,h,he=>by
  simp only[List.getElem?_cons_succ]at he
  have:=EgR.cells h.2.2 he
  rw[show o+(i+1)*7=o+7+i*7 from by omega]
  exact this
theorem lw_at (k:Nat) (h:k < 5):∃e,lwG.edges[k]?=some e∧(#[Value.int .u8 1,.int .u8 2,.int .u8 6,.int .u8 6,.int .u8 3]:Array Value)[k]?=some (.int .u8 e.kind)∧(#[Value.int .i64 0,.int .i64 2,.int .i64 3,.int .i64 3,.int .i64 4]:Array Value)[k]?=some (.int .i64 e.from_)∧(#[Value.int .i64 2,.int .i64 3,.int .i64 4,.int .i64 1,.int .i64 2]:Array Value)[k]?=some (.int .i64 e.to_):=by
 rcases(show k=0∨k=1∨k=2∨k=3∨k=4 from by omega)with rfl|rfl|rfl|rfl|rfl<;>exact⟨_,rfl,rfl,rfl,rfl⟩
theorem falive_any (w:World) (he:NameEnv w):Calls Tryz.prog 21 #[] w (TruePost w):=by
 have HC:=hdq (floop_any w he)
 clear he
 go_enter Tryz.func21,Tryz.ntmps21
 go_wp2_with fail
 refine HC.out.mono ?_
 rintro _ w1 ⟨Aa,Ae,ca,ce,rfl,hG,hf⟩
 obtain⟨b,o,rfl,hE⟩:=hG.edges.2.2 (by decide)
 have hbl:b < w1.heap.size:=by
  have:=hE.1.1
  exact this.2
 obtain⟨w2,hw2⟩:=nmq (w1.alloc (.cells #[.int .i64 1,.slice Aa 0 ca,.int .i64 5,.int .i64 0,.int .i64 1,.slice (some ⟨b,o,none⟩) 5 ce] 40))
 have hf2:Fr NoT w1 w2:=by rw[hw2];exact(Fr.refl _ _).alloc _
 have hk2:Bk w2 w1.heap.size 40 #[.int .i64 1,.slice Aa 0 ca,.int .i64 5,.int .i64 0,.int .i64 1,.slice (some ⟨b,o,none⟩) 5 ce]:=by rw[hw2];exact Bk.new _ _ _
 have HE:=hdq hE
 have HF2:=hdq (hf.trans hf2)
 have HF12:=hdq hf2
 have HK2:=hdq hk2
 have HW2:=hdq hw2
 have HBL:=hdq hbl
 have HZ2:=hdq (show w2.heap.size=w1.heap.size+1 from by rw[hw2];simp)
 clear hG hf hE hf2 hk2 hw2 hbl
 have c0:=HK2.out.cell 0
 have c2:=HK2.out.cell 2
 have c5:=HK2.out.cell 5
 have cl:=HK2.out.lt
 simp only[getsL]at c0 c2 c5
 go_wp2_with fail
 rw[←HW2.out]
 obtain⟨w5,hw5⟩:=nmq (((w2.alloc (.cells #[.int .u8 1,.int .u8 2,.int .u8 6,.int .u8 6,.int .u8 3] 137)).alloc (.cells #[.int .i64 0,.int .i64 2,.int .i64 3,.int .i64 3,.int .i64 4] 138)).alloc (.cells #[.int .i64 2,.int .i64 3,.int .i64 4,.int .i64 1,.int .i64 2] 138))
 have hf5:Fr NoT w2 w5:=by rw[hw5];exact(((Fr.refl _ _).alloc _).alloc _).alloc _
 have hb1:Bk w5 w2.heap.size 137 #[.int .u8 1,.int .u8 2,.int .u8 6,.int .u8 6,.int .u8 3]:=by rw[hw5];exact((Bk.new _ _ _).alloc _).alloc _
 have hb2:Bk w5 (w2.heap.size+1) 138 #[.int .i64 0,.int .i64 2,.int .i64 3,.int .i64 3,.int .i64 4]:=by rw[hw5];exact(Bk.new_at _ _ _ (by simp)).alloc _
 have hb3:Bk w5 (w2.heap.size+1+1) 138 #[.int .i64 2,.int .i64 3,.int .i64 4,.int .i64 1,.int .i64 2]:=by rw[hw5];exact Bk.new_at _ _ _ (by simp)
 have HW5:=hdq hw5
 have HF5:=hdq hf5
 have HB:=hdq (And.intro hb1 (And.intro hb2 hb3))
 clear hw5 hf5 hb1 hb2 hb3
 go_wp2_with fail
 rw[←HW5.out]
 clear c0 c2 c5 cl
 go_loopw [6] (fun i wr=>∃k:Nat,k≤5∧i= .int .i64 k∧Hid (Fr NoT w5 wr)) (fun i _=>5 - (intOf i).toNat)
 case atStart=>exact⟨0,Nat.zero_le _,rfl,hdq (Fr.refl _ _)⟩
 case round=>
  obtain⟨k,hk,rfl,hr⟩:=hrel
  have hk2:=HK2.out.fr0 (HF5.out.trans hr.out)
  have c5:=hk2.cell 5
  have cl:=hk2.lt
  simp only[getsL]at c5
  have hfr:=(HF12.out.trans HF5.out).trans hr.out
  have hbl:b < wr.heap.size:=Nat.lt_of_lt_of_le HBL.out hfr.size
  by_cases hlt:k < 5
  ·
   obtain⟨e,he,g1,g2,g3⟩:=lw_at k hlt
   obtain⟨e0,e1,e2,_⟩:=HE.out.cells he
   have q0:=(hfr.cell (p:=⟨b,o+k*7,none⟩) HBL.out id).trans e0
   have q1:=(hfr.cell (p:=⟨b,o+k*7+1,none⟩) HBL.out id).trans e1
   have q2:=(hfr.cell (p:=⟨b,o+k*7+2,none⟩) HBL.out id).trans e2
   have x1:=((HB.out.1.fr0 hr.out).cell k).trans g1
   have x2:=((HB.out.2.1.fr0 hr.out).cell k).trans g2
   have x3:=((HB.out.2.2.fr0 hr.out).cell k).trans g3
   have l1:=(HB.out.1.fr0 hr.out).lt
   have l2:=(HB.out.2.1.fr0 hr.out).lt
   have l3:=(HB.out.2.2.fr0 hr.out).lt
   have hlt':(k:Int) < 5:=by omega
   have hge:(0:Int)≤(k:Int):=by omega
   rw[HZ2.out]at x1 x2 x3 l1 l2 l3
   clear he g1 g2 g3 e0 e1 e2 hfr hk2
   go_wp2_with fail
   go_quiet (fail)
   go_wp2_with fail
   go_roundw
   case rel=>exact⟨k+1,by omega,by go_num,hdq (hr.out.drewN _)⟩
   case measure=>simp[intOf];omega
  ·
   have hlt':¬(k:Int) < 5:=by omega
   have hk5:k=5:=by omega
   subst hk5
   obtain⟨_,_,_,_,e2,_⟩:=HE.out.cells (i:=2) rfl
   obtain⟨_,_,_,_,e3,_⟩:=HE.out.cells (i:=3) rfl
   have q2:=(hfr.cell (p:=⟨b,o+2*7+4,none⟩) HBL.out id).trans e2
   have q3:=(hfr.cell (p:=⟨b,o+3*7+4,none⟩) HBL.out id).trans e3
   simp only[Nat.reduceMul,Nat.add_assoc,Nat.reduceAdd]at q2 q3
   have HFR:=hdq (HF2.out.trans (HF5.out.trans hr.out))
   clear e2 e3 hfr hk2
   go_wp2_with fail
   go_ret
   exact⟨rfl,HFR.out.plain⟩
end Go.Proofs.YtobegfbdedgmpaaGreatDoor
