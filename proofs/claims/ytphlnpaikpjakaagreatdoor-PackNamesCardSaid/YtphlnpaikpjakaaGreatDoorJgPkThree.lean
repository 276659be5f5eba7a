/-
  law26: three, alive; PackNames.
-/
import Derived.Test.YtphlnpaikpjakaaGreatDoorJgJgSlGraph
import Derived.Test.YtphlnpaikpjakaaGreatDoorPkWalk
import Derived.Test.YtphlnpaikpjakaaGreatDoorPkFind
set_option linter.unusedVariables false
set_option linter.unusedSimpArgs false
set_option maxHeartbeats 1600000
set_option maxRecDepth 100000
namespace Go.Proofs.YtphlnpaikpjakaaGreatDoor
open Go.RowKit Go.Shelf Go.Maps

theorem LsM.keep {w w':World} {B B':Nat} {ls:List (List Int)} {v:Value} (h:LsM w B ls v) (hB:B≤B') (hs:Same B w w'):LsM w' B' ls v:=by
 obtain⟨A,c,e,h1,h2,h3⟩:=h
 refine⟨A,c,e,h1,h2,fun hp=>?_⟩
 obtain⟨b,o,e2,hb,hs2⟩:=h3 hp
 refine⟨b,o,e2,Nat.lt_of_lt_of_le hb hB,fun i l hi=>?_⟩
 obtain⟨A',c',h4,h5⟩:=hs2 i l hi
 have h6:=h5.keep hs
 exact⟨A',c',(hs _ hb).trans h4,h6.1,h6.2.1,fun hp'=>by
  obtain⟨b',o',e3,hb',ha⟩:=h6.2.2 hp'
  exact⟨b',o',e3,Nat.lt_of_lt_of_le hb' hB,ha⟩⟩
theorem PacksP.of {g:Gr} {most:Int} {w w1:World} {e:Ending} {w':World} (hb:Below w.heap.size w w1) (h:PacksP g most w1 e w'):PacksP g most w e w':=by
 rcases h with⟨h1,h2,h3⟩|⟨h1,h2,h3,h4⟩|⟨h1,h2,h3,v,u,h4,h5,h6,h7⟩
 ·exact .inl ⟨h1,h2,hb.trans (h3.mono hb.size)⟩
 ·exact .inr (.inl ⟨h1,h2,h3,hb.trans (h4.mono hb.size)⟩)
 ·exact .inr (.inr ⟨h1,h2,h3,v,u,h4,h5,h6,hb.trans (h7.mono hb.size)⟩)
theorem three_any (most:Int) (w:World) (he:NameEnv w) (h64:in64 most):Calls Tryz.prog 6 #[.int .i64 most] w (PacksP p3G most w):=by
 have h1:=p3_par w he
 unfold p30 at h1
 have H1:=hdq (show Calls Tryz.prog 13 _ w (fun e w'=>∃Av Aa Ap Am cv ca cp cm,e= .returned (.tuple #[.agg #[.slice Av 3 cv,.slice Aa 0 ca,.slice Ap 0 cp,.slice Am 2 cm],.int .i64 0,.int .i64 0])∧TrR w' (New w.heap.size w') False p31 Av Aa Ap Am cv ca cp cm∧Below w.heap.size w w')from h1)
 have HE:=hdq he
 have H64:=hdq h64
 clear h1 he h64
 go_enter Tryz.func6,Tryz.ntmps6
 go_wp2_with fail
 refine H1.out.mono ?_
 rintro _ w2 ⟨Av,Aa,Ap,Am,cv,ca,cp,cm,rfl,hT,hb⟩
 have hf2:Fr NoT w w2:=Fr.below hb
 obtain⟨w3,hw3⟩:=nmq (w2.alloc (.cells #[.slice Av 3 cv,.slice Aa 0 ca,.slice Ap 0 cp,.slice Am 2 cm] 49))
 have hf3:Fr NoT w2 w3:=by rw[hw3];exact(Fr.refl _ _).alloc _
 have hf03:Fr NoT w w3:=hf2.trans hf3
 have h3:=p3_graph w3 (New w.heap.size w2) False Av Aa Ap Am cv ca cp cm (HE.out.keep hf03.plain).toSp (HE.out.keep hf03.plain).lex.tab (fun b hb=>Nat.lt_of_lt_of_le hb.2 hf3.size) (hT.keep (hf3.same fun b hb=>⟨hb.2,id⟩))
 have H3:=hdq (show Calls Tryz.prog 14 #[.agg #[.slice Av 3 cv,.slice Aa 0 ca,.slice Ap 0 cp,.slice Am 2 cm]] w3 (fun e w'=>∃Aa Ae ca ce,e= .returned (.tuple #[.agg #[.int .i64 3,.slice Aa 0 ca,.int .i64 3,.int .i64 0,.int .i64 1,.slice Ae 2 ce],.int .i64 0])∧GrR w' (New w3.heap.size w') p3G Aa ca Ae ce∧Fr NoT w3 w')from h3)
 have HW3:=hdq hw3
 have HF03:=hdq hf03
 clear hT hb hf2 hw3 hf3 hf03 h3
 go_wp2_with fail
 rw[←HW3.out]
 go_at_call 14
 refine H3.out.mono ?_
 rintro _ w4 ⟨Ba,Be,da,de,rfl,hG4,hf4⟩
 obtain⟨w5,hw5⟩:=nmq (w4.alloc (.cells #[.int .i64 3,.slice Ba 0 da,.int .i64 3,.int .i64 0,.int .i64 1,.slice Be 2 de] 32))
 have hf5:Fr NoT w4 w5:=by rw[hw5];exact(Fr.refl _ _).alloc _
 have hG5:=hG4.keep (hf5.same fun b hb=>⟨hb.2,id⟩)
 have hP:=packs_any p3G Ba Be da de most w5 (hG5.grSl fun b hb=>Nat.lt_of_lt_of_le hb.2 hf5.size) H64.out (fun e he=>by
  simp only[p3G,List.mem_cons,List.not_mem_nil,or_false]at he
  rcases he with rfl|rfl<;>decide)
 have HP:=hdq (show Calls Tryz.prog 10 #[.agg #[.int .i64 3,.slice Ba 0 da,.int .i64 3,.int .i64 0,.int .i64 1,.slice Be 2 de],.int .i64 most] w5 (PacksP p3G most w5)from hP)
 have HW5:=hdq hw5
 have HF5:=hdq ((HF03.out.trans hf4).trans hf5)
 clear hG4 hf4 hw5 hf5 hG5 hP
 go_wp2_with fail
 rw[←HW5.out]
 go_at_call 10
 refine HP.out.mono ?_
 rintro e w6 hp
 have hp:=hp.of HF5.out.plain
 rcases hp with⟨h1,rfl,h3⟩|⟨h1,h2,rfl,h4⟩|⟨h1,h2,h3,v,u,h4,rfl,h6,h7⟩
 ·rw[p3_may]at h1;cases h1
 ·have HB:=hdq h4
  have HM:=hdq h2
  clear h2 h4
  go_wp2_with fail
  go_ret2
  exact .inr (.inl ⟨p3_may,HM.out,rfl,HB.out⟩)
 ·have HB:=hdq h7
  have HL:=hdq h6
  have HV:=hdq h4
  have HM:=hdq (And.intro h2 h3)
  clear h2 h3 h4 h6 h7
  go_wp2_with fail
  go_ret2
  exact .inr (.inr ⟨p3_may,HM.out.1,HM.out.2,v,u,HV.out,rfl,HL.out,HB.out⟩)

theorem p3_sc:p3G.edges.map scalE= [[1,0], [2]]:=by kernel_rfl
theorem sd_two:sdup [1,0]= [0,1]:=by
 have h:([1,0]:List Int).mergeSort leZ= [0,1]:=by simp[List.mergeSort,List.MergeSort.Internal.splitInTwo,List.merge,leZ]
 exact(congrArg Lib.compact h).trans (by kernel_rfl)
theorem sd_one:sdup [2]= [2]:=by
 have h:([2]:List Int).mergeSort leZ= [2]:=by simp[List.mergeSort]
 exact(congrArg Lib.compact h).trans (by kernel_rfl)
theorem p3_two:pkOut (pkRun 2 (pk0 3) (p3G.edges.map scalE)) 3= [[0,1], [2]]:=by
 have s1:pkStep 2 (pk0 3) [1,0]= [[0,1], [0,1], [2]]:=by
  unfold pkStep
  rw[show pkAll (pk0 3) [1,0]= [1,0]from by kernel_rfl,sd_two]
  kernel_rfl
 have s2:pkStep 2 [[0,1], [0,1], [2]] [2]= [[0,1], [0,1], [2]]:=by
  unfold pkStep
  rw[show pkAll [[0,1], [0,1], [2]] [2]= [2]from by kernel_rfl,sd_one]
  kernel_rfl
 rw[p3_sc]
 unfold pkRun
 rw[List.foldl_cons,List.foldl_cons,List.foldl_nil,s1,s2]
 exact(show pkOut [[0,1], [0,1], [2]] 3= [[0,1], [2]]from by kernel_rfl)
theorem p3_one:pkOut (pkRun 1 (pk0 3) (p3G.edges.map scalE)) 3= [[0], [1], [2]]:=by
 have s1:pkStep 1 (pk0 3) [1,0]= [[0], [1], [2]]:=by
  unfold pkStep
  rw[show pkAll (pk0 3) [1,0]= [1,0]from by kernel_rfl,sd_two]
  kernel_rfl
 have s2:pkStep 1 [[0], [1], [2]] [2]= [[0], [1], [2]]:=by
  unfold pkStep
  rw[show pkAll [[0], [1], [2]] [2]= [2]from by kernel_rfl,sd_one]
  kernel_rfl
 rw[p3_sc]
 unfold pkRun
 rw[List.foldl_cons,List.foldl_cons,List.foldl_nil,s1,s2]
 exact(show pkOut [[0], [1], [2]] 3= [[0], [1], [2]]from by kernel_rfl)
theorem find_nine:findE [[0], [1], [2]] 9= .returned (.tuple #[.int .i64 0,.int .i64 0,.int .i64 6]):=by kernel_rfl
theorem LsM.two {w:World} {B:Nat} {u:Value} (h:LsM w B [[0,1], [2]] u):∃b o c b0 o0 c0 b1 o1 c1,u= .slice (some ⟨b,o,none⟩) 2 c∧b < B∧b0 < B∧b1 < B∧
  w.cell? ⟨b,o+0,none⟩=some (.slice (some ⟨b0,o0,none⟩) 2 c0)∧w.cell? ⟨b,o+1,none⟩=some (.slice (some ⟨b1,o1,none⟩) 1 c1)∧
  w.cell? ⟨b0,o0+0,none⟩=some (.int .i64 0)∧w.cell? ⟨b0,o0+1,none⟩=some (.int .i64 1)∧w.cell? ⟨b1,o1+0,none⟩=some (.int .i64 2):=by
 obtain⟨A,c,e,h1,h2,h3⟩:=h
 obtain⟨b,o,rfl,hb,hr⟩:=h3 (by decide)
 obtain⟨A0,c0,r0,s0⟩:=hr 0 [0,1] rfl
 obtain⟨A1,c1,r1,s1⟩:=hr 1 [2] rfl
 obtain⟨b0,o0,rfl,hb0,ha0⟩:=s0.2.2 (by decide)
 obtain⟨b1,o1,rfl,hb1,ha1⟩:=s1.2.2 (by decide)
 exact⟨b,o,c,b0,o0,c0,b1,o1,c1,e,hb,hb0,hb1,r0,r1,(ha0 0 0 rfl).1,(ha0 1 1 rfl).1,(ha1 0 2 rfl).1⟩
theorem palive_any (w:World) (he:NameEnv w):Calls Tryz.prog 8 #[] w (TruePost w):=by
 have HC:=hdq (three_any 2 w he (by unfold in64;omega))
 clear he
 go_enter Tryz.func8,Tryz.ntmps8
 go_wp2_with fail
 refine HC.out.mono ?_
 rintro e w1 hp
 rcases hp with⟨h1,rfl,h3⟩|⟨h1,h2,rfl,h4⟩|⟨h1,h2,h3,v,u,h4,rfl,h6,h7⟩
 ·rw[p3_may]at h1;cases h1
 ·omega
 obtain rfl:v=3:=by have h4:(3:Int)=(v:Int):=h4;omega
 rw[p3_two]at h6
 obtain⟨b,o,c,b0,o0,c0,b1,o1,c1,rfl,hb,hb0,hb1,r0,r1,x0,x1,x2⟩:=h6.two
 simp only[Nat.add_zero]at r0 x0 x2
 have HB:=hdq h7
 clear h1 h2 h3 h4 h6 h7
 go_wp2_with fail
 go_ret
 exact⟨rfl,HB.out⟩
theorem pnames_any (w:World) (he:NameEnv w):Calls Tryz.prog 3 #[] w (TruePost w):=by
 have HC:=hdq (three_any 1 w he (by unfold in64;omega))
 have HE:=hdq he
 clear he
 go_enter Tryz.func3,Tryz.ntmps3
 go_wp2_with fail
 refine HC.out.mono ?_
 rintro e w1 hp
 rcases hp with⟨h1,rfl,h3⟩|⟨h1,h2,rfl,h4⟩|⟨h1,h2,h3,v,u,h4,rfl,h6,h7⟩
 ·rw[p3_may]at h1;cases h1
 ·omega
 obtain rfl:v=3:=by have h4:(3:Int)=(v:Int):=h4;omega
 rw[p3_one]at h6
 have HB:=hdq h7
 have HL:=hdq h6
 have HC2:=hdq (three_any 0 w1 (HE.out.keep h7) (by unfold in64;omega))
 clear h1 h2 h3 h4 h6 h7
 go_wp2_with fail
 go_at_call 6
 refine HC2.out.mono ?_
 rintro e w2 hp
 rcases hp with⟨h1,rfl,h3⟩|⟨h1,h2,rfl,h4⟩|⟨h1,h2,h3,v,u',h4,rfl,h6,h7⟩
 ·rw[p3_may]at h1;cases h1
 rotate_left
 ·omega
 have HB2:=hdq (HB.out.trans (h4.mono HB.out.size))
 have HL2:=hdq (HL.out.keep h4.size (Same.of h4 (Nat.le_refl _)))
 have HF:=hdq (find_any [[0], [1], [2]] u 9 w2 HL2.out)
 obtain⟨A,c,rfl,_⟩:=HL2.out
 clear h1 h2 h4
 go_wp2_with fail
 go_at_call 7
 refine HF.out.mono ?_
 rintro _ w3 ⟨rfl,h5⟩
 rw[find_nine]
 have HB3:=hdq (HB2.out.trans (h5.mono HB2.out.size))
 have HA:=hdq (palive_any w3 (HE.out.keep HB3.out))
 clear h5
 go_wp2_with fail
 go_at_call 8
 refine HA.out.mono ?_
 rintro _ w4 ⟨rfl,h6⟩
 have HB4:=hdq (HB3.out.trans (h6.mono HB3.out.size))
 clear h6
 go_wp2_with fail
 go_ret
 exact⟨rfl,HB4.out⟩
end Go.Proofs.YtphlnpaikpjakaaGreatDoor
