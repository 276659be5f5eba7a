/-
  law26: three, alive; PackNames.
-/
import Derived.Test.YtphlnpaikpjakaaGreatDoorJgJgSlGraph
import Derived.Test.YtphlnpaikpjakaaGreatDoorJgPkChk2
set_option linter.unusedVariables false
set_option linter.unusedSimpArgs false
set_option maxHeartbeats 6400000
set_option maxRecDepth 100000
namespace Go.Proofs.YtphlnpaikpjakaaGreatDoor
open Go.RowKit Go.Shelf Go.Maps

theorem LsM.keep {w w':World} {B B':Nat} {ls:List (List Int)} {v:Value} (h:LsM w B ls v) (hB:B≤B') (hs:Same B w w'):LsM w' B' ls v:=by
 obtain⟨A,c,e,h1,h2,h3⟩:=h
 refine⟨A,c,e,h1,h2,fun hp=>?_⟩
 obtain⟨b,o,e2,hb,hs2⟩:=h3 hp
 refine⟨b,o,e2,ltq hb hB,fun i l hi=>?_⟩
 obtain⟨A',c',h4,h5⟩:=hs2 i l hi
 have h6:=h5.keep hs
 exact⟨A',c',(hs _ hb).trans h4,h6.1,h6.2.1,fun hp'=>by
  obtain⟨b',o',e3,hb',ha⟩:=h6.2.2 hp'
  exact⟨b',o',e3,ltq hb' hB,ha⟩⟩
theorem PacksP.of {g:Gr} {most:Int} {w w1:World} {e:Ending} {w':World} (hb:Below w.heap.size w w1) (h:PacksP g most w1 e w'):PacksP g most w e w':=by
 rcases h with⟨h1,h2,h3⟩|⟨h1,h2,h3,h4⟩|⟨h1,h2,h3,v,u,h4,h5,h6,h7⟩
 ·exact .inl ⟨h1,h2,hb.trans (h3.mono hb.size)⟩
 ·exact .inr (.inl ⟨h1,h2,h3,hb.trans (h4.mono hb.size)⟩)
 ·exact .inr (.inr ⟨h1,h2,h3,v,u,h4,h5,h6,hb.trans (h7.mono hb.size)⟩)
theorem three_any (most:Int) (w:World) (he:NameEnv w) (h64:in64 most):Calls Tryz.prog 6 #[.int .i64 most] w (PacksP p3G most w):=by
 have h1:=p3_par w he
 unfold p30 at h1
 have H1:=hdq (show Calls Tryz.prog 13 _ w (fun e w'=>∃Av Aa Ap Am cv ca cp cm,e= .returned (.tuple #[.agg #[.slice Av 3 cv,.slice Aa 0 ca,.slice Ap 0 cp,.slice Am 2 cm],.int .i64 0,.int .i64 0])∧TrR w' (New w.heap.size w') False p31 Av Aa Ap Am cv ca cp cm∧Below w.heap.size w w')from h1)
 have HE:=hdq he
 have H64:=hdq h64
 clear h1 he h64
 go_enter Tryz.func6,Tryz.ntmps6
 go_wp2_with fail
 refine H1.out.mono ?_
 rintro _ w2 ⟨Av,Aa,Ap,Am,cv,ca,cp,cm,rfl,hT,hb⟩
 have hf2:Fr NoT w w2:=Fr.below hb
 obtain⟨w3,hw3⟩:=nmq (w2.alloc (.cells #[.slice Av 3 cv,.slice Aa 0 ca,.slice Ap 0 cp,.slice Am 2 cm] 49))
 have hf3:Fr NoT w2 w3:=by rw[hw3];exact(Fr.refl _ _).alloc _
 have hf03:Fr NoT w w3:=hf2.trans hf3
 have h3:=p3_graph w3 (New w.heap.size w2) False Av Aa Ap Am cv ca cp cm (HE.out.keep hf03.plain).toSp (HE.out.keep hf03.plain).lex.tab (fun b hb=>ltq hb.2 hf3.size) (hT.keep (hf3.same fun b hb=>⟨hb.2,id⟩))
 have H3:=hdq (show Calls Tryz.prog 14 #[.agg #[.slice Av 3 cv,.slice Aa 0 ca,.slice Ap 0 cp,.slice Am 2 cm]] w3 (fun e w'=>∃Aa Ae ca ce,e= .returned (.tuple #[.agg #[.int .i64 3,.slice Aa 0 ca,.int .i64 3,.int .i64 0,.int .i64 1,.slice Ae 2 ce],.int .i64 0])∧GrR w' (New w3.heap.size w') p3G Aa ca Ae ce∧Fr NoT w3 w')from h3)
 have HW3:=hdq hw3
 have HF03:=hdq hf03
 clear hT hb hf2 hw3 hf3 hf03 h3
 go_wp2_with fail
 rw[←HW3.out]
 go_at_call 14
 refine H3.out.mono ?_
 rintro _ w4 ⟨Ba,Be,da,de,rfl,hG4,hf4⟩
 obtain⟨w5,hw5⟩:=nmq (w4.alloc (.cells #[.int .i64 3,.slice Ba 0 da,.int .i64 3,.int .i64 0,.int .i64 1,.slice Be 2 de] 32))
 have hf5:Fr NoT w4 w5:=by rw[hw5];exact(Fr.refl _ _).alloc _
 have hG5:=hG4.keep (hf5.same fun b hb=>⟨hb.2,id⟩)
 have hP:=packs_any p3G Ba Be da de most w5 (hG5.grSl fun b hb=>ltq hb.2 hf5.size) H64.out (fun e he=>by
  simp only[p3G,List.mem_cons,List.not_mem_nil,or_false]at he
  rcases he with rfl|rfl<;>decide)
 have HP:=hdq (show Calls Tryz.prog 10 #[.agg #[.int .i64 3,.slice Ba 0 da,.int .i64 3,.int .i64 0,.int .i64 1,.slice Be 2 de],.int .i64 most] w5 (PacksP p3G most w5)from hP)
 have HW5:=hdq hw5
 have HF5:=hdq ((HF03.out.trans hf4).trans hf5)
 clear hG4 hf4 hw5 hf5 hG5 hP
 go_wp2_with fail
 rw[←HW5.out]
 go_at_call 10
 refine HP.out.mono ?_
 rintro e w6 hp
 have hp:=hp.of HF5.out.plain
 rcases hp with⟨h1,rfl,h3⟩|⟨h1,h2,rfl,h4⟩|⟨h1,h2,h3,v,u,h4,rfl,h6,h7⟩
 ·rw[p3_may]at h1;cases h1
 ·have HB:=hdq h4
  have HM:=hdq h2
  clear h2 h4
  go_wp2_with fail
  go_ret2
  exact .inr (.inl ⟨p3_may,HM.out,rfl,HB.out⟩)
 ·have HB:=hdq h7
  have HL:=hdq h6
  have HV:=hdq h4
  have HM:=hdq (aiq h2 h3)
  clear h2 h3 h4 h6 h7
  go_wp2_with fail
  go_ret2
  exact .inr (.inr ⟨p3_may,HM.out.1,HM.out.2,v,u,HV.out,rfl,HL.out,HB.out⟩)

theorem p3_sc:p3G.edges.map scalE= [[1,0], [2]]:=by kernel_rfl
theorem sd_two:sdup [1,0]= [0,1]:=by
 have h:([1,0]:List Int).mergeSort leZ= [0,1]:=by simp[List.mergeSort,List.MergeSort.Internal.splitInTwo,List.merge,leZ]
 exact(congrArg Lib.compact h).trans (by kernel_rfl)
theorem sd_one:sdup [2]= [2]:=by
 have h:([2]:List Int).mergeSort leZ= [2]:=by simp[List.mergeSort]
 exact(congrArg Lib.compact h).trans (by kernel_rfl)
theorem p3_two:pkOut (pkRun 2 (pk0 3) (p3G.edges.map scalE)) 3= [[0,1], [2]]:=by
 have s1:pkStep 2 (pk0 3) [1,0]= [[0,1], [0,1], [2]]:=by
  unfold pkStep
  rw[show pkAll (pk0 3) [1,0]= [1,0]from by kernel_rfl,sd_two]
  kernel_rfl
 have s2:pkStep 2 [[0,1], [0,1], [2]] [2]= [[0,1], [0,1], [2]]:=by
  unfold pkStep
  rw[show pkAll [[0,1], [0,1], [2]] [2]= [2]from by kernel_rfl,sd_one]
  kernel_rfl
 rw[p3_sc]
 unfold pkRun
 rw[List.foldl_cons,List.foldl_cons,List.foldl_nil,s1,s2]
 exact(show pkOut [[0,1], [0,1], [2]] 3= [[0,1], [2]]from by kernel_rfl)
theorem LsM.two {w:World} {B:Nat} {u:Value} (h:LsM w B [[0,1], [2]] u):∃b o c b0 o0 c0 b1 o1 c1,u= .slice (some ⟨b,o,none⟩) 2 c∧b < B∧b0 < B∧b1 < B∧
  w.cell? ⟨b,o+0,none⟩=some (.slice (some ⟨b0,o0,none⟩) 2 c0)∧w.cell? ⟨b,o+1,none⟩=some (.slice (some ⟨b1,o1,none⟩) 1 c1)∧
  w.cell? ⟨b0,o0+0,none⟩=some (.int .i64 0)∧w.cell? ⟨b0,o0+1,none⟩=some (.int .i64 1)∧w.cell? ⟨b1,o1+0,none⟩=some (.int .i64 2):=by
 obtain⟨A,c,e,h1,h2,h3⟩:=h
 obtain⟨b,o,rfl,hb,hr⟩:=h3 (by decide)
 obtain⟨A0,c0,r0,s0⟩:=hr 0 [0,1] rfl
 obtain⟨A1,c1,r1,s1⟩:=hr 1 [2] rfl
 obtain⟨b0,o0,rfl,hb0,ha0⟩:=s0.2.2 (by decide)
 obtain⟨b1,o1,rfl,hb1,ha1⟩:=s1.2.2 (by decide)
 exact⟨b,o,c,b0,o0,c0,b1,o1,c1,e,hb,hb0,hb1,r0,r1,(ha0 0 0 rfl).1,(ha0 1 1 rfl).1,(ha1 0 2 rfl).1⟩
theorem palive_any (w:World) (he:NameEnv w):Calls Tryz.prog 8 #[] w (TruePost w):=by
 have HC:=hdq (three_any 2 w he (by unfold in64;omega))
 clear he
 go_enter Tryz.func8,Tryz.ntmps8
 go_wp2_with fail
 refine HC.out.mono ?_
 rintro e w1 hp
 rcases hp with⟨h1,rfl,h3⟩|⟨h1,h2,rfl,h4⟩|⟨h1,h2,h3,v,u,h4,rfl,h6,h7⟩
 ·rw[p3_may]at h1;cases h1
 ·omega
 obtain rfl:v=3:=by have h4:(3:Int)=(v:Int):=h4;omega
 rw[p3_two]at h6
 obtain⟨b,o,c,b0,o0,c0,b1,o1,c1,rfl,hb,hb0,hb1,r0,r1,x0,x1,x2⟩:=h6.two
 simp only[Nat.add_zero]at r0 x0 x2
 have HB:=hdq h7
 clear h1 h2 h3 h4 h6 h7
 go_wp2_with fail
 go_ret
 exact⟨rfl,HB.out⟩

theorem EdAt.rise6 {w:World} {B B':Nat} (hB:B≤B'):∀ {l:List Ed} {b o:Nat},EdAt w B l b o→EdAt w B' l b o
 | [],_,_,_=>trivial
 |e::r,b,o,h=>by
  obtain⟨hb,h0,h1,h2,h3,h4,⟨A,c,h5,hs⟩,h6,hok,hr⟩:=h
  exact⟨ltq hb hB,h0,h1,h2,h3,h4,⟨A,c,h5,hs.more hB⟩,h6,hok,EdAt.rise6 hB hr⟩
theorem GrSl.rise6 {w:World} {B B':Nat} (hB:B≤B') {g:Gr} {Aa:Option Addr} {ca:Nat} {Ae:Option Addr} {ce:Nat} (h:GrSl w B g Aa ca Ae ce):GrSl w B' g Aa ca Ae ce:=
 ⟨⟨h.arrays.1,h.arrays.2.1,fun hp=>by obtain⟨b,o,e,hh⟩:=h.arrays.2.2 hp;exact⟨b,o,e,ltq hh.1 hB,hh.2⟩⟩,⟨h.edges.1,h.edges.2.1,fun hp=>by obtain⟨b,o,e,hh⟩:=h.edges.2.2 hp;exact⟨b,o,e,hh.rise6 hB⟩⟩⟩
theorem idxFrom_in (x:Int):∀(l:List Int) (i:Nat),x∈l→∃j:Nat,Lib.idxFrom l x i=((i+j:Nat):Int)∧l[j]?=some x
 | [],_,h=>by simp at h
 |z::zs,i,h=>by
  by_cases hz:z=x
  ·exact⟨0,by simp[Lib.idxFrom,hz],by simp[hz]⟩
  ·have h':x∈zs:=by
    rcases List.mem_cons.1 h with e|e
    ·exact absurd e.symm hz
    ·exact e
   obtain⟨j,h1,h2⟩:=idxFrom_in x zs (i+1) h'
   refine⟨j+1,?_,by simpa using h2⟩
   rw[show i+(j+1)=i+1+j from by omega,←h1]
   simp[Lib.idxFrom,hz]
theorem idxOf_in {x:Int} {l:List Int} (h:x∈l):∃j:Nat,Lib.idxOf l x=(j:Int)∧l[j]?=some x:=by
 obtain⟨j,h1,h2⟩:=idxFrom_in x l 0 h
 exact⟨j,by rw[Nat.zero_add]at h1;exact h1,h2⟩
theorem vars_few {g:Gr} (h:mayG g=true):0≤g.vars∧g.vars≤32:=by
 unfold mayG at h
 simp only[Bool.and_eq_true,Bool.not_eq_true']at h
 have h1:=(Bool.or_eq_false_iff.1 h.1.1).1
 unfold odd1 at h1
 simp only[Bool.or_eq_false_iff,decide_eq_false_iff_not]at h1
 omega
theorem packs_good {g:Gr} {most:Int} {v:Nat} (hm:mayG g=true) (h1:1≤most) (hv:g.vars=(v:Int)):PkI v most (pkRun most (pk0 v) (g.edges.map scalE)):=
 PkI.run _ (PkI.zero h1) fun sc hsc n hn=>by
  obtain⟨e,he,rfl⟩:=List.mem_map.1 hsc
  have:=scalE_in hm e he n hn
  omega
theorem pmay_any (g:Gr) (Aa Ae:Option Addr) (ca ce:Nat) (most:Int) (w:World) (he:NameEnv w) (hg:GrSl w w.heap.size g Aa ca Ae ce) (hnm:∀e∈g.edges,nmX e.args) (h64:in64 most):
  Calls Tryz.prog 5 #[grV g.vars Aa g.arrays.length ca g.nodes g.start g.last Ae g.edges.length ce,.int .i64 most] w (TruePost w):=by
 have hla:=leq9 hg.arrays.1 hg.arrays.2.1
 have hle:=leq9 hg.edges.1 hg.edges.2.1
 have hgr:=fun(W:World) (hf:Fr NoT w W)=>greatN_any g.vars Aa g.arrays.length ca g.nodes g.start g.last g.edges Ae ce w.heap.size W hf.size (hg.edges.keep (Same.of hf.plain (lrq _))) hla hnm
 have hup:∀W:World,Fr NoT w W→GrSl W W.heap.size g Aa ca Ae ce:=fun W hf=>(hg.keep (Same.of hf.plain (lrq _))).rise6 hf.size
 have hpa:=fun(W:World) (hf:Fr NoT w W)=>packs_any g Aa Ae ca ce most W (hup W hf) h64
 unfold grV at hgr hpa ⊢
 obtain⟨na,hna⟩:=nmq g.arrays.length
 obtain⟨ne,hne⟩:=nmq g.edges.length
 rw[←hna,←hne]at hgr hpa ⊢
 rw[←hna]at hla
 rw[←hne]at hle
 obtain⟨w1,hw1⟩:=nmq (w.alloc (.cells #[.int .i64 g.vars,.slice Aa na ca,.int .i64 g.nodes,.int .i64 g.start,.int .i64 g.last,.slice Ae ne ce] 32))
 have hf1:Fr NoT w w1:=by rw[hw1];exact(Fr.refl _ _).alloc _
 have hk1:Bk w1 w.heap.size 32 #[.int .i64 g.vars,.slice Aa na ca,.int .i64 g.nodes,.int .i64 g.start,.int .i64 g.last,.slice Ae ne ce]:=by rw[hw1];exact Bk.new _ _ _
 have HAL:=hdq (palive_any w1 (he.keep hf1.plain))
 have HGR:=hdq hgr
 have HPA:=hdq hpa
 have HW1:=hdq hw1
 have HF1:=hdq hf1
 have HK1:=hdq hk1
 clear hg hgr hpa hup hna hne hw1 hf1 hk1 he hnm h64
 go_enter Tryz.func5,Tryz.ntmps5
 go_wp2_with fail
 rw[←HW1.out]
 refine HAL.out.mono ?_
 rintro _ w2 ⟨rfl,hb2⟩
 have HF2:=hdq (HF1.out.trans (Fr.below hb2:Fr NoT w1 w2))
 have HK2:=hdq (HK1.out.fr0 (Fr.below hb2:Fr NoT w1 w2))
 clear hb2
 have gc0:=HK2.out.cell 0
 have gc1:=HK2.out.cell 1
 have gc2:=HK2.out.cell 2
 have gc3:=HK2.out.cell 3
 have gc4:=HK2.out.cell 4
 have gc5:=HK2.out.cell 5
 have gl:=HK2.out.lt
 simp only[getsL]at gc0 gc1 gc2 gc3 gc4 gc5
 go_wp2_with fail
 go_at_call 9
 refine(HGR.out w2 HF2.out).mono ?_
 rintro _ w3 ⟨b,rfl,hb3,hsm⟩
 have hf23:Fr NoT w2 w3:=Fr.below hb3
 have HF3:=hdq (HF2.out.trans hf23)
 have HK3:=hdq (HK2.out.fr0 hf23)
 have HSM:=hdq hsm
 clear hb3 hf23 gc0 gc1 gc2 gc3 gc4 gc5 gl hsm
 have gc0:=HK3.out.cell 0
 have gc1:=HK3.out.cell 1
 have gc2:=HK3.out.cell 2
 have gc3:=HK3.out.cell 3
 have gc4:=HK3.out.cell 4
 have gc5:=HK3.out.cell 5
 have gl:=HK3.out.lt
 simp only[getsL]at gc0 gc1 gc2 gc3 gc4 gc5
 cases b
 rotate_left
 ·go_wp2_with fail
  go_ret
  exact⟨rfl,HF3.out.plain⟩
 have HPA3:=hdq (HPA.out w3 HF3.out (fun e he=>scalE_len (HSM.out rfl e he)))
 go_wp2_with fail
 go_at_call 10
 refine HPA3.out.mono ?_
 rintro _ w4 hp
 rcases hp with⟨_,rfl,h3⟩|⟨_,_,rfl,h4⟩|⟨hm,h1,h2,v,u,hv,rfl,hls,hb4⟩
 ·have HB:=hdq (HF3.out.plain.trans (h3.mono HF3.out.plain.size))
  clear h3
  go_wp2_with fail
  go_ret
  exact⟨rfl,HB.out⟩
 ·have HB:=hdq (HF3.out.plain.trans (h4.mono HF3.out.plain.size))
  clear h4
  go_wp2_with fail
  go_ret
  exact⟨rfl,HB.out⟩
 obtain⟨hv0,hv32⟩:=vars_few hm
 have hPI:=packs_good hm h1 hv
 have hf34:Fr NoT w3 w4:=Fr.below hb4
 have HF4:=hdq (HF3.out.trans hf34)
 have HK4:=hdq (HK3.out.fr0 hf34)
 have hvN:v≤32:=by omega
 obtain⟨P,hP⟩:=nmq (pkRun most (pk0 v) (g.edges.map scalE))
 rw[←hP]at hPI hls
 have hck:=pkchk_any (v:Int) most (pkOut P v) u w4 hls (by have:=pkOut_len P v;omega)
 rw[chk_pkOut hPI hvN h1 h2]at hck
 obtain⟨LS,hLS⟩:=nmq (pkOut P v)
 have hfind:∀k:Nat,k < v→∃(a:Nat) (l:List Int) (j:Nat),LS[a]?=some l∧l[j]?=some (k:Int)∧findE LS k= .returned (.tuple #[.int .i64 (a:Int),.int .i64 (j:Int),.int .i64 0]):=fun k hk=>by
  obtain⟨a,l,h3,_,h4,h5⟩:=hPI.find hk
  obtain⟨j,h6,h7⟩:=idxOf_in h4
  rw[h6]at h5
  rw[←hLS]at h3 h5
  exact⟨a,l,j,h3,h7,h5⟩
 have hone:most=1→LS.length=v:=fun h=>by subst h;rw[hLS];exact pkOut_one hPI
 have hlv:LS.length≤32:=by rw[hLS];have:=pkOut_len P v;omega
 rw[←hLS]at hls
 obtain⟨A,c,rfl,hl1,hl2,hl3⟩:=hls
 have HLS:=hdq (show LsM w4 w4.heap.size LS (.slice A LS.length c)from⟨A,c,rfl,hl1,hl2,hl3⟩)
 obtain⟨L,hL⟩:=nmq LS.length
 rw[←hL]at hck HLS hl1 hone hlv ⊢
 have HL:=hdq hL
 have HCK:=hdq hck
 have HFIND:=hdq hfind
 have HV:=hdq hv
 clear hb4 hf34 hPI hP hLS hl3 hL hck hfind hm gc0 gc1 gc2 gc3 gc4 gc5 gl hv0 hv32
 have gc0:=HK4.out.cell 0
 have gc1:=HK4.out.cell 1
 have gc2:=HK4.out.cell 2
 have gc3:=HK4.out.cell 3
 have gc4:=HK4.out.cell 4
 have gc5:=HK4.out.cell 5
 have gl:=HK4.out.lt
 simp only[getsL]at gc0 gc1 gc2 gc3 gc4 gc5
 rw[hv]at gc0
 clear hv
 go_wp2_with fail
 go_at_call 12
 refine HCK.out.mono ?_
 rintro _ w5 ⟨rfl,hb5⟩
 have hf45:Fr NoT w4 w5:=Fr.below hb5
 have HF5:=hdq (HF4.out.trans hf45)
 have HK5:=hdq (HK4.out.fr0 hf45)
 have HLS5:=hdq (HLS.out.keep hb5.size (Same.of hb5 (lrq _)))
 clear hb5 hf45 gc0 gc1 gc2 gc3 gc4 gc5 gl
 have gc0:=HK5.out.cell 0
 have gl:=HK5.out.lt
 simp only[getsL]at gc0
 rw[HV.out]at gc0
 obtain⟨q,hq⟩:=nmq (decide (most=1))
 have hways:(most=1∧(L:Int)=(v:Int))∨most≠1:=by
  by_cases h:most=1
  ·exact .inl ⟨h,by rw[hone h]⟩
  ·exact .inr h
 clear hone hq
 rcases hways with⟨rfl,hmo⟩|hmo
 all_goals
  go_wp2_with fail
  go_loopw [8] (fun i wr=>∃k:Nat,k≤v∧i= .int .i64 k∧Fr NoT w5 wr) (fun i _=>v - (intOf i).toNat)
  case atStart=>exact⟨0,Nat.zero_le _,rfl,Fr.refl _ _⟩
  case round=>
   obtain⟨k,hk,rfl,hfr⟩:=hrel
   have hk6:=HK5.out.fr0 hfr
   have HK6:=hdq hk6
   have gd0:=hk6.cell 0
   have gl6:=hk6.lt
   simp only[getsL]at gd0
   rw[HV.out]at gd0
   have HFR:=hdq hfr
   clear hk6 hfr gc0 gl
   by_cases hlt:k < v
   ·obtain⟨a,l,j,h3,h4,h5⟩:=HFIND.out k hlt
    have hfi:=find_any LS (.slice A L c) k wr (HLS5.out.keep HFR.out.size (Same.of HFR.out.plain (lrq _)))
    rw[h5]at hfi
    have HFI:=hdq hfi
    have HR:=hdq (aiq h3 h4)
    clear h3 h4 h5 hfi
    go_wp2_with fail
    go_at_call 7
    refine HFI.out.mono ?_
    rintro _ w6 ⟨rfl,hb6⟩
    have hfr6:Fr NoT w5 w6:=HFR.out.trans (Fr.below hb6)
    obtain⟨h3,h4⟩:=HR.out
    have haL:a < L:=by rw[HL.out];exact(List.getElem?_eq_some_iff.1 h3).1
    have hjl:j < l.length:=(List.getElem?_eq_some_iff.1 h4).1
    obtain⟨_,_,he0,_,_,hrow⟩:=HLS5.out.keep hfr6.size (Same.of hfr6.plain (lrq _))
    simp only[Value.slice.injEq]at he0
    obtain⟨rfl,-,rfl⟩:=he0
    obtain⟨b,o,rfl,hbl,hat⟩:=hrow (by rw[←HL.out];omega)
    obtain⟨A',c',r0,hs⟩:=hat a l h3
    obtain⟨b',o',rfl,hbl',hat'⟩:=hs.2.2 (by omega)
    have r1:=(hat' j _ h4).1
    have haL2:(a:Int) < (L:Int):=by omega
    obtain⟨nl,hnl⟩:=nmq l.length
    rw[←hnl]at r0 hjl
    have hjl2:(j:Int) < (nl:Int):=by omega
    have HFR6:=hdq hfr6
    clear h3 h4 hrow hat hs hat' hnl hb6 hfr6 gd0 gl6
    go_wp2_with fail
    go_roundw
    case rel=>exact⟨k+1,by omega,by go_num,HFR6.out⟩
    case measure=>simp[intOf];omega
   ·have hlt':¬((k:Int) < g.vars):=by have h:=HV.out;omega
    rw[HV.out]at hlt'
    go_wp2_with fail
    go_ret
    exact⟨rfl,(HF5.out.trans HFR.out).plain⟩
end Go.Proofs.YtphlnpaikpjakaaGreatDoor
