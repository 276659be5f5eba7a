/-
  law26: three, alive; PackNames.
-/
import Derived.Test.YtphlnpaikpjakaaGreatDoorJgJgSlGraph
import Derived.Test.YtphlnpaikpjakaaGreatDoorPkWalk
import Derived.Test.YtphlnpaikpjakaaGreatDoorPkLaws
set_option linter.unusedVariables false
set_option linter.unusedSimpArgs false
set_option maxHeartbeats 6400000
set_option maxRecDepth 100000
namespace Go.Proofs.YtphlnpaikpjakaaGreatDoor
open Go.RowKit Go.Shelf Go.Maps

theorem LsM.keep {w w':World} {B B':Nat} {ls:List (List Int)} {v:Value} (h:LsM w B ls v) (hB:B≤B') (hs:Same B w w'):LsM w' B' ls v:=by
 obtain⟨A,c,e,h1,h2,h3⟩:=h
 refine⟨A,c,e,h1,h2,fun hp=>?_⟩
 obtain⟨b,o,e2,hb,hs2⟩:=h3 hp
 refine⟨b,o,e2,ltq hb hB,fun i l hi=>?_⟩
 obtain⟨A',c',h4,h5⟩:=hs2 i l hi
 have h6:=h5.keep hs
 exact⟨A',c',(hs _ hb).trans h4,h6.1,h6.2.1,fun hp'=>by
  obtain⟨b',o',e3,hb',ha⟩:=h6.2.2 hp'
  exact⟨b',o',e3,ltq hb' hB,ha⟩⟩
theorem PacksP.of {g:Gr} {most:Int} {w w1:World} {e:Ending} {w':World} (hb:Below w.heap.size w w1) (h:PacksP g most w1 e w'):PacksP g most w e w':=by
 rcases h with⟨h1,h2,h3⟩|⟨h1,h2,h3,h4⟩|⟨h1,h2,h3,v,u,h4,h5,h6,h7⟩
 ·exact .inl ⟨h1,h2,hb.trans (h3.mono hb.size)⟩
 ·exact .inr (.inl ⟨h1,h2,h3,hb.trans (h4.mono hb.size)⟩)
 ·exact .inr (.inr ⟨h1,h2,h3,v,u,h4,h5,h6,hb.trans (h7.mono hb.size)⟩)
theorem three_any (most:Int) (w:World) (he:NameEnv w) (h64:in64 most):Calls Tryz.prog 6 #[.int .i64 most] w (PacksP p3G most w):=by
 have h1:=p3_par w he
 unfold p30 at h1
 have H1:=hdq (show Calls Tryz.prog 13 _ w (fun e w'=>∃Av Aa Ap Am cv ca cp cm,e= .returned (.tuple #[.agg #[.slice Av 3 cv,.slice Aa 0 ca,.slice Ap 0 cp,.slice Am 2 cm],.int .i64 0,.int .i64 0])∧TrR w' (New w.heap.size w') False p31 Av Aa Ap Am cv ca cp cm∧Below w.heap.size w w')from h1)
 have HE:=hdq he
 have H64:=hdq h64
 clear h1 he h64
 go_enter Tryz.func6,Tryz.ntmps6
 go_wp2_with fail
 refine H1.out.mono ?_
 rintro _ w2 ⟨Av,Aa,Ap,Am,cv,ca,cp,cm,rfl,hT,hb⟩
 have hf2:Fr NoT w w2:=Fr.below hb
 obtain⟨w3,hw3⟩:=nmq (w2.alloc (.cells #[.slice Av 3 cv,.slice Aa 0 ca,.slice Ap 0 cp,.slice Am 2 cm] 49))
 have hf3:Fr NoT w2 w3:=by rw[hw3];exact(Fr.refl _ _).alloc _
 have hf03:Fr NoT w w3:=hf2.trans hf3
 have h3:=p3_graph w3 (New w.heap.size w2) False Av Aa Ap Am cv ca cp cm (HE.out.keep hf03.plain).toSp (HE.out.keep hf03.plain).lex.tab (fun b hb=>ltq hb.2 hf3.size) (hT.keep (hf3.same fun b hb=>⟨hb.2,id⟩))
 have H3:=hdq (show Calls Tryz.prog 14 #[.agg #[.slice Av 3 cv,.slice Aa 0 ca,.slice Ap 0 cp,.slice Am 2 cm]] w3 (fun e w'=>∃Aa Ae ca ce,e= .returned (.tuple #[.agg #[.int .i64 3,.slice Aa 0 ca,.int .i64 3,.int .i64 0,.int .i64 1,.slice Ae 2 ce],.int .i64 0])∧GrR w' (New w3.heap.size w') p3G Aa ca Ae ce∧Fr NoT w3 w')from h3)
 have HW3:=hdq hw3
 have HF03:=hdq hf03
 clear hT hb hf2 hw3 hf3 hf03 h3
 go_wp2_with fail
 rw[←HW3.out]
 go_at_call 14
 refine H3.out.mono ?_
 rintro _ w4 ⟨Ba,Be,da,de,rfl,hG4,hf4⟩
 obtain⟨w5,hw5⟩:=nmq (w4.alloc (.cells #[.int .i64 3,.slice Ba 0 da,.int .i64 3,.int .i64 0,.int .i64 1,.slice Be 2 de] 32))
 have hf5:Fr NoT w4 w5:=by rw[hw5];exact(Fr.refl _ _).alloc _
 have hG5:=hG4.keep (hf5.same fun b hb=>⟨hb.2,id⟩)
 have hP:=packs_any p3G Ba Be da de most w5 (hG5.grSl fun b hb=>ltq hb.2 hf5.size) H64.out (fun e he=>by
  simp only[p3G,List.mem_cons,List.not_mem_nil,or_false]at he
  rcases he with rfl|rfl<;>decide)
 have HP:=hdq (show Calls Tryz.prog 10 #[.agg #[.int .i64 3,.slice Ba 0 da,.int .i64 3,.int .i64 0,.int .i64 1,.slice Be 2 de],.int .i64 most] w5 (PacksP p3G most w5)from hP)
 have HW5:=hdq hw5
 have HF5:=hdq ((HF03.out.trans hf4).trans hf5)
 clear hG4 hf4 hw5 hf5 hG5 hP
 go_wp2_with fail
 rw[←HW5.out]
 go_at_call 10
 refine HP.out.mono ?_
 rintro e w6 hp
 have hp:=hp.of HF5.out.plain
 rcases hp with⟨h1,rfl,h3⟩|⟨h1,h2,rfl,h4⟩|⟨h1,h2,h3,v,u,h4,rfl,h6,h7⟩
 ·rw[p3_may]at h1;cases h1
 ·have HB:=hdq h4
  have HM:=hdq h2
  clear h2 h4
  go_wp2_with fail
  go_ret2
  exact .inr (.inl ⟨p3_may,HM.out,rfl,HB.out⟩)
 ·have HB:=hdq h7
  have HL:=hdq h6
  have HV:=hdq h4
  have HM:=hdq (aiq h2 h3)
  clear h2 h3 h4 h6 h7
  go_wp2_with fail
  go_ret2
  exact .inr (.inr ⟨p3_may,HM.out.1,HM.out.2,v,u,HV.out,rfl,HL.out,HB.out⟩)

theorem p3_sc:p3G.edges.map scalE= [[1,0], [2]]:=by kernel_rfl
theorem sd_two:sdup [1,0]= [0,1]:=by
 have h:([1,0]:List Int).mergeSort leZ= [0,1]:=by simp[List.mergeSort,List.MergeSort.Internal.splitInTwo,List.merge,leZ]
 exact(congrArg Lib.compact h).trans (by kernel_rfl)
theorem sd_one:sdup [2]= [2]:=by
 have h:([2]:List Int).mergeSort leZ= [2]:=by simp[List.mergeSort]
 exact(congrArg Lib.compact h).trans (by kernel_rfl)
theorem p3_two:pkOut (pkRun 2 (pk0 3) (p3G.edges.map scalE)) 3= [[0,1], [2]]:=by
 have s1:pkStep 2 (pk0 3) [1,0]= [[0,1], [0,1], [2]]:=by
  unfold pkStep
  rw[show pkAll (pk0 3) [1,0]= [1,0]from by kernel_rfl,sd_two]
  kernel_rfl
 have s2:pkStep 2 [[0,1], [0,1], [2]] [2]= [[0,1], [0,1], [2]]:=by
  unfold pkStep
  rw[show pkAll [[0,1], [0,1], [2]] [2]= [2]from by kernel_rfl,sd_one]
  kernel_rfl
 rw[p3_sc]
 unfold pkRun
 rw[List.foldl_cons,List.foldl_cons,List.foldl_nil,s1,s2]
 exact(show pkOut [[0,1], [0,1], [2]] 3= [[0,1], [2]]from by kernel_rfl)
theorem LsM.two {w:World} {B:Nat} {u:Value} (h:LsM w B [[0,1], [2]] u):∃b o c b0 o0 c0 b1 o1 c1,u= .slice (some ⟨b,o,none⟩) 2 c∧b < B∧b0 < B∧b1 < B∧
  w.cell? ⟨b,o+0,none⟩=some (.slice (some ⟨b0,o0,none⟩) 2 c0)∧w.cell? ⟨b,o+1,none⟩=some (.slice (some ⟨b1,o1,none⟩) 1 c1)∧
  w.cell? ⟨b0,o0+0,none⟩=some (.int .i64 0)∧w.cell? ⟨b0,o0+1,none⟩=some (.int .i64 1)∧w.cell? ⟨b1,o1+0,none⟩=some (.int .i64 2):=by
 obtain⟨A,c,e,h1,h2,h3⟩:=h
 obtain⟨b,o,rfl,hb,hr⟩:=h3 (by decide)
 obtain⟨A0,c0,r0,s0⟩:=hr 0 [0,1] rfl
 obtain⟨A1,c1,r1,s1⟩:=hr 1 [2] rfl
 obtain⟨b0,o0,rfl,hb0,ha0⟩:=s0.2.2 (by decide)
 obtain⟨b1,o1,rfl,hb1,ha1⟩:=s1.2.2 (by decide)
 exact⟨b,o,c,b0,o0,c0,b1,o1,c1,e,hb,hb0,hb1,r0,r1,(ha0 0 0 rfl).1,(ha0 1 1 rfl).1,(ha1 0 2 rfl).1⟩
theorem palive_any (w:World) (he:NameEnv w):Calls Tryz.prog 8 #[] w (TruePost w):=by
 have HC:=hdq (three_any 2 w he (by unfold in64;omega))
 clear he
 go_enter Tryz.func8,Tryz.ntmps8
 go_wp2_with fail
 refine HC.out.mono ?_
 rintro e w1 hp
 rcases hp with⟨h1,rfl,h3⟩|⟨h1,h2,rfl,h4⟩|⟨h1,h2,h3,v,u,h4,rfl,h6,h7⟩
 ·rw[p3_may]at h1;cases h1
 ·omega
 obtain rfl:v=3:=by have h4:(3:Int)=(v:Int):=h4;omega
 rw[p3_two]at h6
 obtain⟨b,o,c,b0,o0,c0,b1,o1,c1,rfl,hb,hb0,hb1,r0,r1,x0,x1,x2⟩:=h6.two
 simp only[Nat.add_zero]at r0 x0 x2
 have HB:=hdq h7
 clear h1 h2 h3 h4 h6 h7
 go_wp2_with fail
 go_ret
 exact⟨rfl,HB.out⟩

theorem EdAt.rise6 {w:World} {B B':Nat} (hB:B≤B'):∀ {l:List Ed} {b o:Nat},EdAt w B l b o→EdAt w B' l b o
 | [],_,_,_=>trivial
 |e::r,b,o,h=>by
  obtain⟨hb,h0,h1,h2,h3,h4,⟨A,c,h5,hs⟩,h6,hok,hr⟩:=h
  exact⟨ltq hb hB,h0,h1,h2,h3,h4,⟨A,c,h5,hs.more hB⟩,h6,hok,EdAt.rise6 hB hr⟩
theorem GrSl.rise6 {w:World} {B B':Nat} (hB:B≤B') {g:Gr} {Aa:Option Addr} {ca:Nat} {Ae:Option Addr} {ce:Nat} (h:GrSl w B g Aa ca Ae ce):GrSl w B' g Aa ca Ae ce:=
 ⟨⟨h.arrays.1,h.arrays.2.1,fun hp=>by obtain⟨b,o,e,hh⟩:=h.arrays.2.2 hp;exact⟨b,o,e,ltq hh.1 hB,hh.2⟩⟩,⟨h.edges.1,h.edges.2.1,fun hp=>by obtain⟨b,o,e,hh⟩:=h.edges.2.2 hp;exact⟨b,o,e,hh.rise6 hB⟩⟩⟩
theorem idxFrom_in (x:Int):∀(l:List Int) (i:Nat),x∈l→∃j:Nat,Lib.idxFrom l x i=((i+j:Nat):Int)∧l[j]?=some x
 | [],_,h=>by simp at h
 |z::zs,i,h=>by
  by_cases hz:z=x
  ·exact⟨0,by simp[Lib.idxFrom,hz],by simp[hz]⟩
  ·have h':x∈zs:=by
    rcases List.mem_cons.1 h with e|e
    ·exact absurd e.symm hz
    ·exact e
   obtain⟨j,h1,h2⟩:=idxFrom_in x zs (i+1) h'
   refine⟨j+1,?_,by simpa using h2⟩
   rw[show i+(j+1)=i+1+j from by omega,←h1]
   simp[Lib.idxFrom,hz]
theorem idxOf_in {x:Int} {l:List Int} (h:x∈l):∃j:Nat,Lib.idxOf l x=(j:Int)∧l[j]?=some x:=by
 obtain⟨j,h1,h2⟩:=idxFrom_in x l 0 h
 exact⟨j,by rw[Nat.zero_add]at h1;exact h1,h2⟩
theorem vars_few {g:Gr} (h:mayG g=true):0≤g.vars∧g.vars≤32:=by
 unfold mayG at h
 simp only[Bool.and_eq_true,Bool.not_eq_true']at h
 have h1:=(Bool.or_eq_false_iff.1 h.1.1).1
 unfold odd1 at h1
 simp only[Bool.or_eq_false_iff,decide_eq_false_iff_not]at h1
 omega
theorem packs_good {g:Gr} {most:Int} {v:Nat} (hm:mayG g=true) (h1:1≤most) (hv:g.vars=(v:Int)):PkI v most (pkRun most (pk0 v) (g.edges.map scalE)):=
 PkI.run _ (PkI.zero h1) fun sc hsc n hn=>by
  obtain⟨e,he,rfl⟩:=List.mem_map.1 hsc
  have:=scalE_in hm e he n hn
  omega

def ReadsOk (xs:Exs):Prop:=∀(n:Int) (A:Option Addr) (c B:Nat) (w:World),ExSl w B xs A c→Calls Tryz.prog 11 #[.slice A xs.len c,.int .i64 n] w fun e w'=>e= .returned (.bool (rdX n xs))∧w'=w
def ReadsAll (xs:Exs):Prop:=∀(i:Nat) (k:Int) (nm:ByteArray) (n:Int) (args:Exs) (at_:Int) (rest:Exs),Exs.drop i xs= .cons k nm n args at_ rest→ReadsOk args
theorem reads_core (xs:Exs) (hall:ReadsAll xs):ReadsOk xs:=by
 intro n A c B w hx
 have hl:xs.len≤9223372036854775807:=leq9 hx.1 hx.2.1
 have HALL:=hdq hall
 have HX:=hdq hx
 obtain⟨bb,hbb⟩:=nmq (rdX n xs)
 rw[←hbb]
 have HBB:=hdq hbb
 clear hall hx hbb
 go_enter Tryz.func11,Tryz.ntmps11
 go_wp2_with fail
 go_loop [5] (fun i=>∃k:Nat,k≤xs.len∧i= .int .i64 k∧Hid (bb=rdX n (Exs.drop k xs))) (fun i=>xs.len - (intOf i).toNat)
 case atStart=>exact⟨0,Nat.zero_le _,rfl,hdq (by rw[HBB.out];cases xs<;>rfl)⟩
 case round=>
  obtain⟨k,hk,rfl,hrd⟩:=hrel
  by_cases hlt:k < xs.len
  ·obtain⟨a0,a1,a2,a3,a4,a5,hd⟩:=Exs.drop_cons hlt
   obtain⟨b,o,rfl,hat⟩:=HX.out.2.2 (by omega)
   obtain⟨hbB,c0,c1,c2,⟨A',c',c3,hsl⟩,c4,_⟩:=hat.at_ hd
   have hrec:=HALL.out k a0 a1 a2 a3 a4 a5 hd n A' c' B w hsl
   have hrd2:=hrd.out
   rw[rdX_drop hd]at hrd2
   obtain⟨q,hq⟩:=nmq (rdX n a3)
   rw[←hq]at hrec hrd2
   have HREC:=hdq hrec
   have HRD:=hdq hrd2
   clear hd hat hsl hrec hrd2 hq hrd
   by_cases h1:a0=2
   ·by_cases h2:a2=n
    ·have HF:=hdq (show bb=true by rw[HRD.out,h1,h2];simp)
     go_wp2_with fail
     go_ret
     exact⟨by rw[HF.out];rfl,rfl⟩
    ·have HF:=hdq (show bb=(q || rdX n (Exs.drop (k+1) xs)) by
      have hb:(a2==n)=false:=by simpa using h2
      rw[HRD.out,hb,Bool.and_false,Bool.false_or])
     cases q
     ·go_wp2_with fail
      go_at_call 11
      refine HREC.out.mono ?_
      rintro _ _ ⟨rfl,rfl⟩
      go_wp2_with fail
      go_round
      case rel=>exact⟨k+1,by omega,by go_num,hdq (by rw[HF.out,Bool.false_or])⟩
      case measure=>simp[intOf];omega
     ·go_wp2_with fail
      go_at_call 11
      refine HREC.out.mono ?_
      rintro _ _ ⟨rfl,rfl⟩
      go_wp2_with fail
      go_ret
      exact⟨by rw[HF.out];rfl,rfl⟩
   ·have HF:=hdq (show bb=(q || rdX n (Exs.drop (k+1) xs)) by
     have hb:(a0==2)=false:=by simpa using h1
     rw[HRD.out,hb,Bool.false_and,Bool.false_or])
    cases q
    ·go_wp2_with fail
     go_at_call 11
     refine HREC.out.mono ?_
     rintro _ _ ⟨rfl,rfl⟩
     go_wp2_with fail
     go_round
     case rel=>exact⟨k+1,by omega,by go_num,hdq (by rw[HF.out,Bool.false_or])⟩
     case measure=>simp[intOf];omega
    ·go_wp2_with fail
     go_at_call 11
     refine HREC.out.mono ?_
     rintro _ _ ⟨rfl,rfl⟩
     go_wp2_with fail
     go_ret
     exact⟨by rw[HF.out];rfl,rfl⟩
  ·have HF:=hdq (show bb=false by rw[hrd.out,Exs.drop_nil (by omega)];rfl)
   clear hrd
   go_wp2_with fail
   go_ret
   exact⟨by rw[HF.out];rfl,rfl⟩
theorem reads_all:∀xs:Exs,ReadsAll xs
 | .nil =>fun i _ _ _ _ _ _ hd=>by cases i<;>simp[Exs.drop]at hd
 | .cons k nm n args at_ rest=>fun i k' nm' n' args' at' rest' hd=>by
  cases i with
  |zero=>
   simp only[Exs.drop]at hd
   injection hd with e1 e2 e3 e4 e5 e6
   subst e4
   exact reads_core args (reads_all args)
  |succ i=>
   simp only[Exs.drop]at hd
   exact reads_all rest i k' nm' n' args' at' rest' hd
theorem reads_any (xs:Exs):ReadsOk xs:=reads_core xs (reads_all xs)
theorem papart_any (g:Gr) (Aa Ae:Option Addr) (ca ce:Nat) (most n:Int) (w:World) (he:NameEnv w) (hg:GrSl w w.heap.size g Aa ca Ae ce) (hnm:∀e∈g.edges,nmX e.args) (h64:in64 most) (hn64:in64 n):
  Calls Tryz.prog 4 #[grV g.vars Aa g.arrays.length ca g.nodes g.start g.last Ae g.edges.length ce,.int .i64 most,.int .i64 n] w (TruePost w):=by
 have hla:=leq9 hg.arrays.1 hg.arrays.2.1
 have hle:=leq9 hg.edges.1 hg.edges.2.1
 have hgr:=fun(W:World) (hf:Fr NoT w W)=>greatN_any g.vars Aa g.arrays.length ca g.nodes g.start g.last g.edges Ae ce w.heap.size W hf.size (hg.edges.keep (Same.of hf.plain (lrq _))) hla hnm
 have hup:∀W:World,Fr NoT w W→GrSl W W.heap.size g Aa ca Ae ce:=fun W hf=>(hg.keep (Same.of hf.plain (lrq _))).rise6 hf.size
 have hpa:=fun(W:World) (hf:Fr NoT w W)=>packs_any g Aa Ae ca ce most W (hup W hf) h64
 unfold grV at hgr hpa ⊢
 obtain⟨na,hna⟩:=nmq g.arrays.length
 obtain⟨ne,hne⟩:=nmq g.edges.length
 rw[←hna,←hne]at hgr hpa ⊢
 rw[←hna]at hla
 rw[←hne]at hle
 obtain⟨w1,hw1⟩:=nmq (w.alloc (.cells #[.int .i64 g.vars,.slice Aa na ca,.int .i64 g.nodes,.int .i64 g.start,.int .i64 g.last,.slice Ae ne ce] 32))
 have hf1:Fr NoT w w1:=by rw[hw1];exact(Fr.refl _ _).alloc _
 have hk1:Bk w1 w.heap.size 32 #[.int .i64 g.vars,.slice Aa na ca,.int .i64 g.nodes,.int .i64 g.start,.int .i64 g.last,.slice Ae ne ce]:=by rw[hw1];exact Bk.new _ _ _
 have HAL:=hdq (palive_any w1 (he.keep hf1.plain))
 have HGR:=hdq hgr
 have HPA:=hdq hpa
 have HW1:=hdq hw1
 have HF1:=hdq hf1
 have HK1:=hdq hk1
 have HG:=hdq hg.edges
 have HNE:=hdq hne
 clear hg hgr hpa hup hna hne hw1 hf1 hk1 he hnm h64
 go_enter Tryz.func4,Tryz.ntmps4
 go_wp2_with fail
 rw[←HW1.out]
 refine HAL.out.mono ?_
 rintro _ w2 ⟨rfl,hb2⟩
 have HF2:=hdq (HF1.out.trans (Fr.below hb2:Fr NoT w1 w2))
 have HK2:=hdq (HK1.out.fr0 (Fr.below hb2:Fr NoT w1 w2))
 clear hb2
 have gc0:=HK2.out.cell 0
 have gc1:=HK2.out.cell 1
 have gc2:=HK2.out.cell 2
 have gc3:=HK2.out.cell 3
 have gc4:=HK2.out.cell 4
 have gc5:=HK2.out.cell 5
 have gl:=HK2.out.lt
 simp only[getsL]at gc0 gc1 gc2 gc3 gc4 gc5
 go_wp2_with fail
 go_at_call 9
 refine(HGR.out w2 HF2.out).mono ?_
 rintro _ w3 ⟨b,rfl,hb3,hsm⟩
 have hf23:Fr NoT w2 w3:=Fr.below hb3
 have HF3:=hdq (HF2.out.trans hf23)
 have HK3:=hdq (HK2.out.fr0 hf23)
 have HSM:=hdq hsm
 clear hb3 hf23 gc0 gc1 gc2 gc3 gc4 gc5 gl hsm
 have gc0:=HK3.out.cell 0
 have gc1:=HK3.out.cell 1
 have gc2:=HK3.out.cell 2
 have gc3:=HK3.out.cell 3
 have gc4:=HK3.out.cell 4
 have gc5:=HK3.out.cell 5
 have gl:=HK3.out.lt
 simp only[getsL]at gc0 gc1 gc2 gc3 gc4 gc5
 cases b
 rotate_left
 ·go_wp2_with fail
  go_ret
  exact⟨rfl,HF3.out.plain⟩
 by_cases hn0:n < 0
 ·go_wp2_with fail
  go_ret
  exact⟨rfl,HF3.out.plain⟩
 by_cases hn1:n < g.vars
 rotate_left
 ·have hn2:g.vars≤n:=by omega
  go_wp2_with fail
  go_ret
  exact⟨rfl,HF3.out.plain⟩
 have hn2:¬g.vars≤n:=by omega
 have HPA3:=hdq (HPA.out w3 HF3.out (fun e he=>scalE_len (HSM.out rfl e he)))
 go_wp2_with fail
 go_at_call 10
 refine HPA3.out.mono ?_
 rintro _ w4 hp
 have hn64':=hn64
 rcases hp with⟨_,rfl,h3⟩|⟨_,_,rfl,h4⟩|⟨hm,h1,h2,v,u,hv,rfl,hls,hb4⟩
 ·have HB:=hdq (HF3.out.plain.trans (h3.mono HF3.out.plain.size))
  clear h3
  go_wp2_with fail
  go_ret
  exact⟨rfl,HB.out⟩
 ·have HB:=hdq (HF3.out.plain.trans (h4.mono HF3.out.plain.size))
  clear h4
  go_wp2_with fail
  go_ret
  exact⟨rfl,HB.out⟩
 obtain⟨hv0,hv32⟩:=vars_few hm
 have hPI:=packs_good hm h1 hv
 have hf34:Fr NoT w3 w4:=Fr.below hb4
 have HF4:=hdq (HF3.out.trans hf34)
 have HK4:=hdq (HK3.out.fr0 hf34)
 have hvN:v≤32:=by omega
 obtain⟨P,hP⟩:=nmq (pkRun most (pk0 v) (g.edges.map scalE))
 rw[←hP]at hPI hls
 obtain⟨LS,hLS⟩:=nmq (pkOut P v)
 obtain⟨nn,hnn⟩:∃k:Nat,n=(k:Int):=⟨n.toNat,by omega⟩
 subst hnn
 have hnv:nn < v:=by omega
 obtain⟨a,l,h3,h3P,h4,h5⟩:=hPI.find hnv
 obtain⟨j,h6,h7⟩:=idxOf_in h4
 rw[h6]at h5
 rw[←hLS]at h3 h5 hls
 have halone:g.edges.all (loneE v (nn:Int))=true→l.length=1:=fun hq=>by
  have hz:=alone_run (v:=v) (most:=most) (n:=nn) (g.edges.map scalE) (PkI.zero h1) (fun sc hsc x hx=>by
   obtain⟨e,he,rfl⟩:=List.mem_map.1 hsc
   have:=scalE_in hm e he x hx
   omega) (pk0_get hnv) (fun sc hsc hin=>by
   obtain⟨e,he,rfl⟩:=List.mem_map.1 hsc
   exact loneE_scal hm hv he (List.all_eq_true.1 hq e he) hin)
  rw[←hP,h3P]at hz
  rw[Option.some.inj hz]
  rfl
 have hlv:LS.length≤32:=by rw[hLS];have:=pkOut_len P v;omega
 obtain⟨A,c,rfl,hl1,hl2,hl3⟩:=hls
 have HLS:=hdq (show LsM w4 w4.heap.size LS (.slice A LS.length c)from⟨A,c,rfl,hl1,hl2,hl3⟩)
 obtain⟨L,hL⟩:=nmq LS.length
 rw[←hL]at HLS hl1 hlv ⊢
 have HL:=hdq hL
 have HV:=hdq hv
 have HR:=hdq (aiq h3 h7)
 have HFD:=hdq h5
 have HALO:=hdq halone
 clear hb4 hf34 hPI hP hLS hl3 hL hm gc0 gc1 gc2 gc3 gc4 gc5 gl hv0 hv32 h3 h3P h4 h5 h6 h7 halone
 have gc0:=HK4.out.cell 0
 have gc5:=HK4.out.cell 5
 have gl:=HK4.out.lt
 simp only[getsL]at gc0 gc5
 rw[hv]at gc0
 clear hv
 go_wp2_with fail
 go_loopw [10,11] (fun al i wr=>∃(k:Nat) (q:Bool),k≤ne∧i= .int .i64 k∧al= .bool q∧Fr NoT w4 wr∧Hid (q=(g.edges.take k).all (loneE v (nn:Int)))) (fun _ i _=>ne - (intOf i).toNat)
 case atStart=>exact⟨0,true,Nat.zero_le _,rfl,rfl,Fr.refl _ _,hdq (by simp)⟩
 case round=>
  obtain⟨k,q,hk,rfl,rfl,hfr,hq⟩:=hrel
  have hkr:=HK4.out.fr0 hfr
  have HFR:=hdq hfr
  have HKR:=hdq hkr
  have gd0:=hkr.cell 0
  have gd5:=hkr.cell 5
  have gdl:=hkr.lt
  simp only[getsL]at gd0 gd5
  rw[HV.out]at gd0
  clear hkr hfr gc0 gc5 gl
  by_cases hlt:k < ne
  ·obtain⟨e,he⟩:∃e,g.edges[k]?=some e:=⟨_,List.getElem?_eq_getElem (by rw[←HNE.out];exact hlt)⟩
   obtain⟨b,o,rfl,hat⟩:=HG.out.2.2 (by rw[←HNE.out];omega)
   have hsame:Same w.heap.size w wr:=Same.of (HF4.out.trans HFR.out).plain (lrq _)
   obtain⟨hbB,c0,c1,c2,c3,c4,⟨A',c',c5,hsl⟩,c6,hok⟩:=(hat.keep hsame).at_ he
   have hbl:b < wr.heap.size:=ltq hbB (HF4.out.trans HFR.out).size
   have hqs:(g.edges.take (k+1)).all (loneE v (nn:Int))=(q&&loneE v (nn:Int) e):=by
    rw[List.take_add_one,he,List.all_append,←hq.out];simp
   have HQ:=hdq hqs
   have HRD:=hdq (fun(x:Int) (W:World) (h:Below wr.heap.size wr W)=>reads_any e.args x A' c' w.heap.size W (hsl.keep (Same.of h (HF4.out.trans HFR.out).size)))
   obtain⟨lx,hlx⟩:=nmq e.args.len
   rw[←hlx]at c5 HRD
   clear he hat hsame hok hq hqs hsl hlx
   obtain⟨ef,et,ek,en,ec,ea,eat⟩:=e
   simp only at c0 c1 c2 c3 c4 c5 c6
   obtain⟨rn,hrn⟩:=nmq (rdX (nn:Int) ea)
   obtain⟨w5,hw5⟩:=nmq (wr.alloc (.cells #[.int .u8 ek,.int .i64 en,.int .u8 ec,.slice A' lx c'] 37))
   have hb5:Below wr.heap.size wr w5:=by rw[hw5];exact(Below.refl _ _).alloc (lrq _) _
   have hk5:Bk w5 wr.heap.size 37 #[.int .u8 ek,.int .i64 en,.int .u8 ec,.slice A' lx c']:=by rw[hw5];exact Bk.new _ _ _
   have HD:=hdq (fun(x:Int)=>HRD.out x w5 hb5)
   have HF5:=hdq (HFR.out.trans (Fr.below hb5:Fr NoT wr w5))
   have HKG5:=hdq (HKR.out.fr0 (Fr.below hb5:Fr NoT wr w5))
   have HW5:=hdq hw5
   have HK5:=hdq hk5
   have HRN:=hdq hrn
   clear hw5 hb5 hk5 hrn
   have hways:(ek=3∧en=(nn:Int))∨(ek=5∧en=(nn:Int))∨(ek=3∧(en==(nn:Int))=false)∨(ek=5∧(en==(nn:Int))=false)∨((ek==3)=false∧(ek==5)=false):=by
    by_cases h1:ek=3<;>by_cases h2:ek=5<;>by_cases h3:en=(nn:Int)<;>simp[h1,h2,h3]
   obtain⟨lo,hlo⟩:∃f:Int→Bool,f=lone1 (nn:Int) ⟨ef,et,ek,en,ec,ea,eat⟩:=⟨_,rfl⟩
   obtain⟨O,hO⟩:=nmq (ownE (nn:Int) ⟨ef,et,ek,en,ec,ea,eat⟩)
   have HL0:=hdq (show lo (nn:Int)=true by rw[hlo];unfold lone1;simp)
   have HL1:=hdq (show ∀x:Int,¬x=(nn:Int)→rdX x ea=true→lo x=false from fun x h1 h2=>by rw[hlo];unfold lone1;simp[h1,h2])
   have hl2:∀x:Int,¬x=(nn:Int)→rdX x ea=false→lo x=(O || !(ek==3) || !(en==x)):=fun x h1 h2=>by rw[hlo,hO];unfold lone1;simp[h1,h2]
   have hle2:loneE v (nn:Int) ⟨ef,et,ek,en,ec,ea,eat⟩=((!O&& !rn) || (List.range v).all fun(x:Nat)=>lo (x:Int)):=by rw[hO,hlo,HRN.out];rfl
   have hoe:O=((ek==3 || ek==5)&&en==(nn:Int)):=hO
   have d0:=HK5.out.cell 0
   have d1:=HK5.out.cell 1
   have d3:=HK5.out.cell 3
   have dl:=HK5.out.lt
   have ge0:=HKG5.out.cell 0
   have ge5:=HKG5.out.cell 5
   have gel:=HKG5.out.lt
   simp only[getsL]at d0 d1 d3 ge0 ge5
   rw[HV.out]at ge0
   clear hlo hO
   rcases hways with⟨rfl,rfl⟩|⟨rfl,rfl⟩|⟨rfl,kn⟩|⟨rfl,kn⟩|⟨k3,k5⟩
   ·have HLE:=hdq (show loneE v (nn:Int) ⟨ef,et,3,(nn:Int),ec,ea,eat⟩=(List.range v).all fun(x:Nat)=>lo (x:Int) by rw[hle2,hoe];simp)
    have HL2:=hdq (show ∀x:Int,¬x=(nn:Int)→rdX x ea=false→lo x=true from fun x h1 h2=>by rw[hl2 x h1 h2,hoe];simp)
    clear hl2 hle2 hoe
    go_wp2_with fail
    rw[←HW5.out]
    clear c0 c1 c2 c3 c4 c5 c6 gd0 gd5 gdl
    go_loop [10,14] (fun al z=>∃(m:Nat) (q':Bool),m≤v∧z= .int .i64 m∧al= .bool q'∧Hid (q'=(q&&(List.range m).all fun(x:Nat)=>lo (x:Int)))) (fun _ z=>v - (intOf z).toNat)
    case atStart=>exact⟨0,q,Nat.zero_le _,rfl,rfl,hdq (by simp)⟩
    case round=>
     obtain⟨m,q',hm,rfl,rfl,hq'⟩:=hrel
     by_cases hlt2:m < v
     ·have hst:(q&&(List.range (m+1)).all fun(x:Nat)=>lo (x:Int))=(q'&&lo (m:Int)):=by
       rw[List.range_succ,List.all_append,←Bool.and_assoc,←hq'.out];simp
      have HST:=hdq hst
      clear hst hq'
      cases q'
      ·have HN:=hdq (show false=(q&&(List.range (m+1)).all fun(x:Nat)=>lo (x:Int)) by rw[HST.out];rfl)
       go_wp2_with fail
       go_round
       case rel=>exact⟨m+1,false,by omega,by go_num,rfl,HN⟩
       case measure=>simp[intOf];omega
      by_cases hmn:(m:Int)=(nn:Int)
      ·have HN:=hdq (show true=(q&&(List.range (m+1)).all fun(x:Nat)=>lo (x:Int)) by rw[HST.out,hmn,HL0.out];rfl)
       go_wp2_with fail
       go_round
       case rel=>exact⟨m+1,true,by omega,by go_num,rfl,HN⟩
       case measure=>simp[intOf];omega
      have hmb:((m:Int)==(nn:Int))=false:=by simpa using hmn
      have HRM:=hdq (HD.out (m:Int))
      cases hrm:rdX (m:Int) ea
      rotate_left
      ·have HN:=hdq (show false=(q&&(List.range (m+1)).all fun(x:Nat)=>lo (x:Int)) by rw[HST.out,HL1.out _ hmn hrm];rfl)
       rw[hrm]at HRM
       clear hrm
       go_wp2_with fail
       go_at_call 11
       refine HRM.out.mono ?_
       rintro _ _ ⟨rfl,rfl⟩
       go_wp2_with fail
       go_round
       case rel=>exact⟨m+1,false,by omega,by go_num,rfl,HN⟩
       case measure=>simp[intOf];omega
      have HN:=hdq (show true=(q&&(List.range (m+1)).all fun(x:Nat)=>lo (x:Int)) by rw[HST.out,HL2.out _ hmn hrm];rfl)
      rw[hrm]at HRM
      clear hrm
      go_wp2_with fail
      go_at_call 11
      refine HRM.out.mono ?_
      rintro _ _ ⟨rfl,rfl⟩
      go_wp2_with fail
      go_round
      case rel=>exact⟨m+1,true,by omega,by go_num,rfl,HN⟩
      case measure=>simp[intOf];omega
     ·obtain rfl:m=v:=by omega
      have HN:=hdq (show q'=(g.edges.take (k+1)).all (loneE m (nn:Int)) by rw[HQ.out,HLE.out,hq'.out])
      clear hq'
      go_wp2_with fail
      go_roundw
      case rel=>exact⟨k+1,q',by omega,by go_num,rfl,HF5.out,HN⟩
      case measure=>simp[intOf];omega
   ·have HLE:=hdq (show loneE v (nn:Int) ⟨ef,et,5,(nn:Int),ec,ea,eat⟩=(List.range v).all fun(x:Nat)=>lo (x:Int) by rw[hle2,hoe];simp)
    have HL2:=hdq (show ∀x:Int,¬x=(nn:Int)→rdX x ea=false→lo x=true from fun x h1 h2=>by rw[hl2 x h1 h2,hoe];simp)
    clear hl2 hle2 hoe
    go_wp2_with fail
    rw[←HW5.out]
    clear c0 c1 c2 c3 c4 c5 c6 gd0 gd5 gdl
    go_loop [10,14] (fun al z=>∃(m:Nat) (q':Bool),m≤v∧z= .int .i64 m∧al= .bool q'∧Hid (q'=(q&&(List.range m).all fun(x:Nat)=>lo (x:Int)))) (fun _ z=>v - (intOf z).toNat)
    case atStart=>exact⟨0,q,Nat.zero_le _,rfl,rfl,hdq (by simp)⟩
    case round=>
     obtain⟨m,q',hm,rfl,rfl,hq'⟩:=hrel
     by_cases hlt2:m < v
     ·have hst:(q&&(List.range (m+1)).all fun(x:Nat)=>lo (x:Int))=(q'&&lo (m:Int)):=by
       rw[List.range_succ,List.all_append,←Bool.and_assoc,←hq'.out];simp
      have HST:=hdq hst
      clear hst hq'
      cases q'
      ·have HN:=hdq (show false=(q&&(List.range (m+1)).all fun(x:Nat)=>lo (x:Int)) by rw[HST.out];rfl)
       go_wp2_with fail
       go_round
       case rel=>exact⟨m+1,false,by omega,by go_num,rfl,HN⟩
       case measure=>simp[intOf];omega
      by_cases hmn:(m:Int)=(nn:Int)
      ·have HN:=hdq (show true=(q&&(List.range (m+1)).all fun(x:Nat)=>lo (x:Int)) by rw[HST.out,hmn,HL0.out];rfl)
       go_wp2_with fail
       go_round
       case rel=>exact⟨m+1,true,by omega,by go_num,rfl,HN⟩
       case measure=>simp[intOf];omega
      have hmb:((m:Int)==(nn:Int))=false:=by simpa using hmn
      have HRM:=hdq (HD.out (m:Int))
      cases hrm:rdX (m:Int) ea
      rotate_left
      ·have HN:=hdq (show false=(q&&(List.range (m+1)).all fun(x:Nat)=>lo (x:Int)) by rw[HST.out,HL1.out _ hmn hrm];rfl)
       rw[hrm]at HRM
       clear hrm
       go_wp2_with fail
       go_at_call 11
       refine HRM.out.mono ?_
       rintro _ _ ⟨rfl,rfl⟩
       go_wp2_with fail
       go_round
       case rel=>exact⟨m+1,false,by omega,by go_num,rfl,HN⟩
       case measure=>simp[intOf];omega
      have HN:=hdq (show true=(q&&(List.range (m+1)).all fun(x:Nat)=>lo (x:Int)) by rw[HST.out,HL2.out _ hmn hrm];rfl)
      rw[hrm]at HRM
      clear hrm
      go_wp2_with fail
      go_at_call 11
      refine HRM.out.mono ?_
      rintro _ _ ⟨rfl,rfl⟩
      go_wp2_with fail
      go_round
      case rel=>exact⟨m+1,true,by omega,by go_num,rfl,HN⟩
      case measure=>simp[intOf];omega
     ·obtain rfl:m=v:=by omega
      have HN:=hdq (show q'=(g.edges.take (k+1)).all (loneE m (nn:Int)) by rw[HQ.out,HLE.out,hq'.out])
      clear hq'
      go_wp2_with fail
      go_roundw
      case rel=>exact⟨k+1,q',by omega,by go_num,rfl,HF5.out,HN⟩
      case measure=>simp[intOf];omega
   ·have hof:O=false:=by rw[hoe];simp[kn]
    rw[hof]at hle2 hl2
    have HL2:=hdq (show ∀x:Int,¬x=(nn:Int)→rdX x ea=false→lo x= !(en==x)from fun x h1 h2=>by rw[hl2 x h1 h2];simp)
    have HRQ:=hdq (HD.out (nn:Int))
    rw[←HRN.out]at HRQ
    clear hl2 hoe hof
    cases rn
    ·have HN:=hdq (show q=(g.edges.take (k+1)).all (loneE v (nn:Int)) by rw[HQ.out,hle2];simp)
     clear hle2
     go_wp2_with fail
     go_at_call 11
     rw[←HW5.out]
     refine HRQ.out.mono ?_
     rintro _ _ ⟨rfl,rfl⟩
     go_wp2_with fail
     go_roundw
     case rel=>exact⟨k+1,q,by omega,by go_num,rfl,HF5.out,HN⟩
     case measure=>simp[intOf];omega
    have HLE:=hdq (show loneE v (nn:Int) ⟨ef,et,3,en,ec,ea,eat⟩=(List.range v).all fun(x:Nat)=>lo (x:Int) by rw[hle2];simp)
    clear hle2
    go_wp2_with fail
    go_at_call 11
    rw[←HW5.out]
    refine HRQ.out.mono ?_
    rintro _ _ ⟨rfl,rfl⟩
    clear c0 c1 c2 c3 c4 c5 c6 gd0 gd5 gdl
    go_wp2_with fail
    go_loop [10,14] (fun al z=>∃(m:Nat) (q':Bool),m≤v∧z= .int .i64 m∧al= .bool q'∧Hid (q'=(q&&(List.range m).all fun(x:Nat)=>lo (x:Int)))) (fun _ z=>v - (intOf z).toNat)
    case atStart=>exact⟨0,q,Nat.zero_le _,rfl,rfl,hdq (by simp)⟩
    case round=>
     obtain⟨m,q',hm,rfl,rfl,hq'⟩:=hrel
     by_cases hlt2:m < v
     ·have hst:(q&&(List.range (m+1)).all fun(x:Nat)=>lo (x:Int))=(q'&&lo (m:Int)):=by
       rw[List.range_succ,List.all_append,←Bool.and_assoc,←hq'.out];simp
      have HST:=hdq hst
      clear hst hq'
      cases q'
      ·have HN:=hdq (show false=(q&&(List.range (m+1)).all fun(x:Nat)=>lo (x:Int)) by rw[HST.out];rfl)
       go_wp2_with fail
       go_round
       case rel=>exact⟨m+1,false,by omega,by go_num,rfl,HN⟩
       case measure=>simp[intOf];omega
      by_cases hmn:(m:Int)=(nn:Int)
      ·have HN:=hdq (show true=(q&&(List.range (m+1)).all fun(x:Nat)=>lo (x:Int)) by rw[HST.out,hmn,HL0.out];rfl)
       go_wp2_with fail
       go_round
       case rel=>exact⟨m+1,true,by omega,by go_num,rfl,HN⟩
       case measure=>simp[intOf];omega
      have hmb:((m:Int)==(nn:Int))=false:=by simpa using hmn
      have HRM:=hdq (HD.out (m:Int))
      cases hrm:rdX (m:Int) ea
      rotate_left
      ·have HN:=hdq (show false=(q&&(List.range (m+1)).all fun(x:Nat)=>lo (x:Int)) by rw[HST.out,HL1.out _ hmn hrm];rfl)
       rw[hrm]at HRM
       clear hrm
       go_wp2_with fail
       go_at_call 11
       refine HRM.out.mono ?_
       rintro _ _ ⟨rfl,rfl⟩
       go_wp2_with fail
       go_round
       case rel=>exact⟨m+1,false,by omega,by go_num,rfl,HN⟩
       case measure=>simp[intOf];omega
      have hl2:=HL2.out _ hmn hrm
      rw[hrm]at HRM
      clear hrm
      cases hem:(en != (m:Int))
      ·have HN:=hdq (show false=(q&&(List.range (m+1)).all fun(x:Nat)=>lo (x:Int)) by
       have h9:(en==(m:Int))=true:=by simpa using hem
       rw[HST.out,hl2,h9];rfl)
       clear hl2
       go_wp2_with fail
       go_at_call 11
       refine HRM.out.mono ?_
       rintro _ _ ⟨rfl,rfl⟩
       go_wp2_with fail
       go_round
       case rel=>exact⟨m+1,false,by omega,by go_num,rfl,HN⟩
       case measure=>simp[intOf];omega
      ·have HN:=hdq (show true=(q&&(List.range (m+1)).all fun(x:Nat)=>lo (x:Int)) by
       have h9:(en==(m:Int))=false:=by simpa using hem
       rw[HST.out,hl2,h9];rfl)
       clear hl2
       go_wp2_with fail
       go_at_call 11
       refine HRM.out.mono ?_
       rintro _ _ ⟨rfl,rfl⟩
       go_wp2_with fail
       go_round
       case rel=>exact⟨m+1,true,by omega,by go_num,rfl,HN⟩
       case measure=>simp[intOf];omega
     ·obtain rfl:m=v:=by omega
      have HN:=hdq (show q'=(g.edges.take (k+1)).all (loneE m (nn:Int)) by rw[HQ.out,HLE.out,hq'.out])
      clear hq'
      go_wp2_with fail
      go_roundw
      case rel=>exact⟨k+1,q',by omega,by go_num,rfl,HF5.out,HN⟩
      case measure=>simp[intOf];omega
   ·have hof:O=false:=by rw[hoe];simp[kn]
    rw[hof]at hle2 hl2
    have HL2:=hdq (show ∀x:Int,¬x=(nn:Int)→rdX x ea=false→lo x=true from fun x h1 h2=>by rw[hl2 x h1 h2];simp)
    have HRQ:=hdq (HD.out (nn:Int))
    rw[←HRN.out]at HRQ
    clear hl2 hoe hof
    cases rn
    ·have HN:=hdq (show q=(g.edges.take (k+1)).all (loneE v (nn:Int)) by rw[HQ.out,hle2];simp)
     clear hle2
     go_wp2_with fail
     go_at_call 11
     rw[←HW5.out]
     refine HRQ.out.mono ?_
     rintro _ _ ⟨rfl,rfl⟩
     go_wp2_with fail
     go_roundw
     case rel=>exact⟨k+1,q,by omega,by go_num,rfl,HF5.out,HN⟩
     case measure=>simp[intOf];omega
    have HLE:=hdq (show loneE v (nn:Int) ⟨ef,et,5,en,ec,ea,eat⟩=(List.range v).all fun(x:Nat)=>lo (x:Int) by rw[hle2];simp)
    clear hle2
    go_wp2_with fail
    go_at_call 11
    rw[←HW5.out]
    refine HRQ.out.mono ?_
    rintro _ _ ⟨rfl,rfl⟩
    clear c0 c1 c2 c3 c4 c5 c6 gd0 gd5 gdl
    go_wp2_with fail
    go_loop [10,14] (fun al z=>∃(m:Nat) (q':Bool),m≤v∧z= .int .i64 m∧al= .bool q'∧Hid (q'=(q&&(List.range m).all fun(x:Nat)=>lo (x:Int)))) (fun _ z=>v - (intOf z).toNat)
    case atStart=>exact⟨0,q,Nat.zero_le _,rfl,rfl,hdq (by simp)⟩
    case round=>
     obtain⟨m,q',hm,rfl,rfl,hq'⟩:=hrel
     by_cases hlt2:m < v
     ·have hst:(q&&(List.range (m+1)).all fun(x:Nat)=>lo (x:Int))=(q'&&lo (m:Int)):=by
       rw[List.range_succ,List.all_append,←Bool.and_assoc,←hq'.out];simp
      have HST:=hdq hst
      clear hst hq'
      cases q'
      ·have HN:=hdq (show false=(q&&(List.range (m+1)).all fun(x:Nat)=>lo (x:Int)) by rw[HST.out];rfl)
       go_wp2_with fail
       go_round
       case rel=>exact⟨m+1,false,by omega,by go_num,rfl,HN⟩
       case measure=>simp[intOf];omega
      by_cases hmn:(m:Int)=(nn:Int)
      ·have HN:=hdq (show true=(q&&(List.range (m+1)).all fun(x:Nat)=>lo (x:Int)) by rw[HST.out,hmn,HL0.out];rfl)
       go_wp2_with fail
       go_round
       case rel=>exact⟨m+1,true,by omega,by go_num,rfl,HN⟩
       case measure=>simp[intOf];omega
      have hmb:((m:Int)==(nn:Int))=false:=by simpa using hmn
      have HRM:=hdq (HD.out (m:Int))
      cases hrm:rdX (m:Int) ea
      rotate_left
      ·have HN:=hdq (show false=(q&&(List.range (m+1)).all fun(x:Nat)=>lo (x:Int)) by rw[HST.out,HL1.out _ hmn hrm];rfl)
       rw[hrm]at HRM
       clear hrm
       go_wp2_with fail
       go_at_call 11
       refine HRM.out.mono ?_
       rintro _ _ ⟨rfl,rfl⟩
       go_wp2_with fail
       go_round
       case rel=>exact⟨m+1,false,by omega,by go_num,rfl,HN⟩
       case measure=>simp[intOf];omega
      have HN:=hdq (show true=(q&&(List.range (m+1)).all fun(x:Nat)=>lo (x:Int)) by rw[HST.out,HL2.out _ hmn hrm];rfl)
      rw[hrm]at HRM
      clear hrm
      go_wp2_with fail
      go_at_call 11
      refine HRM.out.mono ?_
      rintro _ _ ⟨rfl,rfl⟩
      go_wp2_with fail
      go_round
      case rel=>exact⟨m+1,true,by omega,by go_num,rfl,HN⟩
      case measure=>simp[intOf];omega
     ·obtain rfl:m=v:=by omega
      have HN:=hdq (show q'=(g.edges.take (k+1)).all (loneE m (nn:Int)) by rw[HQ.out,HLE.out,hq'.out])
      clear hq'
      go_wp2_with fail
      go_roundw
      case rel=>exact⟨k+1,q',by omega,by go_num,rfl,HF5.out,HN⟩
      case measure=>simp[intOf];omega
   ·have k3b:(ek != 3)=true:=by simp only[bne,k3,Bool.not_false]
    have hof:O=false:=by rw[hoe];simp[k3,k5]
    rw[hof]at hle2 hl2
    have HL2:=hdq (show ∀x:Int,¬x=(nn:Int)→rdX x ea=false→lo x=true from fun x h1 h2=>by rw[hl2 x h1 h2];simp[k3])
    have HRQ:=hdq (HD.out (nn:Int))
    rw[←HRN.out]at HRQ
    clear hl2 hoe hof
    cases rn
    ·have HN:=hdq (show q=(g.edges.take (k+1)).all (loneE v (nn:Int)) by rw[HQ.out,hle2];simp)
     clear hle2
     go_wp2_with fail
     go_at_call 11
     rw[←HW5.out]
     refine HRQ.out.mono ?_
     rintro _ _ ⟨rfl,rfl⟩
     go_wp2_with fail
     go_roundw
     case rel=>exact⟨k+1,q,by omega,by go_num,rfl,HF5.out,HN⟩
     case measure=>simp[intOf];omega
    have HLE:=hdq (show loneE v (nn:Int) ⟨ef,et,ek,en,ec,ea,eat⟩=(List.range v).all fun(x:Nat)=>lo (x:Int) by rw[hle2];simp)
    clear hle2
    go_wp2_with fail
    go_at_call 11
    rw[←HW5.out]
    refine HRQ.out.mono ?_
    rintro _ _ ⟨rfl,rfl⟩
    clear c0 c1 c2 c3 c4 c5 c6 gd0 gd5 gdl
    go_wp2_with fail
    go_loop [10,14] (fun al z=>∃(m:Nat) (q':Bool),m≤v∧z= .int .i64 m∧al= .bool q'∧Hid (q'=(q&&(List.range m).all fun(x:Nat)=>lo (x:Int)))) (fun _ z=>v - (intOf z).toNat)
    case atStart=>exact⟨0,q,Nat.zero_le _,rfl,rfl,hdq (by simp)⟩
    case round=>
     obtain⟨m,q',hm,rfl,rfl,hq'⟩:=hrel
     by_cases hlt2:m < v
     ·have hst:(q&&(List.range (m+1)).all fun(x:Nat)=>lo (x:Int))=(q'&&lo (m:Int)):=by
       rw[List.range_succ,List.all_append,←Bool.and_assoc,←hq'.out];simp
      have HST:=hdq hst
      clear hst hq'
      cases q'
      ·have HN:=hdq (show false=(q&&(List.range (m+1)).all fun(x:Nat)=>lo (x:Int)) by rw[HST.out];rfl)
       go_wp2_with fail
       go_round
       case rel=>exact⟨m+1,false,by omega,by go_num,rfl,HN⟩
       case measure=>simp[intOf];omega
      by_cases hmn:(m:Int)=(nn:Int)
      ·have HN:=hdq (show true=(q&&(List.range (m+1)).all fun(x:Nat)=>lo (x:Int)) by rw[HST.out,hmn,HL0.out];rfl)
       go_wp2_with fail
       go_round
       case rel=>exact⟨m+1,true,by omega,by go_num,rfl,HN⟩
       case measure=>simp[intOf];omega
      have hmb:((m:Int)==(nn:Int))=false:=by simpa using hmn
      have HRM:=hdq (HD.out (m:Int))
      cases hrm:rdX (m:Int) ea
      rotate_left
      ·have HN:=hdq (show false=(q&&(List.range (m+1)).all fun(x:Nat)=>lo (x:Int)) by rw[HST.out,HL1.out _ hmn hrm];rfl)
       rw[hrm]at HRM
       clear hrm
       go_wp2_with fail
       go_at_call 11
       refine HRM.out.mono ?_
       rintro _ _ ⟨rfl,rfl⟩
       go_wp2_with fail
       go_round
       case rel=>exact⟨m+1,false,by omega,by go_num,rfl,HN⟩
       case measure=>simp[intOf];omega
      have HN:=hdq (show true=(q&&(List.range (m+1)).all fun(x:Nat)=>lo (x:Int)) by rw[HST.out,HL2.out _ hmn hrm];rfl)
      rw[hrm]at HRM
      clear hrm
      go_wp2_with fail
      go_at_call 11
      refine HRM.out.mono ?_
      rintro _ _ ⟨rfl,rfl⟩
      go_wp2_with fail
      go_round
      case rel=>exact⟨m+1,true,by omega,by go_num,rfl,HN⟩
      case measure=>simp[intOf];omega
     ·obtain rfl:m=v:=by omega
      have HN:=hdq (show q'=(g.edges.take (k+1)).all (loneE m (nn:Int)) by rw[HQ.out,HLE.out,hq'.out])
      clear hq'
      go_wp2_with fail
      go_roundw
      case rel=>exact⟨k+1,q',by omega,by go_num,rfl,HF5.out,HN⟩
      case measure=>simp[intOf];omega
  ·obtain rfl:k=ne:=by omega
   have hqa:=hq.out
   rw[List.take_of_length_le (by rw[←HNE.out];exact lrq _)]at hqa
   have hls6:=HLS.out.keep HFR.out.size (Same.of HFR.out.plain (lrq _))
   have hfi:=find_any LS (.slice A L c) (nn:Int) wr hls6
   rw[HFD.out]at hfi
   have HFI:=hdq hfi
   have HLS6:=hdq hls6
   have HQ:=hdq (show q=true→l.length=1 from fun h=>HALO.out (by rw[←hqa];exact h))
   clear hqa hq hfi hls6
   go_wp2_with fail
   go_at_call 7
   refine HFI.out.mono ?_
   rintro _ w6 ⟨rfl,hb6⟩
   have hfr6:Fr NoT wr w6:=Fr.below hb6
   obtain⟨h3,h4⟩:=HR.out
   have haL:a < L:=by rw[HL.out];exact(List.getElem?_eq_some_iff.1 h3).1
   obtain⟨_,_,he0,_,_,hrow⟩:=HLS6.out.keep hfr6.size (Same.of hfr6.plain (lrq _))
   simp only[Value.slice.injEq]at he0
   obtain⟨rfl,-,rfl⟩:=he0
   obtain⟨b,o,rfl,hbl,hat⟩:=hrow (by rw[←HL.out];omega)
   obtain⟨A',c',r0,hs⟩:=hat a l h3
   have haL2:(a:Int) < (L:Int):=by omega
   obtain⟨nl,hnl⟩:=nmq l.length
   have hq1:=HQ.out
   rw[←hnl]at r0 hq1
   have HFR6:=hdq ((HF4.out.trans HFR.out).trans hfr6)
   clear h3 h4 hrow hat hs hnl hb6 hfr6 gd0 gd5 gdl
   cases q
   ·clear hq1
    go_wp2_with fail
    go_ret
    exact⟨rfl,HFR6.out.plain⟩
   ·obtain rfl:=hq1 rfl
    go_wp2_with fail
    go_ret
    exact⟨rfl,HFR6.out.plain⟩
end Go.Proofs.YtphlnpaikpjakaaGreatDoor
