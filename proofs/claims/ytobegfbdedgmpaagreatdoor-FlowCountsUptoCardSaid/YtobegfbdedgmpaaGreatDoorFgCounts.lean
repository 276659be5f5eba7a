/-
  law13.FlowCounts: edges of a deed are as many as the statements of a kind.
-/
import Derived.Test.YtobegfbdedgmpaaGreatDoorFgAlive
import Derived.Test.YtobegfbdedgmpaaGreatDoorFgCnt
import Derived.Test.YtobegfbdedgmpaaGreatDoorRgGreat
set_option linter.unusedVariables false
set_option linter.unusedSimpArgs false
namespace Go.Proofs.YtobegfbdedgmpaaGreatDoor
open Go.RowKit Go.Shelf Go.Maps

theorem cntK_szT (kd:Int):∀xs:Sts,cntK kd xs≤szT xs
 | .nil =>Nat.le_refl _
 | .cons k nm args cond body els at_ r=>by
  have h1:=cntK_szT kd body
  have h2:=cntK_szT kd els
  have h3:=cntK_szT kd r
  simp only[cntK,szT,szM]
  split<;>omega
theorem cntE_take {K:Int} {l:List Ed} {j:Nat} {e:Ed} (h:l[j]?=some e):cntE K (l.take (j+1))=cntE K (l.take j)+(if e.kind=K then 1 else 0):=by
 unfold cntE
 rw[List.take_add_one,h]
 by_cases hk:e.kind=K<;>simp[hk]
theorem cntE_le (K:Int) (l:List Ed):cntE K l≤l.length:=List.length_filter_le _ _
theorem fc_at {E C:Int→Nat} (h:E 3=C 2∧E 4=C 3∧E 5=C 4∧E 2=C 8+C 1∧E 8=C 5∧E 7=C 6) (k:Nat) (hk:k < 6):
  ∃KS KE,(#[Value.int .u8 2,.int .u8 3,.int .u8 4,.int .u8 8,.int .u8 5,.int .u8 6]:Array Value)[k]?=some (.int .u8 KS)∧(#[Value.int .u8 3,.int .u8 4,.int .u8 5,.int .u8 2,.int .u8 8,.int .u8 7]:Array Value)[k]?=some (.int .u8 KE)∧(((KE==2)=false∧E KE=C KS)∨(KE=2∧E KE=C KS+C 1)):=by
 obtain⟨h1,h2,h3,h4,h5,h6⟩:=h
 rcases(show k=0∨k=1∨k=2∨k=3∨k=4∨k=5 from by omega)with rfl|rfl|rfl|rfl|rfl|rfl
 ·exact⟨2,3,rfl,rfl,.inl ⟨rfl,h1⟩⟩
 ·exact⟨3,4,rfl,rfl,.inl ⟨rfl,h2⟩⟩
 ·exact⟨4,5,rfl,rfl,.inl ⟨rfl,h3⟩⟩
 ·exact⟨8,2,rfl,rfl,.inr ⟨rfl,h4⟩⟩
 ·exact⟨5,8,rfl,rfl,.inl ⟨rfl,h5⟩⟩
 ·exact⟨6,7,rfl,rfl,.inl ⟨rfl,h6⟩⟩
theorem EgR.sb {w:World} {S:Nat→Prop}:∀ {l:List Ed} {b o i:Nat} {e:Ed},EgR w S l b o→l[i]?=some e→S b
 | [],_,_,_,_,_,h=>by simp at h
 |_::_,_,_,_,_,h,_=>h.1.1
set_option maxRecDepth 100000 in
set_option maxHeartbeats 6400000 in
theorem fcounts_any (t:Tre) (w:World) (S:Nat→Prop) (Z:Prop) (Av Aa Ap Am:Option Addr) (cv ca cp cm:Nat) (he:NameEnv w) (hS:∀b,S b→b < w.heap.size) (hsz:SzT t) (hm:CdT 1000000000 t) (hx:TrR w S Z t Av Aa Ap Am cv ca cp cm):
  Calls Tryz.prog 6 #[trV t Av Aa Ap Am cv ca cp cm] w (TruePost w):=by
 have hgr:=fun(W:World) (hf:Fr NoT w W)=>tgreat_any t W S Z Av Aa Ap Am cv ca cp cm (fun b hb=>Nat.lt_of_lt_of_le (hS b hb) hf.size) (hx.keep (hf.same fun b hb=>⟨hS b hb,id⟩))
 have hga:=fun(W:World) (hf:Fr NoT w W)=>graph_any t W S Z Av Aa Ap Am cv ca cp cm (he.keep hf.plain).toSp (he.keep hf.plain).lex.tab (fun b hb=>Nat.lt_of_lt_of_le (hS b hb) hf.size) hsz hm (hx.keep (hf.same fun b hb=>⟨hS b hb,id⟩))
 have hin:=fun(W:World) (hf:Fr NoT w W)=>inl_any t W S Z Av Aa Ap Am cv ca cp cm (he.keep hf.plain).toSp (he.keep hf.plain).lex.tab (fun b hb=>Nat.lt_of_lt_of_le (hS b hb) hf.size) hsz (hx.keep (hf.same fun b hb=>⟨hS b hb,id⟩))
 have hlaw:=fun(h1:(graT t).2 =0) (h2:(inlT t).2 =0)=>(show(∀kd,cntK kd (inlT t).1.main ≤900000000000)∧_ from⟨fun kd=>Nat.le_trans (cntK_szT kd _) (inlT_ok hsz hm (Nat.le_refl _) h2).few,graph_counts h1 h2 (inlT_ok hsz hm (Nat.le_refl _) h2).wf⟩)
 obtain⟨G,hG⟩:=nmq ((graT t).1 )
 obtain⟨E1,hE1⟩:=nmq ((graT t).2 )
 obtain⟨T,hT⟩:=nmq ((inlT t).1 )
 obtain⟨E2,hE2⟩:=nmq ((inlT t).2 )
 unfold GraP grV at hga
 unfold InlP trV at hin
 rw[←hG,←hE1]at hga
 rw[←hT,←hE2]at hin
 rw[←hG,←hE1,←hT,←hE2]at hlaw
 unfold trV at hgr hga ⊢
 obtain⟨n1,hn1⟩:=nmq t.vars.length
 obtain⟨n2,hn2⟩:=nmq t.arrays.length
 obtain⟨n3,hn3⟩:=nmq t.procs.length
 obtain⟨n4,hn4⟩:=nmq t.main.len
 rw[←hn1,←hn2,←hn3,←hn4]at hgr hga hin ⊢
 obtain⟨w1,hw1⟩:=nmq (w.alloc (.cells #[.slice Av n1 cv,.slice Aa n2 ca,.slice Ap n3 cp,.slice Am n4 cm] 27))
 have hf1:Fr NoT w w1:=by rw[hw1];exact(Fr.refl _ _).alloc _
 have hk1:Bk w1 w.heap.size 27 #[.slice Av n1 cv,.slice Aa n2 ca,.slice Ap n3 cp,.slice Am n4 cm]:=by rw[hw1];exact Bk.new _ _ _
 have HAL:=hdq (falive_any w1 (he.keep hf1.plain))
 have HGR:=hdq hgr
 have HGA:=hdq hga
 have HIN:=hdq hin
 have HLW:=hdq hlaw
 have HW1:=hdq hw1
 have HF1:=hdq hf1
 have HK1:=hdq hk1
 clear hgr hga hin hlaw hG hE1 hT hE2 hn1 hn2 hn3 hn4 hw1 hf1 hk1 he hS hsz hm hx
 go_enter Tryz.func6,Tryz.ntmps6
 go_wp2_with fail
 rw[←HW1.out]
 refine HAL.out.mono ?_
 rintro _ w2 ⟨rfl,hb2⟩
 have HF2:=hdq (HF1.out.trans (Fr.below hb2:Fr NoT w1 w2))
 have HK2:=hdq (HK1.out.fr0 (Fr.below hb2:Fr NoT w1 w2))
 clear hb2
 have gc0:=HK2.out.cell 0
 have gc1:=HK2.out.cell 1
 have gc2:=HK2.out.cell 2
 have gc3:=HK2.out.cell 3
 have gl:=HK2.out.lt
 simp only[getsL]at gc0 gc1 gc2 gc3
 go_wp2_with fail
 try go_at_call 15
 refine(HGR.out w2 HF2.out).mono ?_
 rintro _ w3 ⟨b,rfl,hf23⟩
 have HF3:=hdq (HF2.out.trans hf23)
 have HK3:=hdq (HK2.out.fr0 hf23)
 clear hf23 gc0 gc1 gc2 gc3 gl
 have gc0:=HK3.out.cell 0
 have gc1:=HK3.out.cell 1
 have gc2:=HK3.out.cell 2
 have gc3:=HK3.out.cell 3
 have gl:=HK3.out.lt
 simp only[getsL]at gc0 gc1 gc2 gc3
 cases b
 rotate_left
 ·go_wp2_with fail
  go_ret
  exact⟨rfl,HF3.out.plain⟩
 go_wp2_with fail
 refine(HGA.out w3 HF3.out).mono ?_
 rintro _ w4 ⟨Ba,Be,da,de,rfl,hG4,hf34⟩
 obtain⟨w5,hw5⟩:=nmq (w4.alloc (.cells #[.int .i64 G.vars,.slice Ba G.arrays.length da,.int .i64 G.nodes,.int .i64 G.start,.int .i64 G.last,.slice Be G.edges.length de] 40))
 have hf45:Fr NoT w4 w5:=by rw[hw5];exact(Fr.refl _ _).alloc _
 have HB5:=hdq (show Bk w5 w4.heap.size 40 #[.int .i64 G.vars,.slice Ba G.arrays.length da,.int .i64 G.nodes,.int .i64 G.start,.int .i64 G.last,.slice Be G.edges.length de]from by rw[hw5];exact Bk.new _ _ _)
 have HF5:=hdq (HF3.out.trans (hf34.trans hf45))
 have HK5:=hdq (HK3.out.fr0 (hf34.trans hf45))
 have HW5:=hdq hw5
 have HG4:=hdq hG4
 have HF45:=hdq hf45
 have HK4:=hdq (HK3.out.fr0 hf34)
 clear hf34 hf45 hw5 hG4 gc0 gc1 gc2 gc3 gl
 have gc0:=HK4.out.cell 0
 have gc1:=HK4.out.cell 1
 have gc2:=HK4.out.cell 2
 have gc3:=HK4.out.cell 3
 have gl:=HK4.out.lt
 simp only[getsL]at gc0 gc1 gc2 gc3
 go_wp2_with fail
 rw[←HW5.out]
 try go_at_call 22
 refine(HIN.out w5 HF5.out).mono ?_
 rintro _ w6 ⟨Dv,Da,Dp,Dm,ev,ea,ep,em,rfl,hT6,hf56⟩
 obtain⟨w7,hw7⟩:=nmq (w6.alloc (.cells #[.slice Dv T.vars.length ev,.slice Da T.arrays.length ea,.slice Dp T.procs.length ep,.slice Dm T.main.len em] 27))
 have hf67:Fr NoT w6 w7:=by rw[hw7];exact(Fr.refl _ _).alloc _
 have HB7:=hdq (show Bk w7 w6.heap.size 27 #[.slice Dv T.vars.length ev,.slice Da T.arrays.length ea,.slice Dp T.procs.length ep,.slice Dm T.main.len em]from by rw[hw7];exact Bk.new _ _ _)
 have HF7:=hdq (HF5.out.trans (hf56.trans hf67))
 have HG7:=hdq (HB5.out.fr0 (hf56.trans hf67))
 have HF47:=hdq (HF45.out.trans (hf56.trans hf67))
 have HW7:=hdq hw7
 have HF67:=hdq hf67
 have HT6:=hdq hT6
 clear hf56 hf67 hw7 hT6 gc0 gc1 gc2 gc3 gl
 rcases(show(E1 != 0)=true∨((E1 != 0)=false∧(E2 != 0)=true)∨(E1=0∧E2=0)from by by_cases h1:E1=0<;>by_cases h2:E2=0<;>simp[h1,h2])with g1|⟨g1,g2⟩|⟨rfl,rfl⟩
 ·go_wp2_with fail
  rw[←HW7.out]
  go_ret
  exact⟨rfl,HF7.out.plain⟩
 ·go_wp2_with fail
  rw[←HW7.out]
  go_ret
  exact⟨rfl,HF7.out.plain⟩
 obtain⟨ne,hne⟩:=nmq G.edges.length
 obtain⟨ml,hml⟩:=nmq T.main.len
 have hlne:ne≤9223372036854775807:=by rw[hne];exact Nat.le_trans HG4.out.edges.1 HG4.out.edges.2.1.1
 have HCT:=hdq (fun(kd:Int) (W:World) (hf:Fr NoT w7 W)=>(fcnt_any kd T.main W (New w5.heap.size w6) False Dm em (fun b hb=>Nat.lt_of_lt_of_le hb.2 (HF67.out.trans hf).size) (Nat.le_trans ((HLW.out rfl rfl).1 kd) (by decide)) (HT6.out.main.imp fun _ _ hx=>StR.keep ((HF67.out.trans hf).same fun b hb=>⟨hb.2,id⟩) hx)))
 rw[←hml]at HCT HB7 HW7 ⊢
 rw[←hne]at HB5 HG7 HW5 ⊢
 have hcn:∀kd,cntK kd T.main≤900000000000:=(HLW.out rfl rfl).1
 have HCN:=hdq hcn
 have HLAW:=hdq (HLW.out rfl rfl).2
 have HNE:=hdq hne
 clear hne hml hcn
 have HZ:=hdq (show w7.heap.size=w6.heap.size+1 from by rw[HW7.out];simp)
 obtain⟨w9,hw9⟩:=nmq ((w7.alloc (.cells #[.int .u8 2,.int .u8 3,.int .u8 4,.int .u8 8,.int .u8 5,.int .u8 6] 50)).alloc (.cells #[.int .u8 3,.int .u8 4,.int .u8 5,.int .u8 2,.int .u8 8,.int .u8 7] 50))
 have hf79:Fr NoT w7 w9:=by rw[hw9];exact((Fr.refl _ _).alloc _).alloc _
 have hb1:Bk w9 w7.heap.size 50 #[.int .u8 2,.int .u8 3,.int .u8 4,.int .u8 8,.int .u8 5,.int .u8 6]:=by rw[hw9];exact(Bk.new _ _ _).alloc _
 have hb2:Bk w9 (w7.heap.size+1) 50 #[.int .u8 3,.int .u8 4,.int .u8 5,.int .u8 2,.int .u8 8,.int .u8 7]:=by rw[hw9];exact Bk.new_at _ _ _ (by simp)
 rw[HZ.out]at hb1 hb2
 have HBT:=hdq (And.intro hb1 hb2)
 have HW9:=hdq hw9
 have HF79:=hdq hf79
 have HG9:=hdq (HG7.out.fr0 hf79)
 have HB9:=hdq (HB7.out.fr0 hf79)
 have HF49:=hdq (HF47.out.trans hf79)
 have HF9:=hdq (HF7.out.trans hf79)
 clear hb1 hb2 hw9 hf79
 go_wp2_with fail
 rw[←HW7.out,←HW9.out]
 go_loopw [10] (fun i wr=>∃k:Nat,k≤6∧i= .int .i64 k∧Hid (Fr NoT w9 wr)) (fun i _=>6 - (intOf i).toNat)
 case atStart=>exact⟨0,Nat.zero_le _,rfl,hdq (Fr.refl _ _)⟩
 case round=>
  obtain⟨k,hk,rfl,hr⟩:=hrel
  have HR:=hdq hr.out
  clear hr
  by_cases hlt:k < 6
  ·obtain⟨KS,KE,x1,x2,hq⟩:=fc_at (E:=fun K=>cntE K G.edges) (C:=fun kd=>cntK kd T.main) HLAW.out k hlt
   have HX:=hdq (And.intro x1 x2)
   have HQ:=hdq hq
   have hlt':(k:Int) < 6:=by omega
   have hge:(0:Int)≤(k:Int):=by omega
   clear x1 x2 hq
   go_wp2_with fail
   go_loopw [11,12] (fun c j wi=>∃q:Nat,q≤ne∧j= .int .i64 q∧c= .int .i64 (cntE KE (G.edges.take q):Nat)∧Hid (Fr NoT w9 wi)) (fun _ j _=>ne - (intOf j).toNat)
   case atStart=>exact⟨0,Nat.zero_le _,rfl,by simp[cntE],HR⟩
   case round=>
    obtain⟨q,hq,rfl,rfl,hr⟩:=hrel
    have HRI:=hdq hr.out
    have hbk:=HG9.out.fr0 hr.out
    have gc5:=hbk.cell 5
    have gl:=hbk.lt
    simp only[getsL]at gc5
    clear hr hbk
    by_cases hlj:q < ne
    ·obtain⟨e,he⟩:∃x,G.edges[q]?=some x:=⟨_,List.getElem?_eq_getElem (by rw[←HNE.out];exact hlj)⟩
     obtain⟨b,o,rfl,hE⟩:=HG4.out.edges.2.2 (by rw[←HNE.out];omega)
     have hbl:b < w4.heap.size:=(hE.sb he).2
     obtain⟨_,_,e2,_⟩:=hE.cells he
     have hfr:=HF49.out.trans HRI.out
     have d2:=(hfr.cell (p:=⟨b,o+q*7+2,none⟩) hbl id).trans e2
     have hbl2:b < _:=Nat.lt_of_lt_of_le hbl hfr.size
     have y2:=((HBT.out.2.fr0 HRI.out).cell k).trans HX.out.2
     have yl:=(HBT.out.2.fr0 HRI.out).lt
     have hlj':(q:Int) < (ne:Int):=by omega
     have hgq:(0:Int)≤(q:Int):=by omega
     have hst:=cntE_take (K:=KE) he
     have hcq:cntE KE (G.edges.take q)≤q:=Nat.le_trans (cntE_le _ _) (by rw[List.length_take];omega)
     obtain⟨cq,hcq1⟩:=nmq (cntE KE (G.edges.take q))
     rw[←hcq1]at hst hcq ⊢
     obtain⟨kk,hkk⟩:=nmq e.kind
     rw[←hkk]at hst d2
     have HST:=hdq hst
     clear hst hcq1 he hE e2 hfr hbl hkk
     by_cases he9:kk=KE
     ·have e9:(kk==KE)=true:=by simpa using he9
      have hst:=HST.out
      rw[if_pos he9]at hst
      have HST:=hdq hst
      clear hst
      subst he9
      go_wp2_with fail
      go_quiet (fail)
      go_wp2_with fail
      go_roundw
      case rel=>exact⟨q+1,by omega,by go_num,by rw[HST.out];go_num,hdq (HRI.out.drewN _)⟩
      case measure=>simp[intOf];omega
     ·have e9:(kk==KE)=false:=by simpa using he9
      have hst:=HST.out
      rw[if_neg he9]at hst
      have HST:=hdq hst
      clear hst
      go_wp2_with fail
      go_quiet (fail)
      go_wp2_with fail
      go_roundw
      case rel=>exact⟨q+1,by omega,by go_num,by rw[HST.out];rfl,hdq (HRI.out.drewN _)⟩
      case measure=>simp[intOf];omega
    ·have hlj':¬(q:Int) < (ne:Int):=by omega
     have hqn:q=ne:=by omega
     subst hqn
     rw[show G.edges.take q=G.edges from by rw[HNE.out];exact List.take_length]
     obtain⟨cE,hcE⟩:=nmq (cntE KE G.edges)
     rw[←hcE]
     obtain⟨n,hn⟩:=nmq (cntK KS T.main)
     have HC1:=hdq (fun(W:World) (hf:Fr NoT w7 W)=>HCT.out KS W hf)
     rw[←hn]at HC1
     have z1:=((HBT.out.1.fr0 HRI.out).cell k).trans HX.out.1
     have zl:=(HBT.out.1.fr0 HRI.out).lt
     have m3:=(HB9.out.fr0 HRI.out).cell 3
     have ml3:=(HB9.out.fr0 HRI.out).lt
     simp only[getsL]at m3
     have HM:=hdq (And.intro z1 m3)
     have HHE:=hdq hcE
     have HHN:=hdq hn
     clear hcE hn
     go_wp2_with fail
     go_region_held2 (fun W'=>W'.cell? ⟨w6.heap.size,3,none⟩=some (.slice Dm ml em)∧W'.cell? ⟨w6.heap.size+1,k,none⟩=some (.int .u8 KS))
      (first
      |(refine⟨?_,?_⟩<;>with_reducible assumption)
      |(with_reducible refine⟨(Fr.cell (T:=NoT) (w:=wr) (Fr.drew (Fr.refl _ _)) ml3 id).trans m3,(Fr.cell (T:=NoT) (w:=wr) (Fr.drew (Fr.refl _ _)) zl id).trans z1⟩))
      (first
      |(go_at_call 23
        with_reducible refine(HC1.out _ (by exact(HF79.out.trans HRI.out).drew)).mono ?_
        rintro _ wa ⟨rfl,hb⟩
        have HRA:=hdq (HRI.out.trans ((Fr.refl NoT wr).drew.trans hb))
        have m3a:=(HB9.out.fr0 HRA.out).cell 3
        have mla:=(HB9.out.fr0 HRA.out).lt
        have z1a:=((HBT.out.1.fr0 HRA.out).cell k).trans HX.out.1
        simp only[getsL]at m3a
        clear hb
        dsimp only))
     all_goals
      have y2:=((HBT.out.2.fr0 HRA.out).cell k).trans HX.out.2
      have yl:=(HBT.out.2.fr0 HRA.out).lt
      rcases HQ.out with⟨hne2,heq⟩|⟨heq2,heq⟩
      ·have heq:cE=n:=by rw[HHE.out,HHN.out];exact heq
       subst heq
       go_wp2_with fail
       go_roundw
       case rel=>exact⟨k+1,by omega,by go_num,hdq HRA.out⟩
       case measure=>simp[intOf];omega
      ·subst heq2
       obtain⟨n1',hn1'⟩:=nmq (cntK 1 T.main)
       have HC9:=hdq (fun(W:World) (hf:Fr NoT w7 W)=>HCT.out 1 W hf)
       rw[←hn1']at HC9
       have hsum:(cE:Int)=(n:Int)+(n1':Int):=by
        have h:cE=n+n1':=by rw[HHE.out,HHN.out,hn1'];exact heq
        omega
       have hbn1:n≤900000000000:=by rw[HHN.out];exact HCN.out KS
       have hbn2:n1'≤900000000000:=by rw[hn1'];exact HCN.out 1
       rw[hsum]
       clear heq hn1' hsum
       go_wp2_with fail
       try go_at_call 23
       refine(HC9.out _ (HF79.out.trans HRA.out)).mono ?_
       rintro _ wb ⟨rfl,hb⟩
       have HRB:=hdq (HRA.out.trans hb)
       clear hb
       go_wp2_with fail
       go_roundw
       case rel=>exact⟨k+1,by omega,by go_num,hdq HRB.out⟩
       case measure=>simp[intOf];omega
  ·have hlt':¬(k:Int) < 6:=by omega
   go_wp2_with fail
   go_ret
   exact⟨rfl,(HF9.out.trans HR.out).plain⟩
end Go.Proofs.YtobegfbdedgmpaaGreatDoor
