/-
  law13.FlowLess: a graph that may be may be with less.
-/
import Derived.Test.YtobegfbdedgmpaaGreatDoorJgFg7
import Derived.Test.YtobegfbdedgmpaaGreatDoorJgFgLessM
import Derived.Test.YtobegfbdedgmpaaGreatDoorFlGreat
import Derived.Deep.DeepCutAuto
set_option linter.unusedVariables false
set_option linter.unusedSimpArgs false
namespace Go.Proofs.YtobegfbdedgmpaaGreatDoor
open Go.RowKit Go.Shelf Go.Maps

set_option maxRecDepth 100000 in
set_option maxHeartbeats 12800000 in
theorem fless_any (g:Gr) (Aa Ae:Option Addr) (ca ce:Nat) (at_:Int) (w:World) (he:NameEnv w) (hg:GrSl w w.heap.size g Aa ca Ae ce) (hi:in64 at_):
  Calls Tryz.prog 7 #[grV g.vars Aa g.arrays.length ca g.nodes g.start g.last Ae g.edges.length ce,.int .i64 at_] w (TruePost w):=by
 have hla:=Nat.le_trans hg.arrays.1 hg.arrays.2.1
 have hle:=Nat.le_trans hg.edges.1 hg.edges.2.1
 obtain⟨M,hM⟩:∃M:Int,M=(if mayG g=true then 0 else 8):=⟨_,rfl⟩
 have hgr:=fun(W:World) (hf:Fr NoT w W)=>great_any g.vars Aa g.arrays.length ca g.nodes g.start g.last g.edges Ae ce w.heap.size W hf.size (hg.edges.keep (Same.of_fr hf (Nat.le_refl _) fun _ h=>h.elim)) hla
 have hck:=fun(W:World) (hf:Fr NoT w W)=>(check_any g Aa Ae ca ce w.heap.size W hf.size (hg.keep (Same.of_fr hf (Nat.le_refl _) fun _ h=>h.elim))).mono (fun e w' h=>(show e= .returned (.int .i64 M)∧Fr NoT W w' from⟨by rw[hM];exact h.1,Fr.below h.2⟩))
 have hca:∀(l:List Ed) (nd st lt:Int) (A:Option Addr) (c:Nat) (W:World),Fr NoT w W→EdSl W W.heap.size l A c→Calls Tryz.prog 25 #[.agg #[.int .i64 g.vars,.slice Aa g.arrays.length ca,.int .i64 nd,.int .i64 st,.int .i64 lt,.slice A l.length c]] W (ErrPost (mayG ⟨g.vars,g.arrays,nd,st,lt,l⟩) W):=
  fun l nd st lt A c W hf hl=>check_any ⟨g.vars,g.arrays,nd,st,lt,l⟩ Aa A ca c W.heap.size W (Nat.le_refl _) ⟨(hg.arrays.keep (Same.of_fr hf (Nat.le_refl _) fun _ h=>h.elim)).up hf.size,hl⟩
 unfold grV at hgr hck ⊢
 obtain⟨na,hna⟩:∃n,n=g.arrays.length:=⟨_,rfl⟩
 obtain⟨ne,hne⟩:∃n,n=g.edges.length:=⟨_,rfl⟩
 rw[←hna,←hne]at hgr hck
 rw[←hna]at hca
 rw[←hna,←hne]
 rw[←hna]at hla
 rw[←hne]at hle
 obtain⟨w1,hw1⟩:∃w1,w1=w.alloc (.cells #[.int .i64 g.vars,.slice Aa na ca,.int .i64 g.nodes,.int .i64 g.start,.int .i64 g.last,.slice Ae ne ce] 40):=⟨_,rfl⟩
 have hf1:Fr NoT w w1:=by rw[hw1];exact(Fr.refl _ _).alloc _
 have hk1:Bk w1 w.heap.size 40 #[.int .i64 g.vars,.slice Aa na ca,.int .i64 g.nodes,.int .i64 g.start,.int .i64 g.last,.slice Ae ne ce]:=by rw[hw1];exact Bk.new _ _ _
 have HAL:=Lib.hid (falive_any w1 (he.keep hf1.plain))
 have HGR:=Lib.hid hgr
 have HCK:=Lib.hid hck
 have HCA:=Lib.hid hca
 have HW1:=Lib.hid hw1
 have HF1:=Lib.hid hf1
 have HK1:=Lib.hid hk1
 have HM:=Lib.hid hM
 have HNE:=Lib.hid hne
 have HG:=Lib.hid hg.edges
 have hways:(M=8∧mayG g=false)∨(M=0∧at_ < 0)∨(M=0∧¬at_ < 0∧(ne:Int)≤at_)∨(M=0∧¬at_ < 0∧¬(ne:Int)≤at_∧4096≤g.nodes)∨(M=0∧¬at_ < 0∧¬(ne:Int)≤at_∧¬4096≤g.nodes∧mayG g=true):=by
  cases h:mayG g
  ·rw[h]at hM;exact .inl ⟨hM,rfl⟩
  ·rw[h]at hM
   have hM:M=0:=hM
   right
   by_cases h1:at_ < 0
   ·exact .inl ⟨hM,h1⟩
   by_cases h2:(ne:Int)≤at_
   ·exact .inr (.inl ⟨hM,h1,h2⟩)
   by_cases h3:4096≤g.nodes
   ·exact .inr (.inr (.inl ⟨hM,h1,h2,h3⟩))
   ·exact .inr (.inr (.inr ⟨hM,h1,h2,h3,rfl⟩))
 clear hg hgr hck hca hna hne hw1 hf1 hk1 hM he hi
 go_enter Tryz.func7,Tryz.ntmps7
 go_wp2_with fail
 rw[←HW1.out]
 refine HAL.out.mono ?_
 rintro _ w2 ⟨rfl,hb2⟩
 have hf2:=HF1.out.trans (Fr.below hb2:Fr NoT w1 w2)
 have hk2:=HK1.out.fr0 (Fr.below hb2:Fr NoT w1 w2)
 have HF2:=Lib.hid hf2
 have HK2:=Lib.hid hk2
 clear hb2 hf2 hk2
 have gc0:=HK2.out.cell 0
 have gc1:=HK2.out.cell 1
 have gc2:=HK2.out.cell 2
 have gc3:=HK2.out.cell 3
 have gc4:=HK2.out.cell 4
 have gc5:=HK2.out.cell 5
 have gl:=HK2.out.lt
 simp only[getsL]at gc0 gc1 gc2 gc3 gc4 gc5
 go_wp2_with fail
 go_at_call 24
 refine(HGR.out w2 HF2.out).mono ?_
 rintro _ w3 ⟨b,rfl,hb3⟩
 have hf23:Fr NoT w2 w3:=Fr.below hb3
 have HF3:=Lib.hid (HF2.out.trans hf23)
 have HK3:=Lib.hid (HK2.out.fr0 hf23)
 clear hb3 hf23 gc0 gc1 gc2 gc3 gc4 gc5 gl
 have gc0:=HK3.out.cell 0
 have gc1:=HK3.out.cell 1
 have gc2:=HK3.out.cell 2
 have gc3:=HK3.out.cell 3
 have gc4:=HK3.out.cell 4
 have gc5:=HK3.out.cell 5
 have gl:=HK3.out.lt
 simp only[getsL]at gc0 gc1 gc2 gc3 gc4 gc5
 cases b
 rotate_left
 ·go_wp2_with fail
  go_ret
  exact⟨rfl,HF3.out.plain⟩
 go_wp2_with fail
 go_at_call 25
 refine(HCK.out w3 HF3.out).mono ?_
 rintro _ w4 ⟨rfl,hf34⟩
 have HF4:=Lib.hid (HF3.out.trans hf34)
 have HK4:=Lib.hid (HK3.out.fr0 hf34)
 clear hf34 gc0 gc1 gc2 gc3 gc4 gc5 gl
 have gc0:=HK4.out.cell 0
 have gc1:=HK4.out.cell 1
 have gc2:=HK4.out.cell 2
 have gc3:=HK4.out.cell 3
 have gc4:=HK4.out.cell 4
 have gc5:=HK4.out.cell 5
 have gl:=HK4.out.lt
 simp only[getsL]at gc0 gc1 gc2 gc3 gc4 gc5
 rcases hways with⟨rfl,g1⟩|⟨rfl,g1⟩|⟨rfl,g1,g2⟩|⟨rfl,g1,g2,g3⟩|⟨rfl,g1,g2,g3,g4⟩
 iterate 4
  ·go_wp2_with fail
   go_ret
   exact⟨rfl,HF4.out.plain⟩
 -- <GOOD>
 obtain⟨hln,hnd,hst,hlt,hed⟩:=mayG_nodes g4
 obtain⟨at0,rfl⟩:∃k:Nat,at_=k:=⟨at_.toNat,by omega⟩
 have hat0:at0 < ne:=by omega
 rw[←HNE.out]at hln
 obtain⟨xa,hxa⟩:∃x,g.edges[at0]?=some x:=⟨_,List.getElem?_eq_getElem (by rw[←HNE.out];exact hat0)⟩
 obtain⟨eb,eo,rfl,hat⟩:=HG.out.2.2 (by rw[←HNE.out];omega)
 have HAT:=Lib.hid hat
 have HMG:=Lib.hid g4
 have HED:=Lib.hid hed
 have HXA:=Lib.hid hxa
 clear g4 hed hat hxa HGR HCK
 obtain⟨i0,hi,hz0,hz1,hz2⟩:=info_parts infoEd
 have HI:=Lib.hid (And.intro hi (And.intro hz0 (And.intro hz1 hz2)))
 clear hi hz0 hz1 hz2
 go_wp2_with fail
 go_cut [6,7] (fun s6 s7 wx=>∃p q,s6= .pointer (some ⟨p,0,none⟩)∧s7= .pointer (some ⟨q,0,none⟩)∧Hid (Bk wx p 40 #[.int .i64 g.vars,.slice Aa na ca,.int .i64 g.nodes,.int .i64 g.start,.int .i64 g.last,.slice (some ⟨eb,eo,none⟩) ne ce])∧Hid (Bk wx q 40 #[.int .i64 g.vars,.slice Aa na ca,.int .i64 g.nodes,.int .i64 g.start,.int .i64 g.last,.slice (some ⟨eb,eo,none⟩) ne ce])∧Hid (Fr NoT w4 wx∧w4.heap.size≤p∧w4.heap.size≤q∧p≠q∧p < w4.heap.size+2∧q < w4.heap.size+2))
 case first=>
  go_region
  all_goals
   go_wp2_with fail
   go_meet
   have hb:=bk_two w4 #[.int .i64 g.vars,.slice Aa na ca,.int .i64 g.nodes,.int .i64 g.start,.int .i64 g.last,.slice (some ⟨eb,eo,none⟩) ne ce] #[.int .i64 g.vars,.slice Aa na ca,.int .i64 g.nodes,.int .i64 g.start,.int .i64 g.last,.slice (some ⟨eb,eo,none⟩) ne ce] 40 40
   have h0:=(hb.1.fr0 ((Fr.refl _ _).drew))
   have h1:=(hb.2.fr0 ((Fr.refl _ _).drew))
   have hf:=(((Fr.refl NoT w4).alloc (.cells #[.int .i64 g.vars,.slice Aa na ca,.int .i64 g.nodes,.int .i64 g.start,.int .i64 g.last,.slice (some ⟨eb,eo,none⟩) ne ce] 40)).alloc (.cells #[.int .i64 g.vars,.slice Aa na ca,.int .i64 g.nodes,.int .i64 g.start,.int .i64 g.last,.slice (some ⟨eb,eo,none⟩) ne ce] 40)).drew
   first
    |exact⟨_,_,rfl,rfl,Lib.hid h0,Lib.hid h1,Lib.hid ⟨hf,by omega,by omega,by omega,by omega,by omega⟩⟩
    |exact⟨_,_,rfl,rfl,Lib.hid h1,Lib.hid h0,Lib.hid ⟨hf,by omega,by omega,by omega,by omega,by omega⟩⟩
 case rest=>
  obtain⟨p,q,rfl,rfl,hp,hq,hfw⟩:=hcut
  obtain⟨hfw,hp1,hq1,hpq,hp2,hq2⟩:=hfw.out
  have HBP:=hp
  have HBQ:=hq
  have HFC:=Lib.hid hfw
  have z5p:=hp.out.frozen 5
  have z5q:=hq.out.frozen 5
  have lp:=hp.out.lt
  have lq:=hq.out.lt
  have c5p:=hp.out.cell 5
  have c5q:=hq.out.cell 5
  simp only[getsL]at c5p c5q
  obtain⟨w5,hw5⟩:∃y,y=(wc.setCell ⟨p,5,none⟩ (.slice none 0 0)).setCell ⟨q,5,none⟩ (.slice none 0 0):=⟨_,rfl⟩
  have hb5p:Bk w5 p 40 #[.int .i64 g.vars,.slice Aa na ca,.int .i64 g.nodes,.int .i64 g.start,.int .i64 g.last,.slice none 0 0]:=by
   have:=((HBP.out.set_ 5 (.slice none 0 0)).far (p:=⟨q,5,none⟩) hpq (.slice none 0 0))
   rw[hw5];simpa using this
  have hb5q:Bk w5 q 40 #[.int .i64 g.vars,.slice Aa na ca,.int .i64 g.nodes,.int .i64 g.start,.int .i64 g.last,.slice none 0 0]:=by
   have:=((HBQ.out.far (p:=⟨p,5,none⟩) (fun e=>hpq e.symm) (.slice none 0 0)).set_ 5 (.slice none 0 0))
   rw[hw5];simpa using this
  have hf5:Fr NoT w4 w5:=by rw[hw5];exact(HFC.out.high hp1 _ _).high hq1 _ _
  have hg5:Bk w5 w.heap.size 40 #[.int .i64 g.vars,.slice Aa na ca,.int .i64 g.nodes,.int .i64 g.start,.int .i64 g.last,.slice (some ⟨eb,eo,none⟩) ne ce]:=HK4.out.fr0 hf5
  have gk4:=HK4.out.lt
  have HW5:=Lib.hid hw5
  have HP5:=Lib.hid hb5p
  have HQ5:=Lib.hid hb5q
  have HF5:=Lib.hid hf5
  have gc2:=hg5.cell 2
  have gc3:=hg5.cell 3
  have gc4:=hg5.cell 4
  have gl:=hg5.lt
  have qz2:=hb5q.frozen 2
  have qz3:=hb5q.frozen 3
  have qz4:=hb5q.frozen 4
  have qc2:=hb5q.cell 2
  have qc3:=hb5q.cell 3
  have qc4:=hb5q.cell 4
  have ql:=hb5q.lt
  have n1:¬w.heap.size=q:=by omega
  have n2:¬q=w.heap.size:=by omega
  simp only[getsL]at gc2 gc3 gc4 qc2 qc3 qc4
  clear hp hq hfw gc0 gc1 gc5 hw5 hb5p hb5q hf5 hg5
  go_wp2_with fail
  rw[←HW5.out]
  clear c5p c5q z5p z5q lp lq HBP HBQ HFC
  go_cut [6,7] (fun s6 s7 wx=>s6= .pointer (some ⟨p,0,none⟩)∧s7= .pointer (some ⟨q,0,none⟩)∧Hid (LsS w4 w.heap.size (w4.heap.size+2) p q (.int .i64 g.vars) (.slice Aa na ca) (.int .i64 g.nodes) (.int .i64 g.start) (.int .i64 g.last) (.int .i64 g.vars) (.slice Aa na ca) (.int .i64 (g.nodes+1)) (.int .i64 (g.start+1)) (.int .i64 (g.last+1)) (.slice none 0 0) (.slice none 0 0) [] [] wx))
  case first=>
   go_region
   all_goals
    go_wp2_with fail
    go_meet
    refine⟨rfl,rfl,Lib.hid ⟨(((HF5.out.high hq1 _ _).high hq1 _ _).high hq1 _ _).drew,?_,?_,⟨hp1,hq1,hp2,hq2,hpq⟩,⟨[],World.ownsRow_nil _ _ _ _,rfl⟩,⟨[],World.ownsRow_nil _ _ _ _,rfl⟩,fun g e=>by simp[Value.ownBlock]at e⟩⟩
    ·exact(((HP5.out.far (p:=⟨q,2,none⟩) hpq _).far (p:=⟨q,3,none⟩) hpq _).far (p:=⟨q,4,none⟩) hpq _).fr0 ((Fr.refl _ _).drew)
    ·have:=(((HQ5.out.set_ 2 (.int .i64 (g.nodes+1))).set_ 3 (.int .i64 (g.start+1))).set_ 4 (.int .i64 (g.last+1))).fr0 ((Fr.refl _ _).drew)
     simpa using this
  case rest=>
   obtain⟨rfl,rfl,hls⟩:=hcut
   have HLS:=hls
   clear hls gc2 gc3 gc4 gl qz2 qz3 qz4 qc2 qc3 qc4 ql
   go_wp2_with fail
   go_loopw [8] (fun i wr=>∃k:Nat,k≤ne∧i= .int .i64 k∧∃v u,Hid (LsS w4 w.heap.size (w4.heap.size+2) p q (.int .i64 g.vars) (.slice Aa na ca) (.int .i64 g.nodes) (.int .i64 g.start) (.int .i64 g.last) (.int .i64 g.vars) (.slice Aa na ca) (.int .i64 (g.nodes+1)) (.int .i64 (g.start+1)) (.int .i64 (g.last+1)) v u (lessE (g.edges.take k) xa.from_) ((g.edges.take k).map Ed.up) wr)) (fun i _=>ne - (intOf i).toNat)
   case atStart=>exact⟨0,Nat.zero_le _,rfl,_,_,HLS⟩
   case round=>
    obtain⟨k,hk,rfl,v,u,hb⟩:=hrel
    have hbk:=HK4.out.fr0 hb.out.fr
    have gc5:=hbk.cell 5
    have gl:=hbk.lt
    simp only[getsL]at gc5
    by_cases hlt:k < ne
    ·obtain⟨e,he⟩:∃x,g.edges[k]?=some x:=⟨_,List.getElem?_eq_getElem (by rw[←HNE.out];exact hlt)⟩
     obtain⟨hbB,d0,d1,d2,d3,d4,⟨A5,c5,d5,hs5⟩,d6,hok⟩:=HAT.out.at_ he
     obtain⟨hbB2,y0,_⟩:=HAT.out.at_ HXA.out
     have hfr:=HF4.out.trans hb.out.fr
     obtain⟨l5,hl5⟩:∃l,l=e.args.len:=⟨_,rfl⟩
     rw[←hl5]at d5
     have e0:=(hfr.cell (p:=⟨eb,eo+k*7,none⟩) hbB id).trans d0
     have e1:=(hfr.cell (p:=⟨eb,eo+k*7+1,none⟩) hbB id).trans d1
     have e2:=(hfr.cell (p:=⟨eb,eo+k*7+2,none⟩) hbB id).trans d2
     have e3:=(hfr.cell (p:=⟨eb,eo+k*7+3,none⟩) hbB id).trans d3
     have e4:=(hfr.cell (p:=⟨eb,eo+k*7+4,none⟩) hbB id).trans d4
     have e5:=(hfr.cell (p:=⟨eb,eo+k*7+5,none⟩) hbB id).trans d5
     have e6:=(hfr.cell (p:=⟨eb,eo+k*7+6,none⟩) hbB id).trans d6
     have x0:=(hfr.cell (p:=⟨eb,eo+at0*7,none⟩) hbB id).trans y0
     have hel:eb < wr.heap.size:=Nat.lt_of_lt_of_le hbB hfr.size
     obtain⟨⟨f0,f1⟩,f2,f3⟩:=HED.out e (List.mem_of_getElem? he)
     have hge:(0:Int)≤(k:Int):=by omega
     have hge2:(0:Int)≤(at0:Int):=by omega
     have hltk:(k:Int) < (ne:Int):=by omega
     have hlta:(at0:Int) < (ne:Int):=by omega
     obtain⟨w7,hw7⟩:∃y,y=wr.alloc (.cells #[.int .i64 e.from_,.int .i64 e.to_,.int .u8 e.kind,.int .i64 e.n,.int .u8 e.cmp,.slice A5 l5 c5,.int .i64 e.at_] 47):=⟨_,rfl⟩
     have hf7:Fr NoT wr w7:=by rw[hw7];exact(Fr.refl _ _).alloc _
     have hk7:Bk w7 wr.heap.size 47 #[.int .i64 e.from_,.int .i64 e.to_,.int .u8 e.kind,.int .i64 e.n,.int .u8 e.cmp,.slice A5 l5 c5,.int .i64 e.at_]:=by rw[hw7];exact Bk.new _ _ _
     have HW7:=Lib.hid hw7
     have HF7:=Lib.hid hf7
     have HK7:=Lib.hid hk7
     have HL5:=Lib.hid hl5
     have HE:=Lib.hid he
     have HOK:=Lib.hid (And.intro hok ((hs5.keep (Same.of_fr HF4.out (Nat.le_refl _) fun _ h=>h.elim):ExSl w4 w.heap.size e.args A5 c5)))
     have xe0:=hk7.cell 0
     have xel:=hk7.lt
     simp only[getsL]at xe0
     have x7:=(hf7.cell (p:=⟨eb,eo+at0*7,none⟩) hel id).trans x0
     have g7:=(hf7.cell (p:=⟨w.heap.size,5,none⟩) gl id).trans gc5
     have gl7:w.heap.size < w7.heap.size:=Nat.lt_of_lt_of_le gl hf7.size
     have el7:eb < w7.heap.size:=Nat.lt_of_lt_of_le hel hf7.size
     clear hw7 hf7 hk7 hl5 he hok hs5 hbB hbB2 d0 d1 d2 d3 d4 d5 d6 y0 x0
     go_wp2_with fail
     rw[←HW7.out]
     clear e0 e1 e2 e3 e4 e5 e6
     go_cut [9,75] (fun s9 s75 wx=>s9= .pointer (some ⟨wr.heap.size,0,none⟩)∧Hid (s75= .bool (e.from_ != xa.from_))∧Hid (Fr NoT w7 wx))
     case first=>
      go_quiet (fail)
      go_wp2_with fail
      go_meet
      exact⟨rfl,Lib.hid rfl,Lib.hid ((Fr.refl _ _).drewN _)⟩
     case' rest=>
      obtain⟨rfl,hV,hfd⟩:=hcut
      have HVV:=hV
      have hwr:=HF7.out.trans hfd.out
      have HBD:=Lib.hid (hb.out.fr0 hwr)
      have HKX:=Lib.hid (HK7.out.fr0 hfd.out)
      have HUX:=Lib.hid (show u.ownBlock≠some wr.heap.size from fun h=>by
       obtain⟨cs,h1,_⟩:=hb.out.r2
       have:=(h1.lt _ h).2
       omega)
      have HVX:=Lib.hid (show v.ownBlock≠some wr.heap.size from fun h=>by
       obtain⟨cs,h1,_⟩:=hb.out.r1
       have:=(h1.lt _ h).2
       omega)
      have HLR:=Lib.hid (show w4.heap.size+2≤wr.heap.size from by
       have h1:=hb.out.bp.lt
       have h2:=hb.out.bq.lt
       have h3:=hb.out.lo
       omega)
      have hlen:(lessE (g.edges.take k) xa.from_).length ≤2048:=by
       have h1:=less_len (g.edges.take k) xa.from_
       have h2:=List.length_take_le k g.edges
       omega
      have hlen2:((g.edges.take k).map Ed.up).length ≤2048:=by
       have h2:=List.length_take_le k g.edges
       rw[List.length_map]
       omega
      clear hV xe0 xel x7 g7 gl7 el7 gc5 gl hel hfr hwr hfd hb
      go_wp2_with fail
      go_cut [9] (fun s9 wx=>s9= .pointer (some ⟨wr.heap.size,0,none⟩)∧∃v',Hid (LsS w4 w.heap.size (w4.heap.size+2) p q (.int .i64 g.vars) (.slice Aa na ca) (.int .i64 g.nodes) (.int .i64 g.start) (.int .i64 g.last) (.int .i64 g.vars) (.slice Aa na ca) (.int .i64 (g.nodes+1)) (.int .i64 (g.start+1)) (.int .i64 (g.last+1)) v' u (lessE (g.edges.take (k+1)) xa.from_) ((g.edges.take k).map Ed.up) wx)∧Hid (Bk wx wr.heap.size 47 #[.int .i64 e.from_,.int .i64 e.to_,.int .u8 e.kind,.int .i64 e.n,.int .u8 e.cmp,.slice A5 l5 c5,.int .i64 e.at_])∧Hid (v'.ownBlock≠some wr.heap.size))
     case first=>
      have htl:=take_less g.edges xa.from_ k e HE.out
      by_cases hx:e.from_=xa.from_
      ·rw[if_pos hx]at htl
       have HTL:=Lib.hid htl
       have z:(e.from_ != xa.from_)=false:=by simpa using hx
       have hV:=HVV.out
       rw[z]at hV
       subst hV
       clear htl hx
       go_wp2_with fail
       go_meet
       exact⟨rfl,v,Lib.hid (by rw[HTL.out];exact HBD.out),HKX,HVX⟩
      ·rw[if_neg hx]at htl
       have HTL:=Lib.hid htl
       have z:(e.from_ != xa.from_)=true:=by simpa using hx
       have hV:=HVV.out
       rw[z]at hV
       subst hV
       obtain⟨n1,hn1⟩:∃n,n=(lessE (g.edges.take k) xa.from_).length :=⟨_,rfl⟩
       obtain⟨cs1,hr1,hw1⟩:=HBD.out.r1
       have HR1:=Lib.hid (And.intro hr1 hw1)
       have HRR:=Lib.hid (fun(c:Array Value)=>(show(wc.alloc (.cells c 47)).ownsRow (w4.heap.size+2) 47 7 v n1 cs1 from by
        rw[hn1]
        exact ownsRow_frF hr1 ((Fr.refl _ _).alloc _)))
       have pc5:=HBD.out.bp.cell 5
       have pl:=HBD.out.bp.lt
       have xc0:=HKX.out.cell 0
       have xc1:=HKX.out.cell 1
       have xc2:=HKX.out.cell 2
       have xc3:=HKX.out.cell 3
       have xc4:=HKX.out.cell 4
       have xc5:=HKX.out.cell 5
       have xc6:=HKX.out.cell 6
       have xel:=HKX.out.lt
       simp only[getsL]at pc5 xc0 xc1 xc2 xc3 xc4 xc5 xc6
       have hz4:w4.heap.size+2≤wc.heap.size:=by
        have h1:=HLR.out
        omega
       have HN1:=Lib.hid hn1
       rw[←hn1]at hlen
       clear htl hx hn1 hr1 hw1
       go_wp2_with (at_builtin;refine wpList_append_lies _ rfl _ _ 38 rfl (w4.heap.size+2) 47 i0 (.agg #[.int .i64 0,.int .i64 0,.int .u8 0,.int .i64 0,.int .u8 0,.slice none 0 0,.int .i64 0]) 7 72 Tryz.underlying38 HI.out.1 HI.out.2.1 HI.out.2.2.1 HI.out.2.2.2 rfl (by decide) v n1 cs1 rfl (HRR.out _) ⟨wc.heap.size,0,none⟩ 1 1 [.int .i64 e.from_,.int .i64 e.to_,.int .u8 e.kind,.int .i64 e.n,.int .u8 e.cmp,.slice A5 l5 c5,.int .i64 e.at_] rfl rfl ?c1 ?c2 (by decide) ?c3 ?c4 ?c5 (wc.heap.size+1) ?c6 ?_)
       case c1=>exact(Bk.new_at wc 47 ([.int .i64 e.from_,.int .i64 e.to_,.int .u8 e.kind,.int .i64 e.n,.int .u8 e.cmp,.slice A5 l5 c5,.int .i64 e.at_]:List Value).toArray rfl).newsL
       case c2=>
        intro u hu
        simp only[List.mem_cons,List.not_mem_nil,or_false]at hu
        rcases hu with rfl|rfl|rfl|rfl|rfl|rfl|rfl<;>rfl
       case c3=>unfold maxLen;omega
       case c4=>omega
       case c5=>simp;omega
       case c6=>simp
       intro gg cap w9 hown hgrow hsp hlt9
       have hvn:(Value.slice (some ⟨gg,0,none⟩) (n1+1) cap).ownBlock =v.ownBlock∨(Value.slice (some ⟨gg,0,none⟩) (n1+1) cap).ownBlock =some (wc.alloc (.cells #[.int .i64 e.from_,.int .i64 e.to_,.int .u8 e.kind,.int .i64 e.n,.int .u8 e.cmp,.slice A5 l5 c5,.int .i64 e.at_] 47)).heap.size :=by
        rcases hsp with e|e
        ·exact .inl e.symm
        ·exact .inr (by rw[e];simp[Value.ownBlock])
       have hnp:some p≠v.ownBlock:=fun e=>by
        have h1:=(HR1.out.1.lt p e.symm).1
        omega
       have hnx:some wr.heap.size≠v.ownBlock:=fun e=>HVX.out e.symm
       have f9:=(hgrow.frozen_far ⟨p,5,none⟩ (Nat.lt_of_lt_of_le pl (by simp)) hnp).trans ((HBD.out.bp.alloc _).frozen 5)
       have l9:p < w9.heap.size:=Nat.lt_of_lt_of_le pl (Nat.le_trans (by simp) hgrow.size)
       have q9:=(hgrow.cell_far ⟨p,5,none⟩ (Nat.lt_of_lt_of_le pl (by simp)) hnp).trans ((HBD.out.bp.alloc _).cell 5)
       have hfa:Fr NoT wc (wc.alloc (.cells #[.int .i64 e.from_,.int .i64 e.to_,.int .u8 e.kind,.int .i64 e.n,.int .u8 e.cmp,.slice A5 l5 c5,.int .i64 e.at_] 47)):=(Fr.refl _ _).alloc _
       have hpush:=HBD.out.push (e:=e) (zs:= [.int .i64 e.from_,.int .i64 e.to_,.int .u8 e.kind,.int .i64 e.n,.int .u8 e.cmp,.slice A5 l5 c5,.int .i64 e.at_]) HR1.out.1 HR1.out.2 hfa (fun W S=>⟨A5,c5,by rw[HL5.out],HOK.out.1,HOK.out.2⟩) (by rw[←HN1.out];exact hown) hgrow hvn
       have hk9:Bk w9 wr.heap.size 47 #[.int .i64 e.from_,.int .i64 e.to_,.int .u8 e.kind,.int .i64 e.n,.int .u8 e.cmp,.slice A5 l5 c5,.int .i64 e.at_]:=(hgrow.block wr.heap.size (Nat.lt_of_lt_of_le xel (by simp)) hnx).trans (HKX.out.fr0 hfa)
       have hv9:(Value.slice (some ⟨gg,0,none⟩) (n1+1) cap).ownBlock ≠some wr.heap.size:=fun e=>by
        rcases hvn with h|h
        ·rw[h]at e;exact HVX.out e
        ·rw[h]at e
         have:=Option.some.inj e
         simp at this
         omega
       have HPU:=Lib.hid hpush
       have HK9:=Lib.hid hk9
       have HV9:=Lib.hid hv9
       have hpx:wr.heap.size≠p:=by have:=HLR.out;omega
       simp only[getsL]at q9
       clear hown hgrow hsp hlt9 hnp hnx hfa hpush hk9 hv9 pc5 xc0 xc1 xc2 xc3 xc4 xc5 xc6
       go_wp2_with fail
       go_meet
       exact⟨rfl,_,Lib.hid (by rw[HTL.out];exact HPU.out),Lib.hid (HK9.out.far (p:=⟨p,5,none⟩) hpx _),HV9⟩
     case rest=>
      obtain⟨rfl,v1,hls,hkx,hv1⟩:=hcut
      have HLS1:=hls
      have HKX1:=hkx
      have HV1:=hv1
      obtain⟨w8,hw8⟩:∃y,y=(wc.setCell ⟨wr.heap.size,0,none⟩ (.int .i64 (e.from_+1))).setCell ⟨wr.heap.size,1,none⟩ (.int .i64 (e.to_+1)):=⟨_,rfl⟩
      have hf8:Fr (fun i=>i=wr.heap.size) wc w8:=by rw[hw8];exact Fr.own (Fr.own (Fr.refl _ _) _ _) _ _
      have hk8:Bk w8 wr.heap.size 47 #[.int .i64 (e.from_+1),.int .i64 (e.to_+1),.int .u8 e.kind,.int .i64 e.n,.int .u8 e.cmp,.slice A5 l5 c5,.int .i64 e.at_]:=by
       have:=(hkx.out.set_ 0 (.int .i64 (e.from_+1))).set_ 1 (.int .i64 (e.to_+1))
       rw[hw8];simpa using this
      have hlo:=hls.out.lo
      have hlr:=HLR.out
      have hls8:=hls.out.off hf8 (by omega) (by omega) (by omega) hv1.out HUX.out
      obtain⟨n2,hn2⟩:∃n,n=((g.edges.take k).map Ed.up).length :=⟨_,rfl⟩
      obtain⟨cs2,hr2,hw2⟩:=hls8.r2
      have HR2:=Lib.hid (And.intro hr2 hw2)
      have HRR:=Lib.hid (fun(c:Array Value)=>(show(((wc.setCell ⟨wr.heap.size,0,none⟩ (.int .i64 (e.from_+1))).setCell ⟨wr.heap.size,1,none⟩ (.int .i64 (e.to_+1))).alloc (.cells c 47)).ownsRow (w4.heap.size+2) 47 7 u n2 cs2 from by
       rw[hn2,←hw8]
       exact ownsRow_frF hr2 ((Fr.refl _ _).alloc _)))
      have xz0:=hkx.out.frozen 0
      have xz1:=hkx.out.frozen 1
      have xc0:=hkx.out.cell 0
      have xc1:=hkx.out.cell 1
      have xc2:=hkx.out.cell 2
      have xc3:=hkx.out.cell 3
      have xc4:=hkx.out.cell 4
      have xc5:=hkx.out.cell 5
      have xc6:=hkx.out.cell 6
      have xcl:=hkx.out.lt
      have qc5:=hls.out.bq.cell 5
      have ql:=hls.out.bq.lt
      have nq1:¬q=wr.heap.size:=by omega
      have nq2:¬wr.heap.size=q:=by omega
      simp only[getsL]at qc5 xc0 xc1 xc2 xc3 xc4 xc5 xc6
      have hz4:w4.heap.size+2≤w8.heap.size:=by
       have h1:=hf8.size
       omega
      have HN2:=Lib.hid hn2
      have HLS8:=Lib.hid hls8
      have HW8:=Lib.hid hw8
      have HF8:=Lib.hid hf8
      rw[←hn2]at hlen2
      clear hls hkx hv1 hw8 hf8 hk8 hls8 hn2 hr2 hw2 hlo
      go_wp2_with (at_builtin;refine wpList_append_lies _ rfl _ _ 38 rfl (w4.heap.size+2) 47 i0 (.agg #[.int .i64 0,.int .i64 0,.int .u8 0,.int .i64 0,.int .u8 0,.slice none 0 0,.int .i64 0]) 7 72 Tryz.underlying38 HI.out.1 HI.out.2.1 HI.out.2.2.1 HI.out.2.2.2 rfl (by decide) u n2 cs2 rfl (HRR.out _) ⟨wc.heap.size,0,none⟩ 1 1 [.int .i64 (e.from_+1),.int .i64 (e.to_+1),.int .u8 e.kind,.int .i64 e.n,.int .u8 e.cmp,.slice A5 l5 c5,.int .i64 e.at_] rfl rfl ?c1 ?c2 (by decide) ?c3 ?c4 ?c5 (wc.heap.size+1) ?c6 ?_)
      case c1=>exact(Bk.new_at _ 47 ([.int .i64 (e.from_+1),.int .i64 (e.to_+1),.int .u8 e.kind,.int .i64 e.n,.int .u8 e.cmp,.slice A5 l5 c5,.int .i64 e.at_]:List Value).toArray (by simp)).newsL
      case c2=>
       intro u hu
       simp only[List.mem_cons,List.not_mem_nil,or_false]at hu
       rcases hu with rfl|rfl|rfl|rfl|rfl|rfl|rfl<;>rfl
      case c3=>unfold maxLen;omega
      case c4=>omega
      case c5=>simp;omega
      case c6=>simp
      intro gg cap w9 hown hgrow hsp hlt9
      rw[←HW8.out]at hgrow
      have hfa:Fr NoT w8 (w8.alloc (.cells #[.int .i64 (e.from_+1),.int .i64 (e.to_+1),.int .u8 e.kind,.int .i64 e.n,.int .u8 e.cmp,.slice A5 l5 c5,.int .i64 e.at_] 47)):=(Fr.refl _ _).alloc _
      have hzz:w8.heap.size=wc.heap.size:=by rw[HW8.out];simp
      have hvn:(Value.slice (some ⟨gg,0,none⟩) (n2+1) cap).ownBlock =u.ownBlock∨(Value.slice (some ⟨gg,0,none⟩) (n2+1) cap).ownBlock =some (w8.alloc (.cells #[.int .i64 (e.from_+1),.int .i64 (e.to_+1),.int .u8 e.kind,.int .i64 e.n,.int .u8 e.cmp,.slice A5 l5 c5,.int .i64 e.at_] 47)).heap.size :=by
       rcases hsp with e|e
       ·exact .inl e.symm
       ·exact .inr (by rw[e];simp[Value.ownBlock,hzz])
      have hnq:some q≠u.ownBlock:=fun e=>by
       have h1:=(HR2.out.1.lt q e.symm).1
       omega
      have ql8:q < w8.heap.size:=by omega
      have f9:=(hgrow.frozen_far ⟨q,5,none⟩ (Nat.lt_of_lt_of_le ql8 (by simp)) hnq).trans ((HLS8.out.bq.alloc _).frozen 5)
      have l9:q < w9.heap.size:=Nat.lt_of_lt_of_le ql8 (Nat.le_trans (by simp) hgrow.size)
      have q9:=(hgrow.cell_far ⟨q,5,none⟩ (Nat.lt_of_lt_of_le ql8 (by simp)) hnq).trans ((HLS8.out.bq.alloc _).cell 5)
      have hpush:=HLS8.out.swap.push (e:=e.up) (zs:= [.int .i64 (e.from_+1),.int .i64 (e.to_+1),.int .u8 e.kind,.int .i64 e.n,.int .u8 e.cmp,.slice A5 l5 c5,.int .i64 e.at_]) HR2.out.1 HR2.out.2 hfa (fun W S=>⟨A5,c5,by rw[HL5.out];rfl,⟨⟨by show -9223372036854775808≤e.from_+1;omega,by show e.from_+1≤9223372036854775807;omega⟩,⟨by show -9223372036854775808≤e.to_+1;omega,by show e.to_+1≤9223372036854775807;omega⟩,HOK.out.1.2.2⟩,HOK.out.2⟩) (by rw[←HN2.out];exact hown) hgrow hvn
      have HPU:=Lib.hid hpush.swap
      simp only[getsL]at q9
      clear hown hgrow hsp hlt9 hnq hfa hpush hvn qc5 xc0 xc1 xc2 xc3 xc4 xc5 xc6 hzz
      go_wp2_with fail
      go_roundw
      case rel=>
       have htm:(g.edges.take (k+1)).map Ed.up=(g.edges.take k).map Ed.up++ [e.up]:=by
        rw[List.take_add_one,HE.out]
        simp
       exact⟨k+1,by omega,by go_num,v1,.slice (some ⟨gg,0,none⟩) (n2+1) cap,Lib.hid (by rw[htm];exact HPU.out)⟩
      case measure=>simp[intOf];omega
    ·have hkn:k=ne:=by omega
     subst hkn
     have hlt':¬(k:Int) < (k:Int):=by omega
     have htk:g.edges.take k=g.edges:=List.take_of_length_le (by rw[←HNE.out];exact Nat.le_refl _)
     have hb':=hb.out
     rw[htk]at hb'
     obtain⟨A1,c1,rfl,hs1⟩:=hb'.slice HF4.out.size (by have:=less_len g.edges xa.from_;rw[←HNE.out]at this;omega)
     obtain⟨A2,c2,rfl,hs2⟩:=hb'.swap.slice HF4.out.size (by rw[List.length_map,←HNE.out];omega)
     have hfw:=HF4.out.trans hb'.fr
     have m1:mayG ⟨g.vars,g.arrays,g.nodes,g.start,g.last,lessE g.edges xa.from_⟩=true:=mayG_less xa.from_ HMG.out
     have m2:mayG ⟨g.vars,g.arrays,g.nodes+1,g.start+1,g.last+1,g.edges.map Ed.up⟩=true:=mayG_up HMG.out (by omega)
     obtain⟨n1,hn1⟩:∃n,n=(lessE g.edges xa.from_).length :=⟨_,rfl⟩
     obtain⟨n2,hn2⟩:∃n,n=(g.edges.map Ed.up).length :=⟨_,rfl⟩
     have H1:=Lib.hid ((HCA.out (lessE g.edges xa.from_) g.nodes g.start g.last A1 c1 wr hfw hs1).mono (fun e w' h=>(show e= .returned (.int .i64 0)∧Fr NoT wr w' from⟨by rw[h.1,m1];rfl,Fr.below h.2⟩)))
     have H2:=Lib.hid (fun(W:World) (hf:Fr NoT wr W)=>(HCA.out (g.edges.map Ed.up) (g.nodes+1) (g.start+1) (g.last+1) A2 c2 W (hfw.trans hf) ((hs2.keep (Same.of_fr hf (Nat.le_refl _) fun _ h=>h.elim)).up hf.size)).mono (fun e w' h=>(show e= .returned (.int .i64 0)∧Fr NoT W w' from⟨by rw[h.1,m2];rfl,Fr.below h.2⟩)))
     rw[←hn1]at H1 hb'
     rw[←hn2]at H2 hb'
     have HBB:=Lib.hid hb'
     have HFW:=Lib.hid hfw
     have pc0:=hb'.bp.cell 0
     have pc1:=hb'.bp.cell 1
     have pc2:=hb'.bp.cell 2
     have pc3:=hb'.bp.cell 3
     have pc4:=hb'.bp.cell 4
     have pc5:=hb'.bp.cell 5
     have pcl:=hb'.bp.lt
     simp only[getsL]at pc0 pc1 pc2 pc3 pc4 pc5
     clear hb hb' hs1 hs2 hfw m1 m2 hn1 hn2 htk
     go_wp2_with fail
     go_at_call 25
     refine H1.out.mono ?_
     rintro _ wy ⟨rfl,hfy⟩
     have hqy:=HBB.out.bq.fr0 hfy
     have HFY:=Lib.hid hfy
     have qc0:=hqy.cell 0
     have qc1:=hqy.cell 1
     have qc2:=hqy.cell 2
     have qc3:=hqy.cell 3
     have qc4:=hqy.cell 4
     have qc5:=hqy.cell 5
     have qcl:=hqy.lt
     simp only[getsL]at qc0 qc1 qc2 qc3 qc4 qc5
     clear hfy hqy pc0 pc1 pc2 pc3 pc4 pc5 pcl
     go_wp2_with fail
     go_at_call 25
     refine(H2.out wy HFY.out).mono ?_
     rintro _ wz ⟨rfl,hfz⟩
     have HFZ:=Lib.hid hfz
     clear hfz qc0 qc1 qc2 qc3 qc4 qc5 qcl
     go_wp2_with fail
     go_ret
     exact⟨rfl,((HFW.out.trans HFY.out).trans HFZ.out).plain⟩
 -- </GOOD>
end Go.Proofs.YtobegfbdedgmpaaGreatDoor
