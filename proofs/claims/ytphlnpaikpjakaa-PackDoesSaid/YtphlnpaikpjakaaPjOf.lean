/-
  facetroomref26.Of: a graph's packs.
-/
import Derived.Test.YtphlnpaikpjakaaPjOne3
set_option linter.unusedVariables false
set_option linter.unusedSimpArgs false
namespace Go.Proofs.Ytphlnpaikpjakaa
open Go.RowKit Go.Shelf

theorem run_mkI (n:Nat) (hn:n≤100000) (w:World):(Instr.makeSlice 22 (.int .i64 n) (.int .i64 n)).run Try.prog w= .ok (.slice (some ⟨w.heap.size,0,none⟩) n n) (w.alloc (.cells (List.replicate n (Value.int .i64 0)).toArray 3)):=by
 obtain⟨i0,hi,hz0,hz1,hz2⟩:=info_parts infoInt7
 have h:=run_makeSlice (P:=Try.prog) w 22 3 i0 (.int .i64 0) Try.underlying22 hi hz0 .i64 .i64 (n:Int) n (by omega) (Int.le_refl _) (by rw[hz1];simp;omega) (by rw[hz2];omega) (by omega)
 simp only[Int.toNat_natCast,hz1,Nat.mul_one]at h
 have e:madeCells (Value.int .i64 0).cells n=(List.replicate n (Value.int .i64 0)).toArray :=by
  apply Array.ext
  ·simp[size_madeCells]
  ·intro j h1 h2
   have e1:j % 1=0:=Nat.mod_one j
   simp[madeCells,Value.cells,e1]
 rw[e]at h
 exact h
def idK (v k:Nat):List Int:=(List.range v).map fun(i:Nat)=>if i < k then(i:Int)else 0
theorem idK_succ {v k:Nat} (hk:k < v):idK v (k+1)=(idK v k).set k (k:Int):=by
 unfold idK
 refine List.ext_getElem? fun i=>?_
 rw[List.getElem?_set,List.getElem?_map,List.getElem?_map,List.length_map,List.length_range]
 by_cases hi:i < v
 ·rw[List.getElem?_range hi,Option.map_some,Option.map_some]
  by_cases e:k=i
  ·subst e;simp[hk]
  ·rw[if_neg e]
   congr 1
   by_cases h1:i < k
   ·rw[if_pos h1,if_pos (by omega)]
   ·rw[if_neg h1,if_neg (by omega)]
 ·rw[List.getElem?_eq_none (by simp;omega)]
  rw[if_neg (by omega)]
  rfl
theorem idK_all (v:Nat):idK v v=hdP (pk0 v):=by
 rw[hdP_pk0]
 unfold idK
 refine List.map_congr_left fun i hi=>?_
 rw[if_pos (List.mem_range.1 hi)]
theorem idK_row (w:World) (v:Nat) (hv:v≤100000):(w.alloc (.cells (List.replicate v (Value.int .i64 0)).toArray 3)).ownsRow w.heap.size 3 1 (.slice (some ⟨w.heap.size,0,none⟩) v v) v (intZ (idK v 0)):=by
 have e:intZ (idK v 0)=List.replicate v (Value.int .i64 0):=by
  unfold intZ idK
  rw[List.map_map]
  refine List.ext_getElem? fun i=>?_
  rw[List.getElem?_map,List.getElem?_replicate]
  by_cases hi:i < v
  ·rw[List.getElem?_range hi,if_pos hi];simp
  ·rw[List.getElem?_eq_none (by simp;omega),if_neg hi];rfl
 rw[e]
 refine⟨by simp,.inr ⟨w.heap.size,v,(List.replicate v (Value.int .i64 0)).toArray,rfl,lrq _,heap_alloc_new w _,lrq _,by unfold maxLen;omega,by simp,?_⟩⟩
 simp
theorem PkI.hd_in {v:Nat} {most:Int} {P:List (List Int)} (h:PkI v most P):(hdP P).length =v∧∀x∈hdP P,0≤x∧x < (v:Int):=by
 refine⟨by unfold hdP;rw[List.length_map,h.len],fun x hx=>?_⟩
 unfold hdP at hx
 obtain⟨l,hl,rfl⟩:=List.mem_map.1 hx
 obtain⟨i,hi⟩:=List.getElem?_of_mem hl
 have ho:=h.own i l hi
 cases l with
 |nil=>simp at ho
 |cons a l=>
  obtain⟨h0,h1,_⟩:=h.mem i _ hi a (List.mem_cons_self ..)
  exact⟨h0,h1⟩
theorem isl_rown {w:World} {L:Nat} {l:List Int} {y:Value} (h:RowN w L l y) (h64:∀x∈l,in64 x):∃A c,y= .slice A l.length c∧IsSl w w.heap.size l A c:=(isSl_row h (lrq _) h64).2
def packK (f:List Int) (i k:Nat):List Int:=((List.range k).filter fun x=>f.getD x 0==(i:Int)).map fun(x:Nat)=>(x:Int)
theorem packK_succ (f:List Int) (i k:Nat):packK f i (k+1)=packK f i k++(if f.getD k 0==(i:Int)then [(k:Int)]else []):=by
 unfold packK
 rw[List.range_succ,List.filter_append,List.map_append]
 congr 1
 rw[List.filter_cons,List.filter_nil]
 split<;>rfl
theorem packK_len (f:List Int) (i:Nat):∀k,(packK f i k).length ≤k
 |0=>by simp[packK]
 |k+1=>by
  have:=packK_len f i k
  rw[packK_succ,List.length_append]
  split<;>simp<;>omega
def outK (f:List Int) (k:Nat):List (List Int):=((List.range k).filter fun i=>f.getD i 0==(i:Int)).map (packL f)
theorem outK_succ (f:List Int) (k:Nat):outK f (k+1)=outK f k++(if f.getD k 0==(k:Int)then [packL f k]else []):=by
 unfold outK
 rw[List.range_succ,List.filter_append,List.map_append]
 congr 1
 rw[List.filter_cons,List.filter_nil]
 split<;>rfl
theorem outK_len (f:List Int):∀k,(outK f k).length ≤k
 |0=>by simp[outK]
 |k+1=>by
  have:=outK_len f k
  rw[outK_succ,List.length_append]
  split<;>simp<;>omega
set_option maxRecDepth 100000 in
set_option maxHeartbeats 6400000 in
theorem ofR_any (g:Gr) (Aa Ae:Option Addr) (ca ce v:Nat) (most:Int) (w:World) (hg:GrSl w w.heap.size g Aa ca Ae ce) (hv:g.vars=(v:Int)) (hv32:v≤32) (hm:mayG g=true) (h1:1≤most) (hsc:∀e∈g.edges,(scalE e).length ≤100000):
  Calls Try.prog 20 #[grV g.vars Aa g.arrays.length ca g.nodes g.start g.last Ae g.edges.length ce,.int .i64 most] w (fun e w'=>∃u,e= .returned u∧LsM w' w'.heap.size (pkOut (pkRun most (pk0 v) (g.edges.map scalE)) v) u∧Below w.heap.size w w'):=by
 have hle:=leq9 hg.edges.1 hg.edges.2.1
 unfold grV
 obtain⟨na,hna⟩:=nmq g.arrays.length
 obtain⟨ne,hne⟩:=nmq g.edges.length
 rw[←hna,←hne]
 rw[←hne]at hle
 rw[hv]
 obtain⟨w1,hw1⟩:=nmq (w.alloc (.cells #[.int .i64 (v:Int),.slice Aa na ca,.int .i64 g.nodes,.int .i64 g.start,.int .i64 g.last,.slice Ae ne ce] 25))
 have hb1:Below w.heap.size w w1:=by rw[hw1];exact(Below.refl _ _).alloc (lrq _) _
 have hk1:Bk w1 w.heap.size 25 #[.int .i64 (v:Int),.slice Aa na ca,.int .i64 g.nodes,.int .i64 g.start,.int .i64 g.last,.slice Ae ne ce]:=by rw[hw1];exact Bk.new _ _ _
 have hmk:=run_mkI v (by omega) w1
 obtain⟨w2,hw2⟩:=nmq (w1.alloc (.cells (List.replicate v (Value.int .i64 0)).toArray 3))
 rw[←hw2]at hmk
 have hr2:=idK_row w1 v (by omega)
 rw[←hw2]at hr2
 have hb2:Below w1.heap.size w1 w2:=by rw[hw2];exact(Below.refl _ _).alloc (lrq _) _
 obtain⟨i0,hi,hz0,hz1,hz2⟩:=info_parts infoInt7
 have HI:=hdq (aiq hi (aiq hz0 (aiq hz1 hz2)))
 have HIN:=hdq (scalE_in hm)
 have HPK:=hdq (fun(k:Nat)=>(PkI.run (v:=v) (most:=most) ((g.edges.take k).map scalE) (PkI.zero h1) fun sc hsc n hn=>by
  obtain⟨e,he,rfl⟩:=List.mem_map.1 hsc
  have:=scalE_in hm e (List.mem_of_mem_take he) n hn
  omega:PkI v most (pkRun most (pk0 v) ((g.edges.take k).map scalE))))
 have HG:=hdq hg.edges
 have HNE:=hdq hne
 have HW1:=hdq hw1
 have HB1:=hdq hb1
 have HK1:=hdq hk1
 have hs1:w1.heap.size=w.heap.size+1:=by rw[hw1];simp
 rw[hs1]at hr2 hb2
 have HR2:=hdq hr2
 have HB2:=hdq hb2
 have HSC:=hdq hsc
 have HV:=hdq hv
 have HS1:=hdq hs1
 clear hg hna hne hb1 hk1 hr2 hb2 hsc hi hz0 hz1 hz2 hv hm hw2 hs1
 go_enter Try.func20,Try.ntmps20
 rw[hw1]at hmk
 go_wp2_with fail
 go_loopw [6] (fun i wr=>∃k:Nat,k≤v∧i= .int .i64 k∧Hid (wr.ownsRow (w.heap.size+1) 3 1 (.slice (some ⟨(w.heap.size+1),0,none⟩) v v) v (intZ (idK v k))∧Below (w.heap.size+1) w1 wr)) (fun i _=>v - (intOf i).toNat)
 case atStart=>exact⟨0,Nat.zero_le _,rfl,HR2.out,HB2.out⟩
 case round=>
  obtain⟨k,hk,rfl,hI⟩:=hrel
  obtain⟨hR,hB⟩:=hI.out
  by_cases hlt:k < v
  ·have r0:=hR.cellAt k (by omega)
   have r1:=hR.frozenAt k
   have rl:(w.heap.size+1) < wr.heap.size:=(own_lt hR rfl).2
   rw[intZ,List.getElem?_map,idK,List.getElem?_map,List.getElem?_range hlt,Option.map_some,Option.map_some,if_neg (Nat.lt_irrefl _)]at r0
   have hst:=(hR.stored k (.int .i64 (k:Int))).1
   have e:intZ (idK v (k+1))=(intZ (idK v k)).set k (.int .i64 (k:Int)):=by unfold intZ;rw[idK_succ hlt,List.map_set]
   rw[←e]at hst
   have HN:=hdq (aiq hst (hB.setCell (p:=⟨(w.heap.size+1),k,none⟩) (lrq _) (.int .i64 (k:Int))))
   have hlt2:(k:Int) < (v:Int):=by omega
   clear hI hR hB hst e
   go_wp2_with fail
   go_roundw
   case rel=>exact⟨k+1,by omega,by go_num,HN⟩
   case measure=>simp[intOf];omega
  ·obtain rfl:k=v:=by omega
   have hf0:RowN wr (w.heap.size+1) (hdP (pk0 k)) (.slice (some ⟨w.heap.size+1,0,none⟩) k k):=by
    unfold RowN
    rw[show(hdP (pk0 k)).length =k from by unfold hdP pk0;simp,←idK_all]
    exact hR
   have HS0:=hdq (aiq hf0 hB)
   clear hI hR hB hf0
   go_wp2_with fail
   go_loopw [5,7] (fun y i wr=>∃q:Nat,q≤ne∧i= .int .i64 q∧Hid (RowN wr (w.heap.size+1) (hdP (pkRun most (pk0 k) ((g.edges.take q).map scalE))) y∧Below (w.heap.size+1) w1 wr)) (fun _ i _=>ne - (intOf i).toNat)
   case atStart=>exact⟨0,Nat.zero_le _,rfl,HS0.out⟩
   case round=>
    obtain⟨q,hq,rfl,hI⟩:=hrel
    obtain⟨hF,hB⟩:=hI.out
    have hfr:Fr NoT w1 wr:=Fr.below (by rw[HS1.out];exact hB)
    have hkg:=HK1.out.fr0 hfr
    have gc5:=hkg.cell 5
    have gl:=hkg.lt
    simp only[List.getElem?_toArray,List.getElem?_cons_succ,List.getElem?_cons_zero]at gc5
    have hbw:Below w.heap.size w wr:=HB1.out.trans (hB.mono (Nat.le_succ _))
    by_cases hlt:q < ne
    ·obtain⟨e,he⟩:∃e,g.edges[q]?=some e:=⟨_,List.getElem?_eq_getElem (by rw[←HNE.out];exact hlt)⟩
     obtain⟨b,o,rfl,hat⟩:=HG.out.2.2 (by rw[←HNE.out];omega)
     obtain⟨hbB,c0,c1,c2,c3,c4,⟨A',c',c5,hsl⟩,c6,_⟩:=(hat.keep (Same.of hbw (lrq _))).at_ he
     have hbl:b < wr.heap.size:=ltq hbB hbw.size
     have hsr:=scalR_any e A' c' w.heap.size wr hbw.size hsl (HSC.out e (List.mem_of_getElem? he))
     unfold edV at hsr
     obtain⟨lx,hlx⟩:=nmq e.args.len
     rw[←hlx]at hsr c5
     have hin:=HIN.out e (List.mem_of_getElem? he)
     rw[HV.out]at hin
     obtain⟨sc,hsc⟩:=nmq (scalE e)
     rw[←hsc]at hsr hin
     have hrun:pkRun most (pk0 k) ((g.edges.take (q+1)).map scalE)=pkStep most (pkRun most (pk0 k) ((g.edges.take q).map scalE)) sc:=by
      rw[List.take_add_one,he,hsc]
      simp[pkRun]
     have hpi:=HPK.out q
     obtain⟨P,hP⟩:=nmq (pkRun most (pk0 k) ((g.edges.take q).map scalE))
     rw[←hP]at hpi hrun hF
     have HSR:=hdq hsr
     have HPI:=hdq (aiq hpi hin)
     have HRUN:=hdq hrun
     have HF:=hdq hF
     have HB:=hdq hB
     have HBW:=hdq hbw
     clear hsr hpi hin hrun hF hB hI he hat hsl hlx hsc hP hfr hkg hbw
     obtain⟨ef,et,ek,en,ec,ea,eat⟩:=e
     simp only at c0 c1 c2 c3 c4 c5 c6 HSR
     go_wp2_with fail
     go_at_call 46
     refine HSR.out.mono ?_
     rintro _ w3 ⟨ys,rfl,hys,hb3⟩
     obtain⟨hpi,hin⟩:=HPI.out
     obtain⟨As,cs,rfl,hss⟩:=isl_rown hys (fun x hx=>by have:=hin x hx;unfold in64;omega)
     obtain⟨hhl,hhi⟩:=hpi.hd_in
     have HONE:=hdq (oneR_any (hdP P) sc most u5 As cs (w.heap.size+1) w3 (by have h1:=HB.out.size;have h2:=HS1.out;have h3:=hb3.size;omega) (HF.out.keep hb3) hss (by rw[hhl];exact hv32) (by rw[hhl];exact hhi) (by rw[hhl];exact hin))
     have HB3:=hdq (HB.out.trans (hb3.mono (by have h1:=HB.out.size;have h2:=HS1.out;omega)))
     have hw3:=hb3.size
     clear hys hb3 hpi hin hss hhl hhi c0 c1 c2 c3 c4 c5 c6
     go_wp2_with fail
     go_at_call 45
     refine HONE.out.mono ?_
     rintro _ w4 ⟨y4,rfl,hy4,hb4⟩
     have HN:=hdq (show RowN w4 (w.heap.size+1) (hdP (pkRun most (pk0 k) ((g.edges.take (q+1)).map scalE))) y4∧Below (w.heap.size+1) w1 w4 from⟨by rw[HRUN.out,←HPI.out.1.oneL HPI.out.2];exact hy4,HB3.out.trans (hb4.mono (by have h1:=HB3.out.size;have h2:=HS1.out;omega))⟩)
     clear hy4 hb4
     go_wp2_with fail
     go_roundw
     case rel=>exact⟨q+1,by omega,by go_num,HN⟩
     case measure=>simp[intOf];omega
    ·obtain rfl:q=ne:=by omega
     rw[List.take_of_length_le (by rw[←HNE.out];exact lrq _)]at hF
     have hpi:=HPK.out q
     rw[List.take_of_length_le (by rw[←HNE.out];exact lrq _)]at hpi
     obtain⟨P,hP⟩:=nmq (pkRun most (pk0 k) (g.edges.map scalE))
     rw[←hP]at hpi hF
     obtain⟨hfl,hfi⟩:=hpi.hd_in
     have hout:=hpi.outL
     obtain⟨f,hf⟩:=nmq (hdP P)
     rw[←hf]at hF hfl hfi hout
     have HOUT:=hdq (show outL f=pkOut (pkRun most (pk0 k) (g.edges.map scalE)) k by rw[hout,hP])
     have hF':=hF
     unfold RowN at hF'
     rw[hfl]at hF'
     obtain⟨py,cy,rfl⟩:∃p c,u5= .slice p k c:=by
      rcases hF'.2 with⟨rfl,h⟩|⟨g,cap,cur,rfl,_⟩
      ·exact⟨none,0,by rw[h]⟩
      ·exact⟨_,cap,rfl⟩
     have hcell:∀(W:World),Below wr.heap.size wr W→∀(j:Nat),j < k→∃(gg nj:Nat),py=some ⟨gg,0,none⟩∧gg < W.heap.size∧W.cell? ⟨gg,j,none⟩=some (.int .i64 (nj:Int))∧f[j]?=some (nj:Int)∧k≤cy:=fun W hW j hj=>by
      obtain⟨gg,cap,e,_,hgl,_,hcap,_⟩:=rowZ_open hF' (by omega)
      simp only[Value.slice.injEq,true_and]at e
      obtain⟨rfl,rfl⟩:=e
      obtain⟨nj,h1,h2⟩:=isl_nat hfi (i:=j) (by rw[hfl];exact hj)
      refine⟨gg,nj,rfl,ltq hgl hW.size,?_,h1,hcap⟩
      exact(Same.of hW (lrq _) ⟨gg,j,none⟩ hgl).trans (rowZ_cell hF' j _ h1)
     have HCELL:=hdq hcell
     have HFL:=hdq hfl
     have HBW:=hdq hbw
     obtain⟨we,hwe⟩:=nmq wr
     have HWE:=hdq hwe
     obtain⟨ir,hir,hr0,hr1,hr2⟩:=info_parts infoRow
     have HIR:=hdq (aiq hir (aiq hr0 (aiq hr1 hr2)))
     clear hI hF hB hF' hpi hP hfi hout hf hfl hcell hfr hkg hbw hir hr0 hr1 hr2
     rw[←HWE.out]at HCELL HBW gc5 gl ⊢
     clear hwe
     go_wp2_with fail
     go_loopw [8,9] (fun y i wr=>∃r:Nat,r≤k∧i= .int .i64 r∧Hid (RowsR wr we.heap.size y (outK f r)∧Below we.heap.size we wr)) (fun _ i _=>k - (intOf i).toNat)
     case atStart=>exact⟨0,Nat.zero_le _,rfl,RowsR.nil _ _,Below.refl _ _⟩
     case round=>
      obtain⟨r,hr,rfl,hI⟩:=hrel
      obtain⟨hR,hB⟩:=hI.out
      by_cases hlt3:r < k
      ·obtain⟨gg,nr,rfl,ggl,g0,hfr,hcy⟩:=HCELL.out wr hB r hlt3
       have hfr2:f.getD r 0=(nr:Int):=by rw[List.getD_eq_getElem?_getD,hfr];rfl
       have HR:=hdq hR
       have HB:=hdq hB
       by_cases hnr:nr=r
       rotate_left
       ·have hnr2:(nr:Int)≠(r:Int):=by omega
        have HN:=hdq (show RowsR wr we.heap.size u8 (outK f (r+1)) by
         have e:(f.getD r 0==(r:Int))=false:=by rw[hfr2];simpa using hnr2
         rw[outK_succ,e]
         simpa using hR)
        clear hI hR hB hfr hfr2
        go_wp2_with fail
        go_roundw
        case rel=>exact⟨r+1,by omega,by go_num,HN.out,HB.out⟩
        case measure=>simp[intOf];omega
       subst hnr
       have HFR:=hdq hfr2
       have HFR0:=hdq hfr
       obtain⟨w5,hw5⟩:=nmq wr
       have HW5:=hdq hw5
       clear hI hR hB hfr hfr2
       rw[←HW5.out]at HR HB g0 ggl ⊢
       clear hw5
       go_wp2_with fail
       go_loopw [10,11] (fun y i wr=>∃x:Nat,x≤k∧i= .int .i64 x∧Hid (RowN wr w5.heap.size (packK f nr x) y∧Below w5.heap.size w5 wr)) (fun _ i _=>k - (intOf i).toNat)
       case atStart=>exact⟨0,Nat.zero_le _,rfl,World.ownsRow_nil _ _ _ _,Below.refl _ _⟩
       case round=>
        obtain⟨x,hx,rfl,hI⟩:=hrel
        obtain⟨hR,hB⟩:=hI.out
        by_cases hlt4:x < k
        ·obtain⟨gg',nx,he,ggl',g0',hfx,_⟩:=HCELL.out wr (HB.out.trans (hB.mono HB.out.size)) x hlt4
         cases he
         have hfx2:f.getD x 0=(nx:Int):=by rw[List.getD_eq_getElem?_getD,hfx];rfl
         have hpl:=packK_len f nr x
         have HBX:=hdq hB
         by_cases hnx:nx=nr
         ·subst hnx
          have e:(f.getD x 0==(nx:Int))=true:=by rw[hfx2];simp
          have hsu:=packK_succ f nx x
          rw[e,if_pos rfl]at hsu
          have HSU:=hdq hsu
          have HRX:=hdq hR
          obtain⟨np,hnp⟩:=nmq ((packK f nx x).length )
          rw[←hnp]at hpl
          have HNP:=hdq hnp
          have hbx:=hB.size
          have HRX2:=hdq (show wr.ownsRow w5.heap.size 3 1 u10 np (intZ (packK f nx x)) by rw[hnp];exact hR)
          clear hI hR hB hfx hfx2 hsu e hnp
          go_wp2_with (at_builtin;refine wpList_append_own _ rfl _ _ 22 rfl w5.heap.size 3 i0 (.int .i64 0) 1 8 Try.underlying22 HI.out.1 HI.out.2.1 HI.out.2.2.1 HI.out.2.2.2 rfl (by decide) _ _ _ rfl (HRX2.out.alloc _) ⟨wr.heap.size,0,none⟩ 1 1 [.int .i64 (x:Int)] rfl rfl ?c1 ?c2 ?c3 ?c4 ?c5 ?_)
          case c1=>exact cell_one_new _ _ _
          case c2=>
           intro u hu
           rw[List.mem_singleton.1 hu]
           rfl
          case c3=>unfold maxLen;omega
          case c4=>omega
          case c5=>simp;omega
          intro y6 w6 ho6 hg6 _
          have HN:=hdq (show RowN w6 w5.heap.size (packK f nx (x+1)) y6∧Below w5.heap.size w5 w6 from⟨by
           unfold RowN
           rw[HSU.out,List.length_append,←HNP.out]
           have e:intZ (packK f nx x++ [(x:Int)])=intZ (packK f nx x)++ [.int .i64 (x:Int)]:=by simp[intZ]
           rw[e]
           exact ho6,(HBX.out.alloc hbx (.cells #[.int .i64 (x:Int)] 3)).grown hg6 (by simp;omega) fun g hg=>(own_lt HRX2.out hg).1⟩)
          clear ho6 hg6
          go_wp2_with fail
          go_roundw
          case rel=>exact⟨x+1,by omega,by go_num,HN⟩
          case measure=>simp[intOf];omega
         ·have hnx2:¬(nx:Int)=(nr:Int):=by omega
          have e:(f.getD x 0==(nr:Int))=false:=by rw[hfx2];simpa using hnx2
          have hsu:=packK_succ f nr x
          rw[e]at hsu
          have HN:=hdq (show RowN wr w5.heap.size (packK f nr (x+1)) u10∧Below w5.heap.size w5 wr from⟨by rw[hsu];simpa using hR,hB⟩)
          clear hI hR hB hfx hfx2 hsu e
          go_wp2_with fail
          go_roundw
          case rel=>exact⟨x+1,by omega,by go_num,HN⟩
          case measure=>simp[intOf];omega
        ·obtain rfl:x=k:=by omega
         have hpe:packK f nr x=packL f nr:=by unfold packK packL;rw[HFL.out]
         rw[hpe]at hR
         have hmem:(nr:Int)∈packL f nr:=by
          unfold packL
          refine List.mem_map.2 ⟨nr,List.mem_filter.2 ⟨List.mem_range.2 (by rw[HFL.out];exact hlt3),?_⟩,rfl⟩
          rw[HFR.out];simp
         have hp0:=List.length_pos_of_mem hmem
         have hp64:∀z∈packL f nr,in64 z:=fun z hz=>by
          unfold packL at hz
          obtain⟨i,hi,rfl⟩:=List.mem_map.1 hz
          have:=List.mem_range.1 (List.mem_filter.1 hi).1
          rw[HFL.out]at this
          unfold in64;omega
         have hra:=RowAt.of_owns hR hp0 hp64
         obtain⟨gv,cv,rfl,hrest⟩:=hra
         obtain⟨l,hl⟩:=nmq (packL f nr)
         rw[←hl]at hrest hp0 hp64 hR ⊢
         have hoe:=outK_succ f nr
         rw[show(f.getD nr 0==(nr:Int))=true from by rw[HFR.out];simp,if_pos rfl,←hl]at hoe
         have HOE:=hdq hoe
         have HRA:=hdq (show RowAt wr l (.slice (some ⟨gv,0,none⟩) l.length cv)from⟨gv,cv,rfl,hrest⟩)
         obtain⟨rows,ho,hrr⟩:=HR.out.below (hB.mono (by exact lrq _))
         have HO:=hdq ho
         have HRR:=hdq hrr
         have HB1:=hdq (HB.out.trans (hB.mono HB.out.size))
         have hbx:=hB.size
         have hbz:=HB.out.size
         have hpl:=outK_len f nr
         obtain⟨nl,hnl⟩:=nmq l.length
         have HNL:=hdq hnl
         rw[←hnl]at hp0 ⊢
         obtain⟨no,hno⟩:=nmq ((outK f nr).length )
         have HNO:=hdq hno
         rw[←hno]at HO hpl
         clear hI hR hB hpe hmem hp64 hrest hl hoe ho hrr hnl hno
         go_wp2_with (at_builtin;refine wpList_append_own _ rfl _ _ 26 rfl we.heap.size 22 ir (.slice none 0 0) 1 24 Try.underlying26 HIR.out.1 HIR.out.2.1 HIR.out.2.2.1 HIR.out.2.2.2 rfl (by decide) _ _ _ rfl (HO.out.alloc _) ⟨wr.heap.size,0,none⟩ 1 1 [.slice (some ⟨gv,0,none⟩) nl cv] rfl rfl ?c1 ?c2 ?c3 ?c4 ?c5 ?_)
         case c1=>exact cell_one_new _ _ _
         case c2=>
          intro u hu
          rw[List.mem_singleton.1 hu]
          rfl
         case c3=>unfold maxLen;omega
         case c4=>omega
         case c5=>simp;omega
         intro y' w9 hown9 hgrow _
         have hpush:RowsR w9 we.heap.size y' (outK f nr++ [l]):=RowsR.push (w:=wr.alloc (.cells #[.slice (some ⟨gv,0,none⟩) nl cv] 22)) (fun i l' hi=>by
          obtain⟨r',h1,h2⟩:=HRR.out i l' hi
          exact⟨r',h1,h2.fr (T:=NoT) ((Fr.refl _ _).alloc _) fun _ _ h=>h.elim⟩) (by rw[←HNO.out];exact HO.out.alloc _) (HRA.out.fr (T:=NoT) ((Fr.refl _ _).alloc _) fun _ _ h=>h.elim) hgrow (by rw[←HNO.out,←HNL.out];exact hown9)
         rw[←HOE.out]at hpush
         have HPU:=hdq hpush
         have HB9:=hdq ((HB1.out.alloc (by omega) (.cells #[.slice (some ⟨gv,0,none⟩) nl cv] 22)).grown hgrow (by simp;omega) (fun g hg=>(HO.out.lt g hg).1))
         clear hown9 hgrow hpush
         go_wp2_with fail
         go_roundw
         case rel=>exact⟨nr+1,by omega,by go_num,HPU.out,HB9.out⟩
         case measure=>simp[intOf];omega
      ·obtain rfl:r=k:=by omega
       have HO:=hdq (show LsM wr wr.heap.size (pkOut (pkRun most (pk0 r) (g.edges.map scalE)) r) u8 by
        rw[←HOUT.out]
        have h:=hR.out
        unfold outK at h
        unfold outL
        rw[HFL.out]
        exact h)
       have HB:=hdq hB
       clear hI hR hB
       go_wp2_with fail
       go_ret
       exact⟨_,rfl,HO.out,HBW.out.trans (HB.out.mono HBW.out.size)⟩
end Go.Proofs.Ytphlnpaikpjakaa
