/-
  pack.Check: its walk.
-/
import Derived.Test.YtphlnpaikpjakaaPkChk
set_option linter.unusedVariables false
set_option linter.unusedSimpArgs false
namespace Go.Proofs.Ytphlnpaikpjakaa
open Go.RowKit Go.Shelf

theorem chkN_bad {vars most:Int} {ls:List (List Int)} {l:List Int} {k:Nat} (h0:(decide (vars < 0) || decide (32 < vars) || decide (most < 1) || decide (6 < most))=false) (hl:ls[k]?=some l) (hb:badRow most l=true):chkN vars most ls=8:=by
 have ha:ls.any (badRow most)=true:=List.any_eq_true.2 ⟨l,List.mem_of_getElem? hl,hb⟩
 unfold chkN
 rw[h0,ha]
 rfl
theorem chkN_end {vars most:Int} {ls:List (List Int)} (h0:(decide (vars < 0) || decide (32 < vars) || decide (most < 1) || decide (6 < most))=false) (hg:∀l∈ls,badRow most l=false):chkN vars most ls=if chkB vars (ls.map (·.headD 0)) (sortZ ls.flatten)then 8 else 0:=by
 have ha:ls.any (badRow most)=false:=by
  rw[List.any_eq_false]
  intro l hl
  rw[hg l hl];simp
 unfold chkN
 rw[h0,ha]
 rfl
theorem own_keep {w w':World} {L n:Nat} {y:Value} {xs:List Value} (h:w.ownsRow L 3 1 y n xs) (hb:Below w.heap.size w w'):w'.ownsRow L 3 1 y n xs:=by
 refine⟨h.1,?_⟩
 rcases h.2 with h1|⟨g,cap,cur,e,h1,h2,h3⟩
 ·exact .inl h1
 ·exact .inr ⟨g,cap,cur,e,h1,(hb.block g (Array.getElem?_eq_some_iff.1 h2).1).trans h2,h3⟩
theorem ChkI.keep {w wr w1:World} {ls:List (List Int)} {most:Int} {k:Nat} {y1 y2:Value} (h:ChkI w wr ls most k y1 y2) (hb:Below wr.heap.size wr w1):ChkI w w1 ls most k y1 y2:=
 ⟨h.below.trans (hb.mono h.below.size),h.good,own_keep h.r1 hb,own_keep h.r2 hb,h.ap⟩
theorem sort_row {L n:Nat} {y:Value} {l:List Int} (w:World) (h:w.ownsRow L 3 1 y n (intZ l)) (hn:n≤1000000):
  Calls Try.prog 15 #[y] w fun e w'=>e= .returned (.tuple #[])∧w'.ownsRow L 3 1 y n (intZ (sortZ l))∧w.grownBy w' y.ownBlock:=by
 have hl:=h.1
 simp only[intZ,List.length_map,Nat.mul_one]at hl
 rcases Nat.eq_zero_or_pos n with h0|h0
 ·have hl0:l= []:=List.length_eq_zero_iff.1 (by omega)
  subst hl0
  subst h0
  obtain⟨p,cap,rfl⟩:∃p cap,y= .slice p 0 cap:=by
   rcases h.2 with⟨h1,_⟩|⟨g',cap,cur,h1,_⟩
   ·exact⟨none,0,h1⟩
   ·exact⟨_,cap,h1⟩
  refine(Try.slices_Sort_int_none p cap w).mono ?_
  rintro _ w' ⟨rfl,rfl⟩
  exact⟨rfl,by simpa[sortZ]using h,⟨rfl,rfl,rfl,lrq _,fun _ _ _=>rfl⟩⟩
 ·obtain⟨gy,cap,rfl,_,hgl,_,_,_⟩:=rowZ_open h h0
  subst hl
  refine(Try.slices_Sort_int gy 0 cap l w (rowZ_holds h) hgl (by omega)).mono ?_
  rintro _ w' ⟨rfl,n1,os1,hW1⟩
  obtain⟨hrow1,hg1⟩:=rowZ_put (l':=l.mergeSort leZ) h (by simp) hW1
  exact⟨rfl,hrow1,hg1⟩
set_option maxRecDepth 100000 in
set_option maxHeartbeats 3200000 in
theorem pkchk_any (vars most:Int) (ls:List (List Int)) (y:Value) (w:World) (hx:LsM w w.heap.size ls y) (hn:ls.length≤100000):
  Calls Try.prog 10 #[.int .i64 vars,.int .i64 most,y] w fun e w'=>e= .returned (.int .i64 (chkN vars most ls))∧Below w.heap.size w w':=by
 obtain⟨A,c,rfl,h1,h2,h3⟩:=hx
 obtain⟨m,hm⟩:=nmq ls.length
 rw[←hm]at h1 hn ⊢
 have HX:=hdq h3
 have HM:=hdq hm
 obtain⟨Z,hZ⟩:=nmq (chkN vars most ls)
 rw[←hZ]
 have HZ:=hdq hZ
 clear h3 hm hZ
 cases a1:decide (vars < 0)
 rotate_left
 ·have HF:=hdq (show Z=2 by rw[HZ.out];unfold chkN;rw[a1];rfl)
  go_enter Try.func10,Try.ntmps10
  go_wp2_with fail
  go_ret
  exact⟨by rw[HF.out];rfl,Below.refl _ _⟩
 cases a2:decide (32 < vars)
 rotate_left
 ·have HF:=hdq (show Z=2 by rw[HZ.out];unfold chkN;rw[a1,a2];rfl)
  go_enter Try.func10,Try.ntmps10
  go_wp2_with fail
  go_ret
  exact⟨by rw[HF.out];rfl,Below.refl _ _⟩
 cases a3:decide (most < 1)
 rotate_left
 ·have HF:=hdq (show Z=2 by rw[HZ.out];unfold chkN;rw[a1,a2,a3];rfl)
  go_enter Try.func10,Try.ntmps10
  go_wp2_with fail
  go_ret
  exact⟨by rw[HF.out];rfl,Below.refl _ _⟩
 cases a4:decide (6 < most)
 rotate_left
 ·have HF:=hdq (show Z=2 by rw[HZ.out];unfold chkN;rw[a1,a2,a3,a4];rfl)
  go_enter Try.func10,Try.ntmps10
  go_wp2_with fail
  go_ret
  exact⟨by rw[HF.out];rfl,Below.refl _ _⟩
 have H0:=hdq (show(decide (vars < 0) || decide (32 < vars) || decide (most < 1) || decide (6 < most))=false by rw[a1,a2,a3,a4];rfl)
 have h6:most≤6:=by simpa using a4
 have hv0:0≤vars:=by simpa using a1
 have hv1:vars≤32:=by simpa using a2
 have H6:=hdq h6
 obtain⟨i0,hi,hz0,hz1,hz2⟩:=info_parts infoInt7
 have HI:=hdq (aiq hi (aiq hz0 (aiq hz1 hz2)))
 clear hi hz0 hz1 hz2
 have HS0:=hdq (ChkI.start w ls most)
 go_enter Try.func10,Try.ntmps10
 go_wp2_with fail
 go_loopw [7,8,27] (fun y1 y2 i wr=>∃k:Nat,k≤m∧i= .int .i64 k∧Hid (ChkI w wr ls most k y1 y2)) (fun _ _ i _=>m - (intOf i).toNat)
 case atStart=>exact⟨0,Nat.zero_le _,rfl,HS0⟩
 case round=>
  obtain⟨k,hk,rfl,hI⟩:=hrel
  have hb:=hI.out.below
  by_cases hlt:k < m
  ·obtain⟨l,hl⟩:∃l,ls[k]?=some l:=⟨_,List.getElem?_eq_getElem (by rw[←HM.out];exact hlt)⟩
   obtain⟨b,o,rfl,hbl,hat⟩:=HX.out (by rw[←HM.out];omega)
   obtain⟨A',c',c0,hs⟩:=hat k l hl
   have c0':=(Same.of hb (lrq _) ⟨b,o+k,none⟩ hbl).trans c0
   have bl:b < wr.heap.size:=ltq hbl hb.size
   have hsw:=hs.keep (Same.of hb (lrq _))
   have HR:=hdq (rises_any l A' c' w.heap.size wr hb.size hsw)
   have HL:=hdq hl
   have HB:=hdq hb
   have HSW:=hdq hs
   obtain⟨n,hn'⟩:=nmq l.length
   have HN:=hdq hn'
   have hnc:n≤c':=by rw[hn'];exact hs.1
   have hcm:c'≤9223372036854775807:=hs.2.1
   rw[←hn']at c0' HR
   clear hl hat c0 hs hsw hn' hb
   by_cases q1:(n:Int) < 1
   ·have HF:=hdq (show Z=8 by rw[HZ.out];exact chkN_bad H0.out HL.out (by unfold badRow;rw[←HN.out];simp only[q1,decide_true,Bool.true_or]))
    go_wp2_with fail
    go_ret
    exact⟨by rw[HF.out];rfl,HB.out⟩
   by_cases q2:most < (n:Int)
   ·have HF:=hdq (show Z=8 by rw[HZ.out];exact chkN_bad H0.out HL.out (by unfold badRow;rw[←HN.out];simp only[q2,decide_true,Bool.true_or,Bool.or_true]))
    go_wp2_with fail
    go_ret
    exact⟨by rw[HF.out];rfl,HB.out⟩
   cases q3:risB l
   ·have HF:=hdq (show Z=8 by rw[HZ.out];exact chkN_bad H0.out HL.out (by unfold badRow;rw[q3];simp))
    rw[q3]at HR
    clear q3
    go_wp2_with fail
    go_at_call 26
    refine HR.out.mono ?_
    rintro _ w1 ⟨rfl,hb1⟩
    have HB1:=hdq (HB.out.trans (hb1.mono HB.out.size))
    clear hb1
    go_wp2_with fail
    go_ret
    exact⟨by rw[HF.out];rfl,HB1.out⟩
   ·have HG:=hdq (show badRow most l=false by
     unfold badRow
     rw[q3,←HN.out]
     simp only[q1,q2,decide_false,Bool.or_false,Bool.not_true])
    rw[q3]at HR
    clear q3
    go_wp2_with fail
    go_at_call 26
    refine HR.out.mono ?_
    rintro _ w1 ⟨rfl,hb1⟩
    have hK:=hI.out.keep hb1
    obtain⟨b',o',rfl,hbl',hat'⟩:=HSW.out.2.2 (by rw[←HN.out];omega)
    obtain⟨x,hx0⟩:∃x,l[0]?=some x:=⟨_,List.getElem?_eq_getElem (by rw[←HN.out];omega)⟩
    have hk1:=hK.below
    have c0:=(Same.of hk1 (lrq _) ⟨b',o'+0,none⟩ hbl').trans (hat' 0 x hx0).1
    rw[Nat.add_zero]at c0
    have bl1:b' < w1.heap.size:=ltq hbl' hk1.size
    have hn0:0 < n:=by omega
    have HK:=hdq hK
    have HX0:=hdq hx0
    have HAT:=hdq hat'
    have hsz1:=hk1.size
    clear hb1 hK hx0 hat' c0' hI hk1
    go_wp2_with (at_builtin;refine wpList_append_own_at _ rfl _ _ 22 rfl w.heap.size 3 i0 (.int .i64 0) 1 8 Try.underlying22 HI.out.1 HI.out.2.1 HI.out.2.2.1 HI.out.2.2.2 rfl (by decide) _ _ _ rfl (HK.out.r1.alloc _) ⟨w1.heap.size,0,none⟩ 1 1 [.int .i64 x] rfl rfl ?c1 ?c2 ?c3 ?c4 ?c5 ?_)
    case c1=>exact cell_one_new _ _ _
    case c2=>
     intro u hu
     rw[List.mem_singleton.1 hu]
     rfl
    case c3=>unfold maxLen;omega
    case c4=>omega
    case c5=>simp;omega
    intro y1' w2 ho1 hg1 _ hn1
    have hr2:=HK.out.row2 hg1
    have hb2:=HK.out.mid hg1
    have hfl:(ls.take k).flatten.length ≤600000:=by
     have h:=flat_len H6.out HK.out.good
     rw[List.length_take]at h
     omega
    have HR2:=hdq hr2
    have HB2:=hdq hb2
    have HO1:=hdq ho1
    have HG1:=hdq hg1
    have HN1:=hdq hn1
    clear hr2 hb2 ho1 hg1 hn1
    go_wp2_with (at_builtin;refine wpList_append_own_at _ rfl _ _ 22 rfl w.heap.size 3 i0 (.int .i64 0) 1 8 Try.underlying22 HI.out.1 HI.out.2.1 HI.out.2.2.1 HI.out.2.2.2 rfl (by decide) _ _ _ rfl HR2.out ⟨b',o',none⟩ n c' (intZ l) rfl ?d0 ?d1 ?d2 ?d3 ?d4 ?d5 ?_)
    case d0=>simp[intZ,HN.out]
    case d1=>
     intro j u hj
     unfold intZ at hj
     rw[List.getElem?_map]at hj
     obtain⟨z,hz,rfl⟩:=Option.map_eq_some_iff.1 hj
     have hc:=(Same.of HB2.out (lrq _) ⟨b',o'+j,none⟩ hbl').trans (HAT.out j z hz).1
     unfold Addr.add
     by_cases hj0:j=0
     ·subst hj0;simpa using hc
     ·simpa[hj0]using hc
    case d2=>
     intro u hu
     unfold intZ at hu
     obtain⟨z,_,rfl⟩:=List.mem_map.1 hu
     rfl
    case d3=>unfold maxLen;omega
    case d4=>omega
    case d5=>exact HB2.out.size
    intro y2' w3 ho2 hg2 _ hn2
    have HNX:=hdq (HK.out.next (o:= .cells #[.int .i64 x] 3) HL.out HG.out HX0.out HG1.out HO1.out (by rw[World.size_alloc];exact HN1.out) hg2 (by rw[←HN.out,List.length_flatten,List.map_take];exact ho2) hn2)
    clear ho2 hg2 hn2
    go_wp2_with fail
    go_roundw
    case rel=>exact⟨k+1,by omega,by go_num,HNX⟩
    case measure=>simp[intOf];omega
  ·obtain rfl:k=m:=by omega
   have hK:=hI.out
   have htk:ls.take k=ls:=List.take_of_length_le (by rw[←HM.out];exact lrq _)
   have hg:=hK.good
   have hr1:=hK.r1
   have hr2:=hK.r2
   rw[htk]at hg hr1 hr2
   have hend:=chkN_end H0.out hg
   rw[←HZ.out]at hend
   have h64:∀l∈ls,∀x∈l,in64 x:=fun l hl x hx=>by
    obtain⟨i,hi⟩:=List.getElem?_of_mem hl
    obtain⟨j,hj⟩:=List.getElem?_of_mem hx
    obtain⟨b,o,_,_,hat⟩:=HX.out (List.length_pos_of_mem hl)
    obtain⟨_,_,_,hs⟩:=hat i l hi
    obtain⟨_,_,_,_,ha⟩:=hs.2.2 (List.length_pos_of_mem hx)
    exact(ha j x hj).2
   have hfl:=flat_len H6.out hg
   rw[←HM.out]at hfl
   obtain⟨n2,hn2⟩:=nmq ls.flatten.length
   rw[←hn2]at hr2 hfl
   have HSORT:=hdq (sort_row wr hr2 (by omega))
   have HAP:=hdq (ap_ne' hK.ap)
   have hown2:∀g,u8.ownBlock=some g→w.heap.size≤g:=fun g hg=>(own_lt hr2 hg).1
   have HOWN2:=hdq hown2
   have HEND:=hdq hend
   have HR1:=hdq hr1
   have H64:=hdq h64
   have HB:=hdq hb
   have HN2:=hdq hn2
   clear hK htk hg hr1 hr2 hend h64 hfl hn2 hown2 hI hb
   go_wp2_with fail
   go_at_call 15
   refine HSORT.out.mono ?_
   rintro _ w1 ⟨rfl,hrow,hgr⟩
   have hb1:Below w.heap.size w w1:=HB.out.grown hgr HB.out.size HOWN2.out
   have hr1:=HR1.out.kept hgr HAP.out
   obtain⟨hk1,A1,c1,rfl,hs1⟩:=isSl_row hr1 (lrq _) (fun x hx=>by
    obtain⟨l,hl,rfl⟩:=List.mem_map.1 hx
    cases l with
    |nil=>exact⟨by decide,by decide⟩
    |cons a l=>exact H64.out _ hl a (List.mem_cons_self ..))
   obtain⟨hk2,A2,c2,rfl,hs2⟩:=isSl_row hrow (lrq _) (fun x hx=>by
    unfold sortZ at hx
    obtain⟨l,hl,hxl⟩:=List.mem_flatten.1 ((List.mergeSort_perm _ leZ).mem_iff.1 hx)
    exact H64.out l hl x hxl)
   have hend2:Z=if chkB vars (hdsZ ls) (sortZ ls.flatten)then 8 else 0:=HEND.out
   obtain⟨fs,hfs⟩:=nmq (hdsZ ls)
   obtain⟨al,hal⟩:=nmq (sortZ ls.flatten)
   rw[←hfs]at hs1 hend2 ⊢
   rw[←hal]at hs2 hend2 ⊢
   unfold chkB at hend2
   obtain⟨nf,hnf⟩:=nmq fs.length
   obtain⟨na,hna⟩:=nmq al.length
   have HRA:=hdq (rises_any fs A1 c1 _ w1 (lrq _) hs1)
   have HRB:=hdq (fun(W:World) (h:Below w1.heap.size w1 W)=>rises_any al A2 c2 w1.heap.size W h.size (hs2.keep (Same.of h (lrq _))))
   have HS2:=hdq hs2
   have hnac:na≤c2:=by rw[hna];exact hs2.1
   have hc2:c2≤9223372036854775807:=hs2.2.1
   rw[←hnf]at HRA ⊢
   rw[←hna]at HRB hend2 ⊢
   have HNA:=hdq hna
   have HB1:=hdq hb1
   clear hr1 hrow hgr hfs hal hnf hna hs1 hs2 hk1 hk2 hb1
   cases qa:risB fs
   ·have HF:=hdq (show Z=8 by rw[hend2,qa];rfl)
    rw[qa]at HRA
    clear qa hend2
    go_wp2_with fail
    go_at_call 26
    refine HRA.out.mono ?_
    rintro _ w2 ⟨rfl,hb2⟩
    have HB2:=hdq (HB1.out.trans (hb2.mono HB1.out.size))
    clear hb2
    go_wp2_with fail
    go_ret
    exact⟨by rw[HF.out];rfl,HB2.out⟩
   rw[qa]at HRA hend2
   cases qb:risB al
   ·have HF:=hdq (show Z=8 by rw[hend2,qb];rfl)
    rw[qb]at HRB
    clear qa qb hend2
    go_wp2_with fail
    go_at_call 26
    refine HRA.out.mono ?_
    rintro _ w2 ⟨rfl,hb2⟩
    have HRB2:=hdq (HRB.out w2 hb2)
    have HB2:=hdq (HB1.out.trans (hb2.mono HB1.out.size))
    clear hb2
    go_wp2_with fail
    go_at_call 26
    refine HRB2.out.mono ?_
    rintro _ w3 ⟨rfl,hb3⟩
    have HB3:=hdq (HB2.out.trans (hb3.mono HB2.out.size))
    clear hb3
    go_wp2_with fail
    go_ret
    exact⟨by rw[HF.out];rfl,HB3.out⟩
   rw[qb]at HRB hend2
   clear qa qb
   simp only[Bool.not_true,Bool.false_or]at hend2
   have HEND2:=hdq hend2
   clear hend2
   go_wp2_with fail
   go_at_call 26
   refine HRA.out.mono ?_
   rintro _ w2 ⟨rfl,hb2⟩
   have HRB2:=hdq (HRB.out w2 hb2)
   have HB2:=hdq (HB1.out.trans (hb2.mono HB1.out.size))
   have HC2:=hdq hb2
   clear hb2
   by_cases h3:(na:Int)=vars
   rotate_left
   ·have HF:=hdq (show Z=8 by rw[HEND2.out];simp[h3])
    go_wp2_with fail
    go_at_call 26
    refine HRB2.out.mono ?_
    rintro _ w3 ⟨rfl,hb3⟩
    have HB3:=hdq (HB2.out.trans (hb3.mono HB2.out.size))
    clear hb3
    go_wp2_with fail
    go_ret
    exact⟨by rw[HF.out];rfl,HB3.out⟩
   subst h3
   by_cases h4:0 < na
   rotate_left
   ·obtain rfl:na=0:=by omega
    have HF:=hdq (show Z=0 by rw[HEND2.out];simp)
    go_wp2_with fail
    go_at_call 26
    refine HRB2.out.mono ?_
    rintro _ w3 ⟨rfl,hb3⟩
    have HB3:=hdq (HB2.out.trans (hb3.mono HB2.out.size))
    clear hb3
    go_wp2_with fail
    go_ret
    exact⟨by rw[HF.out];rfl,HB3.out⟩
   obtain⟨b,o,rfl,hat⟩:=HS2.out.2.2 (by rw[←HNA.out];exact h4)
   obtain⟨x0,hx0⟩:∃x,al[0]?=some x:=⟨_,List.getElem?_eq_getElem (by rw[←HNA.out];exact h4)⟩
   obtain⟨x1,hx1⟩:∃x,al[na - 1]?=some x:=⟨_,List.getElem?_eq_getElem (by rw[←HNA.out];omega)⟩
   have hend3:Z=if(!(x0==0) || !(x1==(na:Int) - 1))then 8 else 0:=by
    rw[HEND2.out]
    have e1:((na:Int) - 1).toNat =na - 1:=by omega
    have e2:decide (0 < (na:Int))=true:=by simpa using h4
    rw[e1,e2,List.getD_eq_getElem?_getD,List.getD_eq_getElem?_getD,hx0,hx1]
    simp
   have hwr:wrap64 ((na:Int) - 1)=(na:Int) - 1:=by unfold wrap64;omega
   have htn:((na:Int) - 1).toNat =na - 1:=by omega
   have hlo:(0:Int)≤(na:Int) - 1:=by omega
   have hhi:((na:Int) - 1) < (na:Int):=by omega
   have hpo:(0:Int) < (na:Int):=by omega
   have HAT:=hdq (aiq hat (aiq hx0 hx1))
   have HEND3:=hdq hend3
   clear hat hx0 hx1 hend3
   go_wp2_with fail
   go_at_call 26
   refine HRB2.out.mono ?_
   rintro _ w3 ⟨rfl,hb3⟩
   have HB3:=hdq (HB2.out.trans (hb3.mono HB2.out.size))
   have hat3:=(HAT.out.1.keep (Same.of HC2.out (lrq _))).keep (Same.of hb3 HC2.out.size)
   have c0:=(hat3.2 0 x0 HAT.out.2.1).1
   have c1:=(hat3.2 (na - 1) x1 HAT.out.2.2).1
   rw[Nat.add_zero]at c0
   have bl:b < w3.heap.size:=ltq hat3.1 (leq9 HC2.out.size hb3.size)
   clear hb3 hat3
   by_cases g0:x0=0
   rotate_left
   ·have HF:=hdq (show Z=8 by rw[HEND3.out];simp[g0])
    go_wp2_with fail
    go_ret
    exact⟨by rw[HF.out];rfl,HB3.out⟩
   by_cases g1:x1=(na:Int) - 1
   ·have HF:=hdq (show Z=0 by rw[HEND3.out];simp[g0,g1])
    go_wp2_with fail
    go_ret
    exact⟨by rw[HF.out];rfl,HB3.out⟩
   ·have HF:=hdq (show Z=8 by rw[HEND3.out];simp[g1])
    go_wp2_with fail
    go_ret
    exact⟨by rw[HF.out];rfl,HB3.out⟩
end Go.Proofs.Ytphlnpaikpjakaa
