/-
  pack.Check: which packs may be.
-/
import Derived.Test.YtphlnpaikpjakaaGreatDoorPkLaws
import Derived.Test.YtphlnpaikpjakaaGreatDoorPkWalk
set_option linter.unusedVariables false
set_option linter.unusedSimpArgs false
set_option maxHeartbeats 3200000
set_option maxRecDepth 100000
namespace Go.Proofs.YtphlnpaikpjakaaGreatDoor
open Go.RowKit Go.Shelf

theorem rise_next {l:List Int} {k:Nat} {x y:Int} (hy:l[k]?=some y) (hx:l[k+1]?=some x) (hp:(l.take (k+1)).Pairwise (· < ·)) (h:y < x):(l.take (k+1+1)).Pairwise (· < ·):=by
 have e1:l.take (k+1+1)=l.take (k+1)++ [x]:=by rw[List.take_add_one,hx];rfl
 have e2:l.take (k+1)=l.take k++ [y]:=by rw[List.take_add_one,hy];rfl
 rw[e1]
 refine List.pairwise_append.2 ⟨hp,by simp,fun a ha b hb=>?_⟩
 obtain rfl:=List.mem_singleton.1 hb
 rw[e2]at ha hp
 rcases List.mem_append.1 ha with ha|ha
 ·have:=(List.pairwise_append.1 hp).2.2 a ha y (List.mem_singleton.2 rfl)
  omega
 ·obtain rfl:=List.mem_singleton.1 ha
  exact h
theorem rise_not {l:List Int} {k:Nat} {x y:Int} (hy:l[k]?=some y) (hx:l[k+1]?=some x) (h:x≤y):risB l=false:=by
 unfold risB
 rw[decide_eq_false_iff_not]
 intro hp
 obtain⟨h1,e1⟩:=List.getElem?_eq_some_iff.1 hy
 obtain⟨h2,e2⟩:=List.getElem?_eq_some_iff.1 hx
 have:=List.pairwise_iff_getElem.1 hp k (k+1) h1 h2 (by omega)
 omega
theorem rises_any (l:List Int) (A:Option Addr) (c B:Nat) (w:World) (hB:B≤w.heap.size) (hs:IsSl w B l A c):Calls Tryz.prog 26 #[.slice A l.length c] w (BoolPost (risB l) w):=by
 have HS:=hdq hs
 have hl:l.length≤9223372036854775807:=leq9 hs.1 hs.2.1
 obtain⟨m,hm⟩:=nmq l.length
 rw[←hm]at hl ⊢
 have HM:=hdq hm
 obtain⟨bb,hbb⟩:=nmq (risB l)
 have HBB:=hdq hbb
 rw[←hbb]
 clear hs hm hbb
 go_enter Tryz.func26,Tryz.ntmps26
 go_wp2_with fail
 go_loopw [3] (fun i wr=>∃k:Nat,(k+1≤m∨k=0)∧i= .int .i64 ((k:Int)+1)∧Below w.heap.size w wr∧Hid ((l.take (k+1)).Pairwise (· < ·))) (fun i _=>m+1 - (intOf i).toNat)
 case atStart=>exact⟨0,.inr rfl,rfl,Below.refl _ _,hdq (by cases l<;>simp)⟩
 case round=>
  obtain⟨k,hk,rfl,hb,hp⟩:=hrel
  by_cases hlt:k+1 < m
  ·obtain⟨x,hx⟩:∃x,l[k+1]?=some x:=⟨_,List.getElem?_eq_getElem (by rw[←HM.out];exact hlt)⟩
   obtain⟨y,hy⟩:∃y,l[k]?=some y:=⟨_,List.getElem?_eq_getElem (by rw[←HM.out];omega)⟩
   obtain⟨b,o,rfl,hat⟩:=HS.out.2.2 (by rw[←HM.out];omega)
   have hat':=hat.keep (Same.of hb hB)
   have c1:=(hat'.2 (k+1) x hx).1
   have c2:=(hat'.2 k y hy).1
   have bl:b < wr.heap.size:=ltq hat.1 (leq9 hB hb.size)
   have hkk:wrap64 ((k:Int)+1 - 1)=(k:Int):=by unfold wrap64;omega
   have hk2:wrap64 ((k:Int)+1+1)=((k+1:Nat):Int)+1:=by unfold wrap64;omega
   have hlt2:(k:Int)+1 < (m:Int):=by omega
   have ht:((k:Int)+1).toNat =k+1:=by omega
   have HB:=hdq hb
   by_cases hxy:x≤y
   ·have HF:=hdq (rise_not hy hx hxy)
    clear hx hy hat hat' hp hb
    go_wp2_with fail
    go_quiet (fail)
    go_wp2_with fail
    go_ret
    exact⟨by rw[HBB.out,HF.out];rfl,⟨HB.out.os,HB.out.tape,HB.out.output,HB.out.size,HB.out.block⟩⟩
   ·have HN:=hdq (rise_next hy hx hp.out (by omega))
    clear hx hy hat hat' hp hb
    go_wp2_with fail
    go_quiet (fail)
    go_wp2_with fail
    go_roundw
    case rel=>exact⟨k+1,.inl (by omega),by go_num,⟨HB.out.os,HB.out.tape,HB.out.output,HB.out.size,HB.out.block⟩,HN⟩
    case measure=>simp[intOf];omega
  ·have HF:=hdq (show risB l=true by
    unfold risB
    rw[decide_eq_true_eq]
    have h:=hp.out
    rw[List.take_of_length_le (by rw[←HM.out];omega)]at h
    exact h)
   have hn:¬((k:Int)+1 < (m:Int)):=by omega
   clear hp
   go_wp2_with fail
   go_ret
   exact⟨by rw[HBB.out,HF.out];rfl,hb⟩

def hdsZ (ls:List (List Int)):List Int:=ls.map (·.headD 0)
structure ChkI (w wr:World) (ls:List (List Int)) (most:Int) (k:Nat) (y1 y2:Value):Prop where
 below:Below w.heap.size w wr
 good:∀l∈ls.take k,badRow most l=false
 r1:wr.ownsRow w.heap.size 3 1 y1 k (intZ (hdsZ (ls.take k)))
 r2:wr.ownsRow w.heap.size 3 1 y2 (ls.take k).flatten.length (intZ (ls.take k).flatten)
 ap:∀b,y1.ownBlock=some b→y2.ownBlock≠some b
theorem own_lt {w:World} {L n:Nat} {y:Value} {xs:List Value} (h:w.ownsRow L 3 1 y n xs) {b:Nat} (hb:y.ownBlock=some b):L≤b∧b < w.heap.size:=by
 rcases h.2 with⟨rfl,_⟩|⟨g,cap,cur,rfl,h1,h2,_⟩
 ·simp[Value.ownBlock]at hb
 ·obtain rfl:g=b:=by simpa[Value.ownBlock]using hb
  exact⟨h1,(Array.getElem?_eq_some_iff.1 h2).1⟩
theorem ChkI.start (w:World) (ls:List (List Int)) (most:Int):ChkI w w ls most 0 (.slice none 0 0) (.slice none 0 0):=
 ⟨Below.refl _ _,fun l h=>by simp at h,World.ownsRow_nil _ _ _ _,World.ownsRow_nil _ _ _ _,fun b h=>by simp[Value.ownBlock]at h⟩
theorem ap_ne {y1 y2:Value} (h:∀b,y1.ownBlock=some b→y2.ownBlock≠some b):y2.ownBlock=none∨y2.ownBlock≠y1.ownBlock:=by
 cases h2:y2.ownBlock with
 |none=>exact .inl rfl
 |some b=>exact .inr fun e=>h b e.symm h2
theorem ap_ne' {y1 y2:Value} (h:∀b,y1.ownBlock=some b→y2.ownBlock≠some b):y1.ownBlock=none∨y1.ownBlock≠y2.ownBlock:=by
 cases h1:y1.ownBlock with
 |none=>exact .inl rfl
 |some b=>exact .inr fun e=>h b h1 e.symm
theorem ChkI.row2 {w wr w2:World} {ls:List (List Int)} {most:Int} {k:Nat} {y1 y2:Value} {o:Obj} (h:ChkI w wr ls most k y1 y2) (hg1:(wr.alloc o).grownBy w2 y1.ownBlock):
  w2.ownsRow w.heap.size 3 1 y2 (ls.take k).flatten.length (intZ (ls.take k).flatten):=(h.r2.alloc _).kept hg1 (ap_ne h.ap)
theorem ChkI.mid {w wr w2:World} {ls:List (List Int)} {most:Int} {k:Nat} {y1 y2:Value} {o:Obj} (h:ChkI w wr ls most k y1 y2) (hg1:(wr.alloc o).grownBy w2 y1.ownBlock):Below w.heap.size w w2:=
 (h.below.alloc h.below.size o).grown hg1 (leq9 h.below.size (by simp)) fun g hg=>(own_lt h.r1 hg).1
theorem ChkI.next {w wr w2 w3:World} {ls:List (List Int)} {most:Int} {k:Nat} {y1 y2 y1' y2':Value} {o:Obj} (h:ChkI w wr ls most k y1 y2) {l:List Int} (hl:ls[k]?=some l) (hb:badRow most l=false) {x:Int} (hx:l[0]?=some x)
  (hg1:(wr.alloc o).grownBy w2 y1.ownBlock) (ho1:w2.ownsRow w.heap.size 3 1 y1' (k+1) (intZ (hdsZ (ls.take k))++ [.int .i64 x])) (hn1:y1'.ownBlock=y1.ownBlock∨y1'.ownBlock=some (wr.alloc o).heap.size)
  (hg2:w2.grownBy w3 y2.ownBlock) (ho2:w3.ownsRow w.heap.size 3 1 y2' ((ls.take k).flatten.length +l.length) (intZ (ls.take k).flatten ++intZ l)) (hn2:y2'.ownBlock=y2.ownBlock∨y2'.ownBlock=some w2.heap.size):
  ChkI w w3 ls most (k+1) y1' y2':=by
 have ht:ls.take (k+1)=ls.take k++ [l]:=by rw[List.take_add_one,hl];rfl
 have hh:l.headD 0=x:=by cases l with|nil=>simp at hx|cons a l=>simpa using hx
 have hap1:∀b,y1'.ownBlock=some b→y2.ownBlock≠some b:=fun b e1 e2=>by
  rcases hn1 with e|e
  ·exact h.ap b (e▸e1) e2
  ·rw[e]at e1
   have:=(own_lt (h.r2.alloc o) e2).2
   injection e1 with e1
   omega
 refine⟨(h.mid hg1).grown hg2 (h.mid hg1).size fun g hg=>(own_lt h.r2 hg).1,fun l' hl'=>?_,?_,?_,fun b e1 e2=>?_⟩
 ·rw[ht]at hl'
  rcases List.mem_append.1 hl' with hl'|hl'
  ·exact h.good l' hl'
  ·rw[List.mem_singleton.1 hl'];exact hb
 ·have e:intZ (hdsZ (ls.take (k+1)))=intZ (hdsZ (ls.take k))++ [.int .i64 x]:=by rw[ht];unfold hdsZ;rw[List.map_append,List.map_singleton,hh];simp only[intZ,List.map_append,List.map_cons,List.map_nil]
  rw[e]
  exact ho1.kept hg2 (ap_ne' hap1)
 ·have e:intZ (ls.take (k+1)).flatten =intZ (ls.take k).flatten ++intZ l:=by rw[ht];simp[intZ]
  have e2:(ls.take (k+1)).flatten.length =(ls.take k).flatten.length +l.length:=by rw[ht];simp
  rw[e,e2]
  exact ho2
 ·rcases hn2 with e|e
  ·exact hap1 b e1 (e▸e2)
  ·rw[e]at e2
   injection e2 with e2
   have:=(own_lt ho1 e1).2
   omega
theorem flat_len {most:Int} (h6:most≤6):∀ {ls:List (List Int)},(∀l∈ls,badRow most l=false)→ls.flatten.length≤6*ls.length
 | [],_=>by simp
 |l::ls,h=>by
  have h1:=flat_len h6 (ls:=ls) fun l' hl'=>h l' (List.mem_cons_of_mem _ hl')
  have h2:=h l (List.mem_cons_self ..)
  unfold badRow at h2
  simp only[Bool.or_eq_false_iff,decide_eq_false_iff_not]at h2
  rw[List.flatten_cons,List.length_append,List.length_cons]
  omega
theorem isSl_row {w:World} {L n B:Nat} {y:Value} {l:List Int} (h:w.ownsRow L 3 1 y n (intZ l)) (hB:w.heap.size≤B) (h64:∀x∈l,in64 x):n=l.length∧∃A c,y= .slice A l.length c∧IsSl w B l A c:=by
 have hn:=h.1
 simp only[intZ,List.length_map,Nat.mul_one]at hn
 refine⟨hn.symm,?_⟩
 subst hn
 rcases h.2 with⟨rfl,h0⟩|⟨g,cap,cur,rfl,h1,h2,h3,h4,_⟩
 ·exact⟨none,0,by rw[h0],by omega,by omega,fun hp=>by omega⟩
 ·refine⟨some ⟨g,0,none⟩,cap,rfl,h3,by unfold maxLen at h4;omega,fun hp=>⟨g,0,rfl,ltq (Array.getElem?_eq_some_iff.1 h2).1 hB,fun i x hi=>⟨?_,h64 x (List.mem_of_getElem? hi)⟩⟩⟩
  rw[Nat.zero_add]
  exact rowZ_cell h i x hi

theorem chkN_bad {vars most:Int} {ls:List (List Int)} {l:List Int} {k:Nat} (h0:(decide (vars < 0) || decide (32 < vars) || decide (most < 1) || decide (6 < most))=false) (hl:ls[k]?=some l) (hb:badRow most l=true):chkN vars most ls=8:=by
 have ha:ls.any (badRow most)=true:=List.any_eq_true.2 ⟨l,List.mem_of_getElem? hl,hb⟩
 unfold chkN
 rw[h0,ha]
 rfl
theorem chkN_end {vars most:Int} {ls:List (List Int)} (h0:(decide (vars < 0) || decide (32 < vars) || decide (most < 1) || decide (6 < most))=false) (hg:∀l∈ls,badRow most l=false):chkN vars most ls=if chkB vars (ls.map (·.headD 0)) (sortZ ls.flatten)then 8 else 0:=by
 have ha:ls.any (badRow most)=false:=by
  rw[List.any_eq_false]
  intro l hl
  rw[hg l hl];simp
 unfold chkN
 rw[h0,ha]
 rfl
theorem own_keep {w w':World} {L n:Nat} {y:Value} {xs:List Value} (h:w.ownsRow L 3 1 y n xs) (hb:Below w.heap.size w w'):w'.ownsRow L 3 1 y n xs:=by
 refine⟨h.1,?_⟩
 rcases h.2 with h1|⟨g,cap,cur,e,h1,h2,h3⟩
 ·exact .inl h1
 ·exact .inr ⟨g,cap,cur,e,h1,(hb.block g (Array.getElem?_eq_some_iff.1 h2).1).trans h2,h3⟩
theorem ChkI.keep {w wr w1:World} {ls:List (List Int)} {most:Int} {k:Nat} {y1 y2:Value} (h:ChkI w wr ls most k y1 y2) (hb:Below wr.heap.size wr w1):ChkI w w1 ls most k y1 y2:=
 ⟨h.below.trans (hb.mono h.below.size),h.good,own_keep h.r1 hb,own_keep h.r2 hb,h.ap⟩
theorem sort_row {L n:Nat} {y:Value} {l:List Int} (w:World) (h:w.ownsRow L 3 1 y n (intZ l)) (hn:n≤1000000):
  Calls Tryz.prog 22 #[y] w fun e w'=>e= .returned (.tuple #[])∧w'.ownsRow L 3 1 y n (intZ (sortZ l))∧w.grownBy w' y.ownBlock:=by
 have hl:=h.1
 simp only[intZ,List.length_map,Nat.mul_one]at hl
 rcases Nat.eq_zero_or_pos n with h0|h0
 ·have hl0:l= []:=List.length_eq_zero_iff.1 (by omega)
  subst hl0
  subst h0
  obtain⟨p,cap,rfl⟩:∃p cap,y= .slice p 0 cap:=by
   rcases h.2 with⟨h1,_⟩|⟨g',cap,cur,h1,_⟩
   ·exact⟨none,0,h1⟩
   ·exact⟨_,cap,h1⟩
  refine(Tryz.slices_Sort_int_none p cap w).mono ?_
  rintro _ w' ⟨rfl,rfl⟩
  exact⟨rfl,by simpa[sortZ]using h,⟨rfl,rfl,rfl,lrq _,fun _ _ _=>rfl⟩⟩
 ·obtain⟨gy,cap,rfl,_,hgl,_,_,_⟩:=rowZ_open h h0
  subst hl
  refine(Tryz.slices_Sort_int gy 0 cap l w (rowZ_holds h) hgl (by omega)).mono ?_
  rintro _ w' ⟨rfl,n1,os1,hW1⟩
  obtain⟨hrow1,hg1⟩:=rowZ_put (l':=l.mergeSort leZ) h (by simp) hW1
  exact⟨rfl,hrow1,hg1⟩
theorem pkchk_any (vars most:Int) (ls:List (List Int)) (y:Value) (w:World) (hx:LsM w w.heap.size ls y) (hn:ls.length≤100000):
  Calls Tryz.prog 12 #[.int .i64 vars,.int .i64 most,y] w fun e w'=>e= .returned (.int .i64 (chkN vars most ls))∧Below w.heap.size w w':=by
 obtain⟨A,c,rfl,h1,h2,h3⟩:=hx
 obtain⟨m,hm⟩:=nmq ls.length
 rw[←hm]at h1 hn ⊢
 have HX:=hdq h3
 have HM:=hdq hm
 obtain⟨Z,hZ⟩:=nmq (chkN vars most ls)
 rw[←hZ]
 have HZ:=hdq hZ
 clear h3 hm hZ
 cases a1:decide (vars < 0)
 rotate_left
 ·have HF:=hdq (show Z=2 by rw[HZ.out];unfold chkN;rw[a1];rfl)
  go_enter Tryz.func12,Tryz.ntmps12
  go_wp2_with fail
  go_ret
  exact⟨by rw[HF.out];rfl,Below.refl _ _⟩
 cases a2:decide (32 < vars)
 rotate_left
 ·have HF:=hdq (show Z=2 by rw[HZ.out];unfold chkN;rw[a1,a2];rfl)
  go_enter Tryz.func12,Tryz.ntmps12
  go_wp2_with fail
  go_ret
  exact⟨by rw[HF.out];rfl,Below.refl _ _⟩
 cases a3:decide (most < 1)
 rotate_left
 ·have HF:=hdq (show Z=2 by rw[HZ.out];unfold chkN;rw[a1,a2,a3];rfl)
  go_enter Tryz.func12,Tryz.ntmps12
  go_wp2_with fail
  go_ret
  exact⟨by rw[HF.out];rfl,Below.refl _ _⟩
 cases a4:decide (6 < most)
 rotate_left
 ·have HF:=hdq (show Z=2 by rw[HZ.out];unfold chkN;rw[a1,a2,a3,a4];rfl)
  go_enter Tryz.func12,Tryz.ntmps12
  go_wp2_with fail
  go_ret
  exact⟨by rw[HF.out];rfl,Below.refl _ _⟩
 have H0:=hdq (show(decide (vars < 0) || decide (32 < vars) || decide (most < 1) || decide (6 < most))=false by rw[a1,a2,a3,a4];rfl)
 have h6:most≤6:=by simpa using a4
 have hv0:0≤vars:=by simpa using a1
 have hv1:vars≤32:=by simpa using a2
 have H6:=hdq h6
 obtain⟨i0,hi,hz0,hz1,hz2⟩:=info_parts infoInt7
 have HI:=hdq (aiq hi (aiq hz0 (aiq hz1 hz2)))
 clear hi hz0 hz1 hz2
 have HS0:=hdq (ChkI.start w ls most)
 go_enter Tryz.func12,Tryz.ntmps12
 go_wp2_with fail
 go_loopw [7,8,27] (fun y1 y2 i wr=>∃k:Nat,k≤m∧i= .int .i64 k∧Hid (ChkI w wr ls most k y1 y2)) (fun _ _ i _=>m - (intOf i).toNat)
 case atStart=>exact⟨0,Nat.zero_le _,rfl,HS0⟩
 case round=>
  obtain⟨k,hk,rfl,hI⟩:=hrel
  have hb:=hI.out.below
  by_cases hlt:k < m
  ·obtain⟨l,hl⟩:∃l,ls[k]?=some l:=⟨_,List.getElem?_eq_getElem (by rw[←HM.out];exact hlt)⟩
   obtain⟨b,o,rfl,hbl,hat⟩:=HX.out (by rw[←HM.out];omega)
   obtain⟨A',c',c0,hs⟩:=hat k l hl
   have c0':=(Same.of hb (lrq _) ⟨b,o+k,none⟩ hbl).trans c0
   have bl:b < wr.heap.size:=ltq hbl hb.size
   have hsw:=hs.keep (Same.of hb (lrq _))
   have HR:=hdq (rises_any l A' c' w.heap.size wr hb.size hsw)
   have HL:=hdq hl
   have HB:=hdq hb
   have HSW:=hdq hs
   obtain⟨n,hn'⟩:=nmq l.length
   have HN:=hdq hn'
   have hnc:n≤c':=by rw[hn'];exact hs.1
   have hcm:c'≤9223372036854775807:=hs.2.1
   rw[←hn']at c0' HR
   clear hl hat c0 hs hsw hn' hb
   by_cases q1:(n:Int) < 1
   ·have HF:=hdq (show Z=8 by rw[HZ.out];exact chkN_bad H0.out HL.out (by unfold badRow;rw[←HN.out];simp only[q1,decide_true,Bool.true_or]))
    go_wp2_with fail
    go_ret
    exact⟨by rw[HF.out];rfl,HB.out⟩
   by_cases q2:most < (n:Int)
   ·have HF:=hdq (show Z=8 by rw[HZ.out];exact chkN_bad H0.out HL.out (by unfold badRow;rw[←HN.out];simp only[q2,decide_true,Bool.true_or,Bool.or_true]))
    go_wp2_with fail
    go_ret
    exact⟨by rw[HF.out];rfl,HB.out⟩
   cases q3:risB l
   ·have HF:=hdq (show Z=8 by rw[HZ.out];exact chkN_bad H0.out HL.out (by unfold badRow;rw[q3];simp))
    rw[q3]at HR
    clear q3
    go_wp2_with fail
    go_at_call 26
    refine HR.out.mono ?_
    rintro _ w1 ⟨rfl,hb1⟩
    have HB1:=hdq (HB.out.trans (hb1.mono HB.out.size))
    clear hb1
    go_wp2_with fail
    go_ret
    exact⟨by rw[HF.out];rfl,HB1.out⟩
   ·have HG:=hdq (show badRow most l=false by
     unfold badRow
     rw[q3,←HN.out]
     simp only[q1,q2,decide_false,Bool.or_false,Bool.not_true])
    rw[q3]at HR
    clear q3
    go_wp2_with fail
    go_at_call 26
    refine HR.out.mono ?_
    rintro _ w1 ⟨rfl,hb1⟩
    have hK:=hI.out.keep hb1
    obtain⟨b',o',rfl,hbl',hat'⟩:=HSW.out.2.2 (by rw[←HN.out];omega)
    obtain⟨x,hx0⟩:∃x,l[0]?=some x:=⟨_,List.getElem?_eq_getElem (by rw[←HN.out];omega)⟩
    have hk1:=hK.below
    have c0:=(Same.of hk1 (lrq _) ⟨b',o'+0,none⟩ hbl').trans (hat' 0 x hx0).1
    rw[Nat.add_zero]at c0
    have bl1:b' < w1.heap.size:=ltq hbl' hk1.size
    have hn0:0 < n:=by omega
    have HK:=hdq hK
    have HX0:=hdq hx0
    have HAT:=hdq hat'
    have hsz1:=hk1.size
    clear hb1 hK hx0 hat' c0' hI hk1
    go_wp2_with (at_builtin;refine wpList_append_own_at _ rfl _ _ 29 rfl w.heap.size 3 i0 (.int .i64 0) 1 8 Tryz.underlying29 HI.out.1 HI.out.2.1 HI.out.2.2.1 HI.out.2.2.2 rfl (by decide) _ _ _ rfl (HK.out.r1.alloc _) ⟨w1.heap.size,0,none⟩ 1 1 [.int .i64 x] rfl rfl ?c1 ?c2 ?c3 ?c4 ?c5 ?_)
    case c1=>exact cell_one_new _ _ _
    case c2=>
     intro u hu
     rw[List.mem_singleton.1 hu]
     rfl
    case c3=>unfold maxLen;omega
    case c4=>omega
    case c5=>simp;omega
    intro y1' w2 ho1 hg1 _ hn1
    have hr2:=HK.out.row2 hg1
    have hb2:=HK.out.mid hg1
    have hfl:(ls.take k).flatten.length ≤600000:=by
     have h:=flat_len H6.out HK.out.good
     rw[List.length_take]at h
     omega
    have HR2:=hdq hr2
    have HB2:=hdq hb2
    have HO1:=hdq ho1
    have HG1:=hdq hg1
    have HN1:=hdq hn1
    clear hr2 hb2 ho1 hg1 hn1
    go_wp2_with (at_builtin;refine wpList_append_own_at _ rfl _ _ 29 rfl w.heap.size 3 i0 (.int .i64 0) 1 8 Tryz.underlying29 HI.out.1 HI.out.2.1 HI.out.2.2.1 HI.out.2.2.2 rfl (by decide) _ _ _ rfl HR2.out ⟨b',o',none⟩ n c' (intZ l) rfl ?d0 ?d1 ?d2 ?d3 ?d4 ?d5 ?_)
    case d0=>simp[intZ,HN.out]
    case d1=>
     intro j u hj
     unfold intZ at hj
     rw[List.getElem?_map]at hj
     obtain⟨z,hz,rfl⟩:=Option.map_eq_some_iff.1 hj
     have hc:=(Same.of HB2.out (lrq _) ⟨b',o'+j,none⟩ hbl').trans (HAT.out j z hz).1
     unfold Addr.add
     by_cases hj0:j=0
     ·subst hj0;simpa using hc
     ·simpa[hj0]using hc
    case d2=>
     intro u hu
     unfold intZ at hu
     obtain⟨z,_,rfl⟩:=List.mem_map.1 hu
     rfl
    case d3=>unfold maxLen;omega
    case d4=>omega
    case d5=>exact HB2.out.size
    intro y2' w3 ho2 hg2 _ hn2
    have HNX:=hdq (HK.out.next (o:= .cells #[.int .i64 x] 3) HL.out HG.out HX0.out HG1.out HO1.out (by rw[World.size_alloc];exact HN1.out) hg2 (by rw[←HN.out,List.length_flatten,List.map_take];exact ho2) hn2)
    clear ho2 hg2 hn2
    go_wp2_with fail
    go_roundw
    case rel=>exact⟨k+1,by omega,by go_num,HNX⟩
    case measure=>simp[intOf];omega
  ·obtain rfl:k=m:=by omega
   have hK:=hI.out
   have htk:ls.take k=ls:=List.take_of_length_le (by rw[←HM.out];exact lrq _)
   have hg:=hK.good
   have hr1:=hK.r1
   have hr2:=hK.r2
   rw[htk]at hg hr1 hr2
   have hend:=chkN_end H0.out hg
   rw[←HZ.out]at hend
   have h64:∀l∈ls,∀x∈l,in64 x:=fun l hl x hx=>by
    obtain⟨i,hi⟩:=List.getElem?_of_mem hl
    obtain⟨j,hj⟩:=List.getElem?_of_mem hx
    obtain⟨b,o,_,_,hat⟩:=HX.out (List.length_pos_of_mem hl)
    obtain⟨_,_,_,hs⟩:=hat i l hi
    obtain⟨_,_,_,_,ha⟩:=hs.2.2 (List.length_pos_of_mem hx)
    exact(ha j x hj).2
   have hfl:=flat_len H6.out hg
   rw[←HM.out]at hfl
   obtain⟨n2,hn2⟩:=nmq ls.flatten.length
   rw[←hn2]at hr2 hfl
   have HSORT:=hdq (sort_row wr hr2 (by omega))
   have HAP:=hdq (ap_ne' hK.ap)
   have hown2:∀g,u8.ownBlock=some g→w.heap.size≤g:=fun g hg=>(own_lt hr2 hg).1
   have HOWN2:=hdq hown2
   have HEND:=hdq hend
   have HR1:=hdq hr1
   have H64:=hdq h64
   have HB:=hdq hb
   have HN2:=hdq hn2
   clear hK htk hg hr1 hr2 hend h64 hfl hn2 hown2 hI hb
   go_wp2_with fail
   go_at_call 22
   refine HSORT.out.mono ?_
   rintro _ w1 ⟨rfl,hrow,hgr⟩
   have hb1:Below w.heap.size w w1:=HB.out.grown hgr HB.out.size HOWN2.out
   have hr1:=HR1.out.kept hgr HAP.out
   obtain⟨hk1,A1,c1,rfl,hs1⟩:=isSl_row hr1 (lrq _) (fun x hx=>by
    obtain⟨l,hl,rfl⟩:=List.mem_map.1 hx
    cases l with
    |nil=>exact⟨by decide,by decide⟩
    |cons a l=>exact H64.out _ hl a (List.mem_cons_self ..))
   obtain⟨hk2,A2,c2,rfl,hs2⟩:=isSl_row hrow (lrq _) (fun x hx=>by
    unfold sortZ at hx
    obtain⟨l,hl,hxl⟩:=List.mem_flatten.1 ((List.mergeSort_perm _ leZ).mem_iff.1 hx)
    exact H64.out l hl x hxl)
   have hend2:Z=if chkB vars (hdsZ ls) (sortZ ls.flatten)then 8 else 0:=HEND.out
   obtain⟨fs,hfs⟩:=nmq (hdsZ ls)
   obtain⟨al,hal⟩:=nmq (sortZ ls.flatten)
   rw[←hfs]at hs1 hend2 ⊢
   rw[←hal]at hs2 hend2 ⊢
   unfold chkB at hend2
   obtain⟨nf,hnf⟩:=nmq fs.length
   obtain⟨na,hna⟩:=nmq al.length
   have HRA:=hdq (rises_any fs A1 c1 _ w1 (lrq _) hs1)
   have HRB:=hdq (fun(W:World) (h:Below w1.heap.size w1 W)=>rises_any al A2 c2 w1.heap.size W h.size (hs2.keep (Same.of h (lrq _))))
   have HS2:=hdq hs2
   have hnac:na≤c2:=by rw[hna];exact hs2.1
   have hc2:c2≤9223372036854775807:=hs2.2.1
   rw[←hnf]at HRA ⊢
   rw[←hna]at HRB hend2 ⊢
   have HNA:=hdq hna
   have HB1:=hdq hb1
   clear hr1 hrow hgr hfs hal hnf hna hs1 hs2 hk1 hk2 hb1
   cases qa:risB fs
   ·have HF:=hdq (show Z=8 by rw[hend2,qa];rfl)
    rw[qa]at HRA
    clear qa hend2
    go_wp2_with fail
    go_at_call 26
    refine HRA.out.mono ?_
    rintro _ w2 ⟨rfl,hb2⟩
    have HB2:=hdq (HB1.out.trans (hb2.mono HB1.out.size))
    clear hb2
    go_wp2_with fail
    go_ret
    exact⟨by rw[HF.out];rfl,HB2.out⟩
   rw[qa]at HRA hend2
   cases qb:risB al
   ·have HF:=hdq (show Z=8 by rw[hend2,qb];rfl)
    rw[qb]at HRB
    clear qa qb hend2
    go_wp2_with fail
    go_at_call 26
    refine HRA.out.mono ?_
    rintro _ w2 ⟨rfl,hb2⟩
    have HRB2:=hdq (HRB.out w2 hb2)
    have HB2:=hdq (HB1.out.trans (hb2.mono HB1.out.size))
    clear hb2
    go_wp2_with fail
    go_at_call 26
    refine HRB2.out.mono ?_
    rintro _ w3 ⟨rfl,hb3⟩
    have HB3:=hdq (HB2.out.trans (hb3.mono HB2.out.size))
    clear hb3
    go_wp2_with fail
    go_ret
    exact⟨by rw[HF.out];rfl,HB3.out⟩
   rw[qb]at HRB hend2
   clear qa qb
   simp only[Bool.not_true,Bool.false_or]at hend2
   have HEND2:=hdq hend2
   clear hend2
   go_wp2_with fail
   go_at_call 26
   refine HRA.out.mono ?_
   rintro _ w2 ⟨rfl,hb2⟩
   have HRB2:=hdq (HRB.out w2 hb2)
   have HB2:=hdq (HB1.out.trans (hb2.mono HB1.out.size))
   have HC2:=hdq hb2
   clear hb2
   by_cases h3:(na:Int)=vars
   rotate_left
   ·have HF:=hdq (show Z=8 by rw[HEND2.out];simp[h3])
    go_wp2_with fail
    go_at_call 26
    refine HRB2.out.mono ?_
    rintro _ w3 ⟨rfl,hb3⟩
    have HB3:=hdq (HB2.out.trans (hb3.mono HB2.out.size))
    clear hb3
    go_wp2_with fail
    go_ret
    exact⟨by rw[HF.out];rfl,HB3.out⟩
   subst h3
   by_cases h4:0 < na
   rotate_left
   ·obtain rfl:na=0:=by omega
    have HF:=hdq (show Z=0 by rw[HEND2.out];simp)
    go_wp2_with fail
    go_at_call 26
    refine HRB2.out.mono ?_
    rintro _ w3 ⟨rfl,hb3⟩
    have HB3:=hdq (HB2.out.trans (hb3.mono HB2.out.size))
    clear hb3
    go_wp2_with fail
    go_ret
    exact⟨by rw[HF.out];rfl,HB3.out⟩
   obtain⟨b,o,rfl,hat⟩:=HS2.out.2.2 (by rw[←HNA.out];exact h4)
   obtain⟨x0,hx0⟩:∃x,al[0]?=some x:=⟨_,List.getElem?_eq_getElem (by rw[←HNA.out];exact h4)⟩
   obtain⟨x1,hx1⟩:∃x,al[na - 1]?=some x:=⟨_,List.getElem?_eq_getElem (by rw[←HNA.out];omega)⟩
   have hend3:Z=if(!(x0==0) || !(x1==(na:Int) - 1))then 8 else 0:=by
    rw[HEND2.out]
    have e1:((na:Int) - 1).toNat =na - 1:=by omega
    have e2:decide (0 < (na:Int))=true:=by simpa using h4
    rw[e1,e2,List.getD_eq_getElem?_getD,List.getD_eq_getElem?_getD,hx0,hx1]
    simp
   have hwr:wrap64 ((na:Int) - 1)=(na:Int) - 1:=by unfold wrap64;omega
   have htn:((na:Int) - 1).toNat =na - 1:=by omega
   have hlo:(0:Int)≤(na:Int) - 1:=by omega
   have hhi:((na:Int) - 1) < (na:Int):=by omega
   have hpo:(0:Int) < (na:Int):=by omega
   have HAT:=hdq (aiq hat (aiq hx0 hx1))
   have HEND3:=hdq hend3
   clear hat hx0 hx1 hend3
   go_wp2_with fail
   go_at_call 26
   refine HRB2.out.mono ?_
   rintro _ w3 ⟨rfl,hb3⟩
   have HB3:=hdq (HB2.out.trans (hb3.mono HB2.out.size))
   have hat3:=(HAT.out.1.keep (Same.of HC2.out (lrq _))).keep (Same.of hb3 HC2.out.size)
   have c0:=(hat3.2 0 x0 HAT.out.2.1).1
   have c1:=(hat3.2 (na - 1) x1 HAT.out.2.2).1
   rw[Nat.add_zero]at c0
   have bl:b < w3.heap.size:=ltq hat3.1 (leq9 HC2.out.size hb3.size)
   clear hb3 hat3
   by_cases g0:x0=0
   rotate_left
   ·have HF:=hdq (show Z=8 by rw[HEND3.out];simp[g0])
    go_wp2_with fail
    go_ret
    exact⟨by rw[HF.out];rfl,HB3.out⟩
   by_cases g1:x1=(na:Int) - 1
   ·have HF:=hdq (show Z=0 by rw[HEND3.out];simp[g0,g1])
    go_wp2_with fail
    go_ret
    exact⟨by rw[HF.out];rfl,HB3.out⟩
   ·have HF:=hdq (show Z=8 by rw[HEND3.out];simp[g1])
    go_wp2_with fail
    go_ret
    exact⟨by rw[HF.out];rfl,HB3.out⟩
end Go.Proofs.YtphlnpaikpjakaaGreatDoor
