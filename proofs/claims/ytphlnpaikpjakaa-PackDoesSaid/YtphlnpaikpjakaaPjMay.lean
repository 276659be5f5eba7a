/-
  facetroomref26.May, Check.
-/
import Derived.Test.YtphlnpaikpjakaaPjFind
set_option linter.unusedVariables false
set_option linter.unusedSimpArgs false
namespace Go.Proofs.Ytphlnpaikpjakaa
open Go.RowKit Go.Shelf

theorem nodup_le {L:List Int} {v:Nat} (hn:L.Nodup) (hs:∀x∈L,0≤x∧x < (v:Int)):L.length≤v:=by
 by_cases h:v≤L.length
 ·have hp:=perm_of_sub (R:=(List.range v).map fun(i:Nat)=>(i:Int)) hn (fun x hx=>by
   have:=hs x hx
   exact List.mem_map.2 ⟨x.toNat,List.mem_range.2 (by omega),by omega⟩) (by simpa using h)
  have:=hp.length_eq
  simp at this
  omega
 ·omega
theorem rise_snoc {l:List Int} {x:Int} (h:l.Pairwise (· < ·)) (hx:∀(i:Nat) (y:Int),i+1=l.length→l[i]?=some y→y < x):(l++ [x]).Pairwise (· < ·):=by
 refine List.pairwise_append.2 ⟨h,by simp,fun a ha b hb=>?_⟩
 obtain rfl:=List.mem_singleton.1 hb
 obtain⟨i,hi⟩:=List.getElem?_of_mem ha
 obtain⟨hil,hie⟩:=List.getElem?_eq_some_iff.1 hi
 have hlast:=hx (l.length - 1) l[l.length - 1] (by omega) (List.getElem?_eq_getElem (by omega))
 by_cases e:i=l.length - 1
 ·subst e;rw[hie]at hlast;exact hlast
 ·have:=List.pairwise_iff_getElem.1 h i (l.length - 1) hil (by omega) (by omega)
  omega
structure MayI (w wr:World) (v:Nat) (most:Int) (ls:List (List Int)) (k:Nat):Prop where
 good:GoodR v most (ls.take k)
 marks:MkB wr w.heap.size v (fun j=>(ls.take k).flatten.contains (j:Int))
 below:Below w.heap.size w wr
structure MayJ (w wr:World) (v:Nat) (pre l:List Int) (q:Nat):Prop where
 within:∀x∈l.take q,0≤x∧x < (v:Int)
 once:(pre++l.take q).Nodup
 rise:(l.take q).Pairwise (· < ·)
 marks:MkB wr w.heap.size v (fun j=>(pre++l.take q).contains (j:Int))
 below:Below w.heap.size w wr
def okL (v:Nat) (most:Int) (ls:List (List Int)):Prop:=GoodR v most ls∧(ls.flatten.length:Int)=v
theorem no_row {v:Nat} {most:Int} {ls:List (List Int)} {k:Nat} {l:List Int} (hl:ls[k]?=some l) (hb:badRow most l=true):¬okL v most ls:=fun h=>by
 have:=h.1.row l (List.mem_of_getElem? hl)
 rw[hb]at this;cases this
theorem no_head {v:Nat} {most:Int} {ls:List (List Int)} {k:Nat} {l l':List Int} {x y:Int} (hl:ls[k+1]?=some l) (hl':ls[k]?=some l') (hx:l[0]?=some x) (hy:l'[0]?=some y) (h:x≤y):¬okL v most ls:=fun hg=>by
 have hp:=hg.1.heads
 have g1:(hdsZ ls)[k]?=some y:=by unfold hdsZ;rw[List.getElem?_map,hl'];cases l' with|nil=>simp at hy|cons a r=>simp at hy;simp[hy]
 have g2:(hdsZ ls)[k+1]?=some x:=by unfold hdsZ;rw[List.getElem?_map,hl];cases l with|nil=>simp at hx|cons a r=>simp at hx;simp[hx]
 have:=rise_not g1 g2 h
 unfold risB at this
 rw[decide_eq_false_iff_not]at this
 exact this hp
theorem flat_mem {ls:List (List Int)} {k q:Nat} {l:List Int} {x:Int} (hl:ls[k]?=some l) (hx:l[q]?=some x):x∈ls.flatten:=List.mem_flatten.2 ⟨l,List.mem_of_getElem? hl,List.mem_of_getElem? hx⟩
theorem flat_cut {ls:List (List Int)} {k q:Nat} {l:List Int} {x:Int} (hl:ls[k]?=some l) (hx:l[q]?=some x):∃r,ls.flatten=((ls.take k).flatten ++l.take q)++x::r:=by
 obtain⟨h1,e1⟩:=List.getElem?_eq_some_iff.1 hl
 obtain⟨h2,e2⟩:=List.getElem?_eq_some_iff.1 hx
 have a1:ls=ls.take k++l::ls.drop (k+1):=by
  conv=>lhs;rw[←List.take_append_drop k ls,List.drop_eq_getElem_cons h1,e1]
 have a2:l=l.take q++x::l.drop (q+1):=by
  conv=>lhs;rw[←List.take_append_drop q l,List.drop_eq_getElem_cons h2,e2]
 refine⟨l.drop (q+1)++(ls.drop (k+1)).flatten,?_⟩
 conv=>lhs;rw[a1,List.flatten_append,List.flatten_cons]
 conv=>lhs;rw[a2]
 simp
theorem no_once {v:Nat} {most:Int} {ls:List (List Int)} {k q:Nat} {l:List Int} {x:Int} (hl:ls[k]?=some l) (hx:l[q]?=some x) (hc:((ls.take k).flatten ++l.take q).contains x=true):¬okL v most ls:=fun h=>by
 obtain⟨r,e⟩:=flat_cut hl hx
 have hn:=h.1.once
 rw[e]at hn
 have hc:x∈(ls.take k).flatten ++l.take q:=by simpa using hc
 exact(List.nodup_append.1 hn).2.2 x hc x (List.mem_cons_self ..) rfl
theorem MayJ.next {w wr w':World} {v:Nat} {pre l:List Int} {q nx:Nat} (h:MayJ w wr v pre l q) (hx:l[q]?=some (nx:Int)) (hv:nx < v) (hs:(pre++l.take q).contains (nx:Int)=false) (hr:∀(i:Nat) (y:Int),i+1=q→l[i]?=some y→y < (nx:Int)) (hw:w'=wr.setCell ⟨w.heap.size,nx,none⟩ (.bool true)):MayJ w w' v pre l (q+1):=by
 have ht:l.take (q+1)=l.take q++ [(nx:Int)]:=by rw[List.take_add_one,hx];rfl
 have hql:=(List.getElem?_eq_some_iff.1 hx).1
 have hlen:(l.take q).length =q:=by rw[List.length_take];omega
 have hnm:(nx:Int)∉pre++l.take q:=by rw[←List.contains_iff_mem,hs];simp
 refine⟨fun x hx=>?_,?_,?_,?_,?_⟩
 ·rw[ht]at hx
  rcases List.mem_append.1 hx with hx|hx
  ·exact h.within x hx
  ·rw[List.mem_singleton.1 hx];omega
 ·rw[ht,←List.append_assoc]
  refine List.nodup_append.2 ⟨h.once,by simp,fun a ha b hb=>?_⟩
  rw[List.mem_singleton.1 hb]
  exact fun e=>hnm (e▸ha)
 ·rw[ht]
  refine rise_snoc h.rise fun i y hi hy=>?_
  rw[hlen]at hi
  rw[List.getElem?_take,if_pos (by omega)]at hy
  exact hr i y hi hy
 ·have hm:=h.marks.set_ hv
  rw[←hw]at hm
  have e:(fun(j:Nat)=>(pre++l.take (q+1)).contains (j:Int))=fun(j:Nat)=>(pre++l.take q).contains (j:Int) || j==nx:=by
   funext j
   rw[ht,←List.append_assoc,List.contains_eq_any_beq,List.contains_eq_any_beq,List.any_append]
   have e2:((j:Int)==(nx:Int))=(j==nx):=by
    by_cases h:j=nx
    ·subst h;simp
    ·have h1:(j==nx)=false:=by simpa using h
     have h2:((j:Int)==(nx:Int))=false:=by simp only[beq_eq_false_iff_ne,ne_eq];omega
     rw[h1,h2]
   simp[e2]
  rw[e]
  exact hm
 ·rw[hw]
  exact h.below.setCell (p:=⟨w.heap.size,nx,none⟩) (lrq _) _
theorem MayI.next {w wr w':World} {v:Nat} {most:Int} {ls:List (List Int)} {k:Nat} (h:MayI w wr v most ls k) {l:List Int} (hl:ls[k]?=some l) (h1:1≤(l.length:Int)) (h2:(l.length:Int)≤most) (hh:∀(i:Nat) (l':List Int) (x y:Int),i+1=k→ls[i]?=some l'→l[0]?=some x→l'[0]?=some y→y < x)
  (hj:MayJ w w' v (ls.take k).flatten l l.length):MayI w w' v most ls (k+1):=by
 have ht:ls.take (k+1)=ls.take k++ [l]:=by rw[List.take_add_one,hl];rfl
 have hkl:=(List.getElem?_eq_some_iff.1 hl).1
 have hlt:l.take l.length=l:=List.take_of_length_le (lrq _)
 have hf:(ls.take (k+1)).flatten =(ls.take k).flatten ++l:=by rw[ht];simp
 refine⟨⟨fun l' hl'=>?_,?_,?_,?_⟩,?_,hj.below⟩
 ·rw[ht]at hl'
  rcases List.mem_append.1 hl' with hl'|hl'
  ·exact h.good.row l' hl'
  ·rw[List.mem_singleton.1 hl']
   unfold badRow risB
   have:=hj.rise
   rw[hlt]at this
   simp[this]
   omega
 ·have e:hdsZ (ls.take (k+1))=hdsZ (ls.take k)++ [l.headD 0]:=by rw[ht];unfold hdsZ;rw[List.map_append];rfl
  rw[e]
  refine rise_snoc h.good.heads fun i y hi hy=>?_
  unfold hdsZ at hi hy
  rw[List.length_map,List.length_take]at hi
  rw[List.getElem?_map,List.getElem?_take,if_pos (by omega)]at hy
  obtain⟨l',hl',hye⟩:=Option.map_eq_some_iff.1 hy
  have hb:=h.good.row l' (List.mem_of_getElem? (i:=i) (by rw[List.getElem?_take,if_pos (by omega)];exact hl'))
  cases l with
  |nil=>simp at h1
  |cons a r=>
   cases l' with
   |nil=>unfold badRow at hb;simp at hb
   |cons b r'=>
    have:=hh i (b::r') a b (by omega) hl' rfl rfl
    simp at hye
    simp
    omega
 ·intro x hx
  rw[hf]at hx
  rcases List.mem_append.1 hx with hx|hx
  ·exact h.good.within x hx
  ·exact hj.within x (by rw[hlt];exact hx)
 ·rw[hf]
  have:=hj.once
  rwa [hlt]at this
 ·have hm:=hj.marks
  rw[hlt]at hm
  rw[hf]
  exact hm
theorem MayI.into {w wr:World} {v:Nat} {most:Int} {ls:List (List Int)} {k:Nat} (h:MayI w wr v most ls k) {w':World} {q:Nat} (hw:w'=wr.drewN q) (l:List Int):MayJ w w' v (ls.take k).flatten l 0:=by
 subst hw
 refine⟨by simp,by simpa using h.good.once,by simp,?_,⟨h.below.os,h.below.tape,h.below.output,h.below.size,h.below.block⟩⟩
 have h2:MkB (wr.drewN q) w.heap.size v (fun j=>(ls.take k).flatten.contains (j:Int)):=h.marks
 simpa using h2
def MayP (v:Nat) (most:Int) (ls:List (List Int)) (W:World) (e:Ending) (w':World):Prop:=∃b,e= .returned (.bool b)∧(b=true↔okL v most ls)∧Below W.heap.size W w'
set_option maxRecDepth 100000 in
set_option maxHeartbeats 3200000 in
theorem mayR_any (v:Nat) (most:Int) (ls:List (List Int)) (y:Value) (w:World) (hx:LsM w w.heap.size ls y) (hv:v≤32):
  Calls Try.prog 27 #[.int .i64 (v:Int),.int .i64 most,y] w (MayP v most ls w):=by
 obtain⟨A,c,rfl,h1,h2,h3⟩:=hx
 obtain⟨m,hm⟩:=nmq ls.length
 rw[←hm]at h1 ⊢
 have HX:=hdq h3
 have HM:=hdq hm
 have hmk:=fun(W:World)=>run_mkB v (by omega) W
 obtain⟨nz,hnz⟩:=nmq ((List.replicate v (Value.bool false)).toArray )
 simp only[←hnz]at hmk
 obtain⟨w1,hw1⟩:=nmq (w.alloc (.cells nz 4))
 have hb1:Below w.heap.size w w1:=by rw[hw1];exact(Below.refl _ _).alloc (lrq _) _
 have HS:=hdq (show MayI w w1 v most ls 0 from⟨⟨fun l h=>by simp at h,by simp[hdsZ],fun x h=>by simp at h,by simp⟩,by
  rw[hw1,hnz]
  have e:(fun(j:Nat)=>(ls.take 0).flatten.contains (j:Int))=fun _=>false:=by funext j;simp
  rw[e]
  exact MkB.new w v,hb1⟩)
 have HW1:=hdq hw1
 have fin:∀(b:Bool) (W:World),(b=true↔okL v most ls)→Below w.heap.size w W→MayP v most ls w (.returned (.bool b)) W:=fun b W h1 h2=>⟨b,rfl,h1,h2⟩
 have FIN:=hdq fin
 clear h3 hm hnz hw1 hb1 fin
 go_enter Try.func27,Try.ntmps27
 go_wp2_with fail
 rw[←HW1.out]
 go_loopw [8,9] (fun many i wr=>∃k:Nat,k≤m∧i= .int .i64 k∧many= .int .i64 ((ls.take k).flatten.length :Nat)∧Hid (MayI w wr v most ls k)) (fun _ i _=>m - (intOf i).toNat)
 case atStart=>exact⟨0,Nat.zero_le _,rfl,by simp,HS⟩
 case round=>
  obtain⟨k,hk,rfl,hmany,hI⟩:=hrel
  have hpre:=nodup_le hI.out.good.once hI.out.good.within
  obtain⟨np,hnp⟩:=nmq ((ls.take k).flatten.length )
  rw[←hnp]at hmany hpre
  subst hmany
  have HNP:=hdq hnp
  clear hnp
  by_cases hlt:k < m
  ·obtain⟨l,hl⟩:∃l,ls[k]?=some l:=⟨_,List.getElem?_eq_getElem (by rw[←HM.out];exact hlt)⟩
   obtain⟨b,o,rfl,hbl,hat⟩:=HX.out (by rw[←HM.out];omega)
   obtain⟨A',c',c0,hs⟩:=hat k l hl
   have hbw:=hI.out.below
   have hsm:Same w.heap.size w wr:=Same.of hbw (lrq _)
   have e0:=(hsm ⟨b,o+k,none⟩ hbl).trans c0
   have el:b < wr.heap.size:=ltq hbl hbw.size
   obtain⟨nl,hnl⟩:=nmq l.length
   rw[←hnl]at e0 c0
   have HNL:=hdq hnl
   have HL:=hdq hl
   have HS1:=hdq hs
   have HAT:=hdq hat
   have HI:=hdq hI.out
   have hnl63:nl≤9223372036854775807:=by rw[hnl];exact leq9 hs.1 hs.2.1
   clear hl hs hat hI hnl
   by_cases q1:(nl:Int) < 1
   ·have HF:=hdq (show(false=true)↔okL v most ls from⟨fun h=>(by cases h),fun h=>(no_row HL.out (by unfold badRow;rw[←HNL.out,decide_eq_true q1];rfl) h).elim⟩)
    have q1b:=decide_eq_true q1
    clear c0 hsm
    go_wp2_with fail
    go_quiet (fail)
    go_wp2_with fail
    go_ret
    exact FIN.out _ _ HF.out ⟨HI.out.below.os,HI.out.below.tape,HI.out.below.output,HI.out.below.size,HI.out.below.block⟩
   have q1b:=decide_eq_false q1
   by_cases q2:most < (nl:Int)
   ·have HF:=hdq (show(false=true)↔okL v most ls from⟨fun h=>(by cases h),fun h=>(no_row HL.out (by unfold badRow;rw[←HNL.out,decide_eq_true q2,Bool.or_true];rfl) h).elim⟩)
    have q2b:=decide_eq_true q2
    clear c0 hsm
    go_wp2_with fail
    go_quiet (fail)
    go_wp2_with fail
    go_ret
    exact FIN.out _ _ HF.out ⟨HI.out.below.os,HI.out.below.tape,HI.out.below.output,HI.out.below.size,HI.out.below.block⟩
   have q2b:=decide_eq_false q2
   obtain⟨b1,o1,rfl,hb1,hat1⟩:=HS1.out.2.2 (by rw[←HNL.out];omega)
   obtain⟨x0,hx0⟩:∃x,l[0]?=some x:=⟨_,List.getElem?_eq_getElem (by rw[←HNL.out];omega)⟩
   have g0:=(hsm ⟨b1,o1+0,none⟩ hb1).trans (hat1 0 x0 hx0).1
   rw[Nat.add_zero]at g0
   have gl1:b1 < wr.heap.size:=ltq hb1 hbw.size
   have hnl0:0 < nl:=by omega
   have hcut:∀(W:World),(∃q,W=wr.drewN q)→(∀(i:Nat) (l':List Int) (x y:Int),i+1=k→ls[i]?=some l'→l[0]?=some x→l'[0]?=some y→y < x)→MayJ w W v (ls.take k).flatten l 0∧(∀(W':World),MayJ w W' v (ls.take k).flatten l l.length→MayI w W' v most ls (k+1)):=fun W hW hh=>by
    obtain⟨q,hq⟩:=hW
    exact⟨HI.out.into hq l,fun W' h=>HI.out.next HL.out (by rw[←HNL.out];omega) (by rw[←HNL.out];omega) hh h⟩
   have HCUT:=hdq hcut
   have HAT1:=hdq hat1
   have HC0:=hdq c0
   clear hat1 hcut
   by_cases hk0:k=0
   ·have hkb:decide (0 < k)=false:=by rw[decide_eq_false_iff_not];omega
    have HH:=hdq (show ∀(i:Nat) (l':List Int) (x y:Int),i+1=k→ls[i]?=some l'→l[0]?=some x→l'[0]?=some y→y < x from fun i l' x y hi=>by omega)
    clear hx0 c0 hk0
    go_wp2_with fail
    go_quiet (fail)
    go_wp2_with fail
    go_loopw [8,10] (fun many i wq=>∃q:Nat,q≤nl∧i= .int .i64 q∧many= .int .i64 ((np+q:Nat):Int)∧Hid (MayJ w wq v (ls.take k).flatten l q)) (fun _ i _=>nl - (intOf i).toNat)
    case atStart=>exact⟨0,Nat.zero_le _,rfl,rfl,(HCUT.out _ ⟨_,rfl⟩ HH.out).1⟩
    case round=>
     obtain⟨q,hq,rfl,rfl,hJ⟩:=hrel
     have hbj:=hJ.out.below
     have hsj:Same w.heap.size w wr:=Same.of hbj (lrq _)
     obtain⟨A9,c9,c0,_⟩:=HAT.out k l HL.out
     have hA9:some (Value.slice A9 l.length c9)=some (.slice (some ⟨b1,o1,none⟩) nl c'):=by rw[←c0];exact HC0.out
     have e0:wr.cell? ⟨b,o+k,none⟩=some (.slice (some ⟨b1,o1,none⟩) nl c'):=(hsj ⟨b,o+k,none⟩ hbl).trans HC0.out
     have el:b < wr.heap.size:=ltq hbl hbj.size
     have el1:b1 < wr.heap.size:=ltq hb1 hbj.size
     have hnq:np+q≤64:=by
      have h1:=nodup_le hJ.out.once (v:=v) (fun x hx=>by
       rcases List.mem_append.1 hx with hx|hx
       ·exact HI.out.good.within x hx
       ·exact hJ.out.within x hx)
      rw[List.length_append,List.length_take,←HNP.out,←HNL.out]at h1
      omega
     clear c0 hA9
     by_cases hlt2:q < nl
     ·obtain⟨x,hx⟩:∃x,l[q]?=some x:=⟨_,List.getElem?_eq_getElem (by rw[←HNL.out];exact hlt2)⟩
      have x0c:=(hsj ⟨b1,o1+q,none⟩ hb1).trans (HAT1.out q x hx).1
      have HJ:=hdq hJ.out
      have HX1:=hdq hx
      clear hJ hx hsj
      by_cases hx0:x < 0
      ·have HF:=hdq (show(false=true)↔okL v most ls from⟨fun h=>(by cases h),fun h=>absurd (h.1.within x (flat_mem HL.out HX1.out)).1 (by omega)⟩)
       have hxb:=decide_eq_true hx0
       go_wp2_with fail
       go_ret
       exact FIN.out _ _ HF.out HJ.out.below
      have hxb:=decide_eq_false hx0
      by_cases hxv:(v:Int)≤x
      ·have HF:=hdq (show(false=true)↔okL v most ls from⟨fun h=>(by cases h),fun h=>absurd (h.1.within x (flat_mem HL.out HX1.out)).2 (by omega)⟩)
       have hxb2:=decide_eq_true hxv
       go_wp2_with fail
       go_ret
       exact FIN.out _ _ HF.out HJ.out.below
      have hxb2:=decide_eq_false hxv
      obtain⟨nx,hnx⟩:∃nx:Nat,x=(nx:Int):=⟨x.toNat,by omega⟩
      subst hnx
      have hnxv:nx < v:=by omega
      have hnxv2:(nx:Int) < (v:Int):=by omega
      have m0:=HJ.out.marks.cell hnxv
      have m1:=Bk.frozen HJ.out.marks nx
      have ml:=Bk.lt HJ.out.marks
      cases hmk2:((ls.take k).flatten ++l.take q).contains (nx:Int)
      rotate_left
      ·have HF:=hdq (show(false=true)↔okL v most ls from⟨fun h=>(by cases h),fun h=>(no_once HL.out HX1.out hmk2 h).elim⟩)
       rw[hmk2]at m0
       clear hmk2
       go_wp2_with fail
       go_ret
       exact FIN.out _ _ HF.out HJ.out.below
      rw[hmk2]at m0
      have HMK:=hdq hmk2
      clear hmk2
      by_cases hq0:q=0
      ·have hqb:decide (0 < q)=false:=by rw[decide_eq_false_iff_not];omega
       have hqz:¬0 < q:=by omega
       have HN:=hdq (HJ.out.next HX1.out hnxv HMK.out (fun i y hi=>by omega) rfl)
       clear hq0
       go_wp2_with fail
       go_roundw
       case rel=>exact⟨q+1,by omega,by go_num,by go_num,HN⟩
       case measure=>simp[intOf];omega
      ·obtain⟨qp,hqp⟩:∃qp,q=qp+1:=⟨q - 1,by omega⟩
       have hqb:decide (0 < q)=true:=by rw[decide_eq_true_eq];omega
       have hqz:0 < q:=by omega
       have hw9:wrap64 ((q:Int) - 1)=(qp:Int):=by unfold wrap64;omega
       have hw10:IntKind.i64.wrap ((q:Int) - 1)=(qp:Int):=by rw[IntWalk.i64_left];exact hw9
       have hqpl:qp < nl:=by omega
       have hqpl2:(qp:Int) < (nl:Int):=by omega
       obtain⟨z,hz⟩:∃x,l[qp]?=some x:=⟨_,List.getElem?_eq_getElem (by rw[←HNL.out];exact hqpl)⟩
       have z0c:=(Same.of HJ.out.below (lrq _) ⟨b1,o1+qp,none⟩ hb1).trans (HAT1.out qp z hz).1
       by_cases hxz:(nx:Int)≤z
       ·have HF:=hdq (show(false=true)↔okL v most ls from⟨fun h=>(by cases h),fun h=>(no_row HL.out (by
         have hr:=rise_not hz (by rw[←hqp];exact HX1.out) hxz
         unfold badRow
         rw[hr];simp) h).elim⟩)
        have hzb:=decide_eq_true hxz
        clear hq0 hqp hz
        go_wp2_with fail
        go_ret
        exact FIN.out _ _ HF.out HJ.out.below
       ·have HN:=hdq (HJ.out.next HX1.out hnxv HMK.out (fun i y hi hy=>by
         obtain rfl:i=qp:=by omega
         rw[hz]at hy
         obtain rfl:=Option.some.inj hy
         omega) rfl)
        have hzb:=decide_eq_false hxz
        clear hq0 hqp hz
        go_wp2_with fail
        go_roundw
        case rel=>exact⟨q+1,by omega,by go_num,by go_num,HN⟩
        case measure=>simp[intOf];omega
     ·obtain rfl:q=nl:=by omega
      have HN:=hdq ((HCUT.out _ ⟨0,rfl⟩ HH.out).2 wr (by have h:=hJ.out;rw[HNL.out]at h;exact h))
      have HNK:=hdq (show np+q=(ls.take (k+1)).flatten.length by
       rw[List.take_add_one,HL.out,List.flatten_append,List.length_append,←HNP.out,HNL.out];simp)
      clear hJ hsj
      go_wp2_with fail
      go_roundw
      case rel=>exact⟨k+1,by omega,by go_num,by rw[HNK.out],HN⟩
      case measure=>simp[intOf];omega
   ·obtain⟨kp,hkp⟩:∃kp,k=kp+1:=⟨k - 1,by omega⟩
    have hkb:decide (0 < k)=true:=by rw[decide_eq_true_eq];omega
    have hw:wrap64 ((k:Int) - 1)=(kp:Int):=by unfold wrap64;omega
    have hw2:IntKind.i64.wrap ((k:Int) - 1)=(kp:Int):=by rw[IntWalk.i64_left];exact hw
    have hkpm:kp < m:=by omega
    have hkpm2:(kp:Int) < (m:Int):=by omega
    obtain⟨lp,hlp⟩:∃l,ls[kp]?=some l:=⟨_,List.getElem?_eq_getElem (by rw[←HM.out];exact hkpm)⟩
    obtain⟨A2,c2,d0,hs2⟩:=HAT.out kp lp hlp
    have hbp:=HI.out.good.row lp (List.mem_of_getElem? (i:=kp) (by rw[List.getElem?_take,if_pos (by omega)];exact hlp))
    obtain⟨np',hnp'⟩:=nmq lp.length
    have hnp0:0 < np':=by
     rw[hnp']
     cases lp with
     |nil=>unfold badRow at hbp;simp at hbp
     |cons _ _=>simp
    obtain⟨b2,o2,rfl,hb2,hat2⟩:=hs2.2.2 (by omega)
    obtain⟨y0,hy0⟩:∃x,lp[0]?=some x:=⟨_,List.getElem?_eq_getElem (by omega)⟩
    have d1:=(hsm ⟨b,o+kp,none⟩ hbl).trans d0
    have d2:=(hsm ⟨b2,o2+0,none⟩ hb2).trans (hat2 0 y0 hy0).1
    rw[Nat.add_zero]at d2
    rw[←hnp']at d1
    have dl2:b2 < wr.heap.size:=ltq hb2 hbw.size
    by_cases hxy:x0≤y0
    ·have HF:=hdq (show(false=true)↔okL v most ls from⟨fun h=>(by cases h),fun h=>(no_head (k:=kp) (by rw[←hkp];exact HL.out) hlp hx0 hy0 hxy h).elim⟩)
     have hxb:=decide_eq_true hxy
     clear hx0 c0 hk0 hkp hlp hs2 hbp hnp' hat2 hy0 d0 hsm
     go_wp2_with fail
     go_quiet (fail)
     go_wp2_with fail
     go_ret
     exact FIN.out _ _ HF.out ⟨HI.out.below.os,HI.out.below.tape,HI.out.below.output,HI.out.below.size,HI.out.below.block⟩
    ·have hxb:=decide_eq_false hxy
     have HH:=hdq (show ∀(i:Nat) (l':List Int) (x y:Int),i+1=k→ls[i]?=some l'→l[0]?=some x→l'[0]?=some y→y < x from fun i l' x y hi hl' hx hy=>by
      obtain rfl:i=kp:=by omega
      rw[hlp]at hl'
      obtain rfl:=Option.some.inj hl'
      rw[hx0]at hx
      rw[hy0]at hy
      obtain rfl:=Option.some.inj hx
      obtain rfl:=Option.some.inj hy
      omega)
     clear hx0 c0 hk0 hkp hlp hs2 hbp hnp' hat2 hy0 d0 hsm
     go_wp2_with fail
     go_quiet (fail)
     go_wp2_with fail
     go_loopw [8,10] (fun many i wq=>∃q:Nat,q≤nl∧i= .int .i64 q∧many= .int .i64 ((np+q:Nat):Int)∧Hid (MayJ w wq v (ls.take k).flatten l q)) (fun _ i _=>nl - (intOf i).toNat)
     case atStart=>exact⟨0,Nat.zero_le _,rfl,rfl,(HCUT.out _ ⟨_,rfl⟩ HH.out).1⟩
     case round=>
      obtain⟨q,hq,rfl,rfl,hJ⟩:=hrel
      have hbj:=hJ.out.below
      have hsj:Same w.heap.size w wr:=Same.of hbj (lrq _)
      obtain⟨A9,c9,c0,_⟩:=HAT.out k l HL.out
      have hA9:some (Value.slice A9 l.length c9)=some (.slice (some ⟨b1,o1,none⟩) nl c'):=by rw[←c0];exact HC0.out
      have e0:wr.cell? ⟨b,o+k,none⟩=some (.slice (some ⟨b1,o1,none⟩) nl c'):=(hsj ⟨b,o+k,none⟩ hbl).trans HC0.out
      have el:b < wr.heap.size:=ltq hbl hbj.size
      have el1:b1 < wr.heap.size:=ltq hb1 hbj.size
      have hnq:np+q≤64:=by
       have h1:=nodup_le hJ.out.once (v:=v) (fun x hx=>by
        rcases List.mem_append.1 hx with hx|hx
        ·exact HI.out.good.within x hx
        ·exact hJ.out.within x hx)
       rw[List.length_append,List.length_take,←HNP.out,←HNL.out]at h1
       omega
      clear c0 hA9
      by_cases hlt2:q < nl
      ·obtain⟨x,hx⟩:∃x,l[q]?=some x:=⟨_,List.getElem?_eq_getElem (by rw[←HNL.out];exact hlt2)⟩
       have x0c:=(hsj ⟨b1,o1+q,none⟩ hb1).trans (HAT1.out q x hx).1
       have HJ:=hdq hJ.out
       have HX1:=hdq hx
       clear hJ hx hsj
       by_cases hx0:x < 0
       ·have HF:=hdq (show(false=true)↔okL v most ls from⟨fun h=>(by cases h),fun h=>absurd (h.1.within x (flat_mem HL.out HX1.out)).1 (by omega)⟩)
        have hxb:=decide_eq_true hx0
        go_wp2_with fail
        go_ret
        exact FIN.out _ _ HF.out HJ.out.below
       have hxb:=decide_eq_false hx0
       by_cases hxv:(v:Int)≤x
       ·have HF:=hdq (show(false=true)↔okL v most ls from⟨fun h=>(by cases h),fun h=>absurd (h.1.within x (flat_mem HL.out HX1.out)).2 (by omega)⟩)
        have hxb2:=decide_eq_true hxv
        go_wp2_with fail
        go_ret
        exact FIN.out _ _ HF.out HJ.out.below
       have hxb2:=decide_eq_false hxv
       obtain⟨nx,hnx⟩:∃nx:Nat,x=(nx:Int):=⟨x.toNat,by omega⟩
       subst hnx
       have hnxv:nx < v:=by omega
       have hnxv2:(nx:Int) < (v:Int):=by omega
       have m0:=HJ.out.marks.cell hnxv
       have m1:=Bk.frozen HJ.out.marks nx
       have ml:=Bk.lt HJ.out.marks
       cases hmk2:((ls.take k).flatten ++l.take q).contains (nx:Int)
       rotate_left
       ·have HF:=hdq (show(false=true)↔okL v most ls from⟨fun h=>(by cases h),fun h=>(no_once HL.out HX1.out hmk2 h).elim⟩)
        rw[hmk2]at m0
        clear hmk2
        go_wp2_with fail
        go_ret
        exact FIN.out _ _ HF.out HJ.out.below
       rw[hmk2]at m0
       have HMK:=hdq hmk2
       clear hmk2
       by_cases hq0:q=0
       ·have hqb:decide (0 < q)=false:=by rw[decide_eq_false_iff_not];omega
        have hqz:¬0 < q:=by omega
        have HN:=hdq (HJ.out.next HX1.out hnxv HMK.out (fun i y hi=>by omega) rfl)
        clear hq0
        go_wp2_with fail
        go_roundw
        case rel=>exact⟨q+1,by omega,by go_num,by go_num,HN⟩
        case measure=>simp[intOf];omega
       ·obtain⟨qp,hqp⟩:∃qp,q=qp+1:=⟨q - 1,by omega⟩
        have hqb:decide (0 < q)=true:=by rw[decide_eq_true_eq];omega
        have hqz:0 < q:=by omega
        have hw9:wrap64 ((q:Int) - 1)=(qp:Int):=by unfold wrap64;omega
        have hw10:IntKind.i64.wrap ((q:Int) - 1)=(qp:Int):=by rw[IntWalk.i64_left];exact hw9
        have hqpl:qp < nl:=by omega
        have hqpl2:(qp:Int) < (nl:Int):=by omega
        obtain⟨z,hz⟩:∃x,l[qp]?=some x:=⟨_,List.getElem?_eq_getElem (by rw[←HNL.out];exact hqpl)⟩
        have z0c:=(Same.of HJ.out.below (lrq _) ⟨b1,o1+qp,none⟩ hb1).trans (HAT1.out qp z hz).1
        by_cases hxz:(nx:Int)≤z
        ·have HF:=hdq (show(false=true)↔okL v most ls from⟨fun h=>(by cases h),fun h=>(no_row HL.out (by
          have hr:=rise_not hz (by rw[←hqp];exact HX1.out) hxz
          unfold badRow
          rw[hr];simp) h).elim⟩)
         have hzb:=decide_eq_true hxz
         clear hq0 hqp hz
         go_wp2_with fail
         go_ret
         exact FIN.out _ _ HF.out HJ.out.below
        ·have HN:=hdq (HJ.out.next HX1.out hnxv HMK.out (fun i y hi hy=>by
          obtain rfl:i=qp:=by omega
          rw[hz]at hy
          obtain rfl:=Option.some.inj hy
          omega) rfl)
         have hzb:=decide_eq_false hxz
         clear hq0 hqp hz
         go_wp2_with fail
         go_roundw
         case rel=>exact⟨q+1,by omega,by go_num,by go_num,HN⟩
         case measure=>simp[intOf];omega
      ·obtain rfl:q=nl:=by omega
       have HN:=hdq ((HCUT.out _ ⟨0,rfl⟩ HH.out).2 wr (by have h:=hJ.out;rw[HNL.out]at h;exact h))
       have HNK:=hdq (show np+q=(ls.take (k+1)).flatten.length by
        rw[List.take_add_one,HL.out,List.flatten_append,List.length_append,←HNP.out,HNL.out];simp)
       clear hJ hsj
       go_wp2_with fail
       go_roundw
       case rel=>exact⟨k+1,by omega,by go_num,by rw[HNK.out],HN⟩
       case measure=>simp[intOf];omega
  ·obtain rfl:k=m:=by omega
   have hI2:=hI.out
   have htk:ls.take k=ls:=List.take_of_length_le (by rw[←HM.out];exact lrq _)
   have hg:=hI2.good
   rw[htk]at hg
   have hnp:np=ls.flatten.length:=by rw[HNP.out,htk]
   have HF:=hdq (show(decide ((np:Int)=(v:Int))=true)↔okL v most ls from⟨fun h=>⟨hg,by rw[←hnp];simpa using h⟩,fun h=>by rw[decide_eq_true_eq,hnp];exact h.2⟩)
   have HB:=hdq hI2.below
   clear hI hI2 htk hg hnp
   go_wp2_with fail
   go_ret
   refine⟨_,rfl,?_,HB.out⟩
   have h:=HF.out
   rw[decide_eq_true_eq]at h
   constructor
   ·intro hh
    exact h.1 (by simpa using hh)
   ·intro hh
    have h2:=h.2 hh
    simpa using h2
theorem chkR_any (vars most:Int) (ls:List (List Int)) (y:Value) (w:World) (hx:LsM w w.heap.size ls y):
  Calls Try.prog 11 #[.int .i64 vars,.int .i64 most,y] w fun e w'=>e= .returned (.int .i64 (chkN vars most ls))∧Below w.heap.size w w':=by
 obtain⟨Z,hZ⟩:=nmq (chkN vars most ls)
 rw[←hZ]
 have HZ:=hdq hZ
 clear hZ
 have HX:=hdq hx
 obtain⟨A,c,rfl,_⟩:=hx
 obtain⟨m,hm⟩:=nmq ls.length
 rw[←hm]at HX ⊢
 clear hm
 cases a1:decide (vars < 0)
 rotate_left
 ·have HF:=hdq (show Z=2 by rw[HZ.out];unfold chkN;rw[a1];rfl)
  go_enter Try.func11,Try.ntmps11
  go_wp2_with fail
  go_ret
  exact⟨by rw[HF.out];rfl,Below.refl _ _⟩
 cases a2:decide (32 < vars)
 rotate_left
 ·have HF:=hdq (show Z=2 by rw[HZ.out];unfold chkN;rw[a1,a2];rfl)
  go_enter Try.func11,Try.ntmps11
  go_wp2_with fail
  go_ret
  exact⟨by rw[HF.out];rfl,Below.refl _ _⟩
 cases a3:decide (most < 1)
 rotate_left
 ·have HF:=hdq (show Z=2 by rw[HZ.out];unfold chkN;rw[a1,a2,a3];rfl)
  go_enter Try.func11,Try.ntmps11
  go_wp2_with fail
  go_ret
  exact⟨by rw[HF.out];rfl,Below.refl _ _⟩
 cases a4:decide (6 < most)
 rotate_left
 ·have HF:=hdq (show Z=2 by rw[HZ.out];unfold chkN;rw[a1,a2,a3,a4];rfl)
  go_enter Try.func11,Try.ntmps11
  go_wp2_with fail
  go_ret
  exact⟨by rw[HF.out];rfl,Below.refl _ _⟩
 have hv0:0≤vars:=by simpa using a1
 have hv1:vars≤32:=by simpa using a2
 obtain⟨v,rfl⟩:∃v:Nat,vars=(v:Int):=⟨vars.toNat,by omega⟩
 have hz:Z=if ls.any (badRow most)then 8 else if chkB v (hdsZ ls) (sortZ ls.flatten)then 8 else 0:=by
  rw[HZ.out];unfold chkN;rw[a1,a2,a3,a4];rfl
 have hgood:=chk_good (vars:=(v:Int)) (most:=most) (ls:=ls) (by omega)
 have hyes:okL v most ls→Z=0:=fun h=>by
  obtain⟨h1,h2⟩:=hgood.2 h
  rw[hz,h1,h2];rfl
 have hno:¬okL v most ls→Z=8:=fun h=>by
  rw[hz]
  cases h1:ls.any (badRow most)
  ·cases h2:chkB (v:Int) (hdsZ ls) (sortZ ls.flatten)
   ·exact(h (hgood.1 ⟨h1,h2⟩)).elim
   ·rfl
  ·rfl
 have HM:=hdq (mayR_any v most ls _ w HX.out (by omega))
 have HYES:=hdq hyes
 have HNO:=hdq hno
 clear hz hgood hyes hno
 go_enter Try.func11,Try.ntmps11
 go_wp2_with fail
 refine HM.out.mono ?_
 rintro _ w2 ⟨b,rfl,hb,hb2⟩
 cases b
 ·have HF:=hdq (HNO.out fun h=>by have:=hb.2 h;cases this)
  have HB:=hdq hb2
  clear hb hb2
  go_wp2_with fail
  go_ret
  exact⟨by rw[HF.out];rfl,HB.out⟩
 ·have HF:=hdq (HYES.out (hb.1 rfl))
  have HB:=hdq hb2
  clear hb hb2
  go_wp2_with fail
  go_ret
  exact⟨by rw[HF.out];rfl,HB.out⟩
end Go.Proofs.Ytphlnpaikpjakaa
