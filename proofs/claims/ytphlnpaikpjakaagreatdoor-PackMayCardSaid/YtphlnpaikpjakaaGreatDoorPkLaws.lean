/-
  Packs: where a scalar is found; one that no edge has with another; what pack.Check answers. No program.
-/
import Derived.Test.YtphlnpaikpjakaaGreatDoorJgPkOut
import Derived.Test.YtphlnpaikpjakaaGreatDoorPkFind
import Derived.Test.YtphlnpaikpjakaaGreatDoorPkGreat
set_option linter.unusedVariables false
set_option linter.unusedSimpArgs false
namespace Go.Proofs.YtphlnpaikpjakaaGreatDoor
open Go.RowKit Go.Shelf

theorem readX_len:∀xs:Exs,(readX xs).length ≤cntX xs
 | .nil =>lrq _
 | .cons k nm n args at_ rest=>by
  have h1:=readX_len args
  have h2:=readX_len rest
  unfold readX cntX
  split<;>simp<;>omega
theorem scalE_len {e:Ed} (h:cntX e.args≤5000):(scalE e).length ≤100000:=by
 have h1:=readX_len e.args
 unfold scalE
 split<;>simp<;>omega

theorem PkI.head {v:Nat} {most:Int} {P:List (List Int)} (h:PkI v most P) {i:Nat} {l:List Int} (hl:P[i]?=some l):∃k:Nat,k < v∧P[k]?=some l∧pkHd P k=true:=by
 have ho:=h.own i l hl
 cases l with
 |nil=>simp at ho
 |cons a l=>
  obtain⟨h0,h1,h2⟩:=h.mem i _ hl a (List.mem_cons_self ..)
  refine⟨a.toNat,by omega,h2,?_⟩
  rw[pkHd_iff (z:=a) h2 rfl]
  simp[Int.toNat_of_nonneg h0]
theorem pkOut_mem {P:List (List Int)} {v:Nat} {l:List Int} (h:l∈pkOut P v) (hv:P.length=v):∃k:Nat,k < v∧P[k]?=some l∧pkHd P k=true:=by
 unfold pkOut at h
 obtain⟨k,hk,rfl⟩:=List.mem_map.1 h
 obtain⟨h1,h2⟩:=List.mem_filter.1 hk
 have hk:=List.mem_range.1 h1
 refine⟨k,hk,?_,h2⟩
 rw[List.getD_eq_getElem?_getD,List.getElem?_eq_getElem (by omega)]
 rfl
theorem mem_pkOut {P:List (List Int)} {v k:Nat} {l:List Int} (hk:k < v) (hl:P[k]?=some l) (hh:pkHd P k=true):l∈pkOut P v:=by
 unfold pkOut
 refine List.mem_map.2 ⟨k,List.mem_filter.2 ⟨List.mem_range.2 hk,hh⟩,?_⟩
 rw[List.getD_eq_getElem?_getD,hl]
 rfl
theorem PkI.find {v:Nat} {most:Int} {P:List (List Int)} (h:PkI v most P) {i:Nat} (hi:i < v):
  ∃(k:Nat) (l:List Int),(pkOut P v)[k]?=some l∧P[i]?=some l∧(i:Int)∈l∧findE (pkOut P v) i= .returned (.tuple #[.int .i64 (k:Int),.int .i64 (Lib.idxOf l i),.int .i64 0]):=by
 obtain⟨l,hl⟩:∃l,P[i]?=some l:=⟨_,List.getElem?_eq_getElem (by rw[h.len];exact hi)⟩
 obtain⟨k,hk,hkl,hh⟩:=h.head hl
 have ha:(pkOut P v).any (fun l=>l.contains (i:Int))=true:=List.any_eq_true.2 ⟨l,mem_pkOut hk hkl hh,by simpa using h.own i l hl⟩
 have hlt:(pkOut P v).findIdx (fun l=>l.contains (i:Int)) < (pkOut P v).length :=List.findIdx_lt_length.2 (List.any_eq_true.1 ha)
 have hc:((pkOut P v)[(pkOut P v).findIdx fun l=>l.contains (i:Int)]).contains (i:Int)=true:=List.findIdx_getElem (w:=hlt)
 obtain⟨l',hl'⟩:=nmq ((pkOut P v)[(pkOut P v).findIdx fun l=>l.contains (i:Int)])
 rw[←hl']at hc
 have hmem:l'∈pkOut P v:=by rw[hl'];exact List.getElem_mem hlt
 obtain⟨k',hk',hkl',_⟩:=pkOut_mem hmem h.len
 have hin:(i:Int)∈l':=by simpa using hc
 have hP:=(h.mem k' l' hkl' _ hin).2.2
 refine⟨_,l',(List.getElem?_eq_getElem hlt).trans (by rw[hl']),by simpa using hP,hin,?_⟩
 unfold findE
 rw[ha,List.getD_eq_getElem?_getD,List.getElem?_eq_getElem hlt,←hl']
 rfl

/-! one that no edge has with another -/
/-! reading -/
/-! pack.Check -/
def risB (l:List Int):Bool:=decide (l.Pairwise (· < ·))
def badRow (most:Int) (l:List Int):Bool:=decide ((l.length:Int) < 1) || decide (most < (l.length:Int)) || !risB l
def sortZ (l:List Int):List Int:=l.mergeSort leZ
def chkB (vars:Int) (fs all:List Int):Bool:= !risB fs || !risB all || !((all.length:Int)==vars) || (decide (0 < vars)&&(!(all.getD 0 0==0) || !(all.getD (vars - 1).toNat 0==vars - 1)))
def chkN (vars most:Int) (ls:List (List Int)):Int:=
 if decide (vars < 0) || decide (32 < vars) || decide (most < 1) || decide (6 < most)then 2
 else if ls.any (badRow most)then 8 else if chkB vars (ls.map (·.headD 0)) (sortZ ls.flatten)then 8 else 0
theorem pkOut_heads {v:Nat} {most:Int} {P:List (List Int)} (h:PkI v most P):(pkOut P v).map (·.headD 0)=((List.range v).filter (pkHd P)).map fun(i:Nat)=>(i:Int):=by
 unfold pkOut
 rw[List.map_map]
 refine List.map_congr_left fun i hi=>?_
 obtain⟨h1,h2⟩:=List.mem_filter.1 hi
 have hiv:=List.mem_range.1 h1
 obtain⟨l,hl⟩:∃l,P[i]?=some l:=⟨_,List.getElem?_eq_getElem (by rw[h.len];exact hiv)⟩
 have ho:=h.own i l hl
 cases l with
 |nil=>simp at ho
 |cons a l=>
  rw[pkHd_iff (z:=a) hl rfl]at h2
  show(P.getD i []).headD 0=(i:Int)
  rw[List.getD_eq_getElem?_getD,hl]
  simpa using h2
theorem range_rise (v:Nat):((List.range v).map fun(i:Nat)=>(i:Int)).Pairwise (· < ·):=by
 rw[List.pairwise_map]
 exact List.pairwise_lt_range.imp fun h=>by omega
theorem pkOut_perm {v:Nat} {most:Int} {P:List (List Int)} (h:PkI v most P):(pkOut P v).flatten.Perm ((List.range v).map fun(i:Nat)=>(i:Int)):=by
 have hnd:(pkOut P v).flatten.Nodup :=by
  refine List.pairwise_flatten.2 ⟨fun l hl=>?_,?_⟩
  ·obtain⟨k,_,hkl,_⟩:=pkOut_mem hl h.len
   exact(h.rise k l hkl).imp fun h=>by omega
  ·unfold pkOut
   rw[List.pairwise_map]
   have hp:((List.range v).filter (pkHd P)).Pairwise (· < ·):=List.pairwise_lt_range.filter _
   refine(List.Pairwise.and_mem.1 hp).imp fun {i j} hij=>?_
   obtain⟨hi,hj,hlt⟩:=hij
   obtain⟨hi1,hi2⟩:=List.mem_filter.1 hi
   obtain⟨hj1,hj2⟩:=List.mem_filter.1 hj
   have hiv:=List.mem_range.1 hi1
   have hjv:=List.mem_range.1 hj1
   obtain⟨l,hl⟩:∃l,P[i]?=some l:=⟨_,List.getElem?_eq_getElem (by rw[h.len];exact hiv)⟩
   obtain⟨l',hl'⟩:∃l,P[j]?=some l:=⟨_,List.getElem?_eq_getElem (by rw[h.len];exact hjv)⟩
   have e1:P.getD i []=l:=by rw[List.getD_eq_getElem?_getD,hl];rfl
   have e2:P.getD j []=l':=by rw[List.getD_eq_getElem?_getD,hl'];rfl
   rw[e1,e2]
   intro x hx y hy hxy
   subst hxy
   have h1:=(h.mem i l hl x hx).2.2
   have h2:=(h.mem j l' hl' x hy).2.2
   rw[h1]at h2
   obtain rfl:=Option.some.inj h2
   cases l with
   |nil=>simp at hx
   |cons a l=>
    rw[pkHd_iff (z:=a) hl rfl]at hi2
    rw[pkHd_iff (z:=a) hl' rfl]at hj2
    simp at hi2 hj2
    omega
 have hnr:((List.range v).map fun(i:Nat)=>(i:Int)).Nodup :=(range_rise v).imp fun h=>by omega
 refine(List.perm_ext_iff_of_nodup hnd hnr).2 fun x=>?_
 rw[List.mem_flatten]
 constructor
 ·rintro⟨l,hl,hx⟩
  obtain⟨k,_,hkl,_⟩:=pkOut_mem hl h.len
  obtain⟨h0,h1,_⟩:=h.mem k l hkl x hx
  exact List.mem_map.2 ⟨x.toNat,List.mem_range.2 (by omega),by omega⟩
 ·intro hx
  obtain⟨i,hi,rfl⟩:=List.mem_map.1 hx
  have hiv:=List.mem_range.1 hi
  obtain⟨l,hl⟩:∃l,P[i]?=some l:=⟨_,List.getElem?_eq_getElem (by rw[h.len];exact hiv)⟩
  obtain⟨k,hk,hkl,hh⟩:=h.head hl
  exact⟨l,mem_pkOut hk hkl hh,h.own i l hl⟩
theorem sortZ_perm {l r:List Int} (h:l.Perm r) (hr:r.Pairwise (· < ·)):sortZ l=r:=
 ((List.mergeSort_perm l leZ).trans h).eq_of_pairwise (fun a b _ _ h1 h2=>by omega) (sort_pair l) (hr.imp fun h=>by omega)
theorem chk_pkOut {v:Nat} {most:Int} {P:List (List Int)} (h:PkI v most P) (hv:v≤32) (h1:1≤most) (h6:most≤6):chkN v most (pkOut P v)=0:=by
 unfold chkN
 have hs:=sortZ_perm (pkOut_perm h) (range_rise v)
 rw[hs,pkOut_heads h]
 have a1:decide ((v:Int) < 0)=false:=by simp
 have a2:decide (32 < (v:Int))=false:=by simp;omega
 have a3:decide (most < 1)=false:=by simp;omega
 have a4:decide (6 < most)=false:=by simp;omega
 rw[a1,a2,a3,a4]
 have hb:(pkOut P v).any (badRow most)=false:=by
  rw[List.any_eq_false]
  intro l hl
  obtain⟨k,_,hkl,_⟩:=pkOut_mem hl h.len
  have e1:=h.few k l hkl
  have e2:risB l=true:=by unfold risB;simpa using h.rise k l hkl
  have e3:0 < l.length:=List.length_pos_of_mem (h.own k l hkl)
  unfold badRow
  rw[e2]
  simp
  omega
 rw[hb]
 have hc:chkB v (((List.range v).filter (pkHd P)).map fun(i:Nat)=>(i:Int)) ((List.range v).map fun(i:Nat)=>(i:Int))=false:=by
  unfold chkB
  have e1:risB (((List.range v).filter (pkHd P)).map fun(i:Nat)=>(i:Int))=true:=by
   unfold risB
   rw[decide_eq_true_eq,List.pairwise_map]
   exact(List.pairwise_lt_range.filter _).imp fun h=>by omega
  have e2:risB ((List.range v).map fun(i:Nat)=>(i:Int))=true:=by unfold risB;simpa using range_rise v
  rw[e1,e2]
  by_cases h0:v=0
  ·subst h0;rfl
  ·have g:∀i,i < v→((List.range v).map fun(i:Nat)=>(i:Int)).getD i 0=(i:Int):=fun i hi=>by
    rw[List.getD_eq_getElem?_getD,List.getElem?_map,List.getElem?_range hi];rfl
   rw[show((v:Int) - 1).toNat =v - 1 from by omega,g 0 (by omega),g (v - 1) (by omega)]
   simp
   omega
 rw[hc]
 rfl
theorem pkOut_one {v:Nat} {P:List (List Int)} (h:PkI v 1 P):(pkOut P v).length =v:=by
 unfold pkOut
 rw[List.length_map]
 have:(List.range v).filter (pkHd P)=List.range v:=by
  rw[List.filter_eq_self]
  intro i hi
  have hiv:=List.mem_range.1 hi
  obtain⟨l,hl⟩:∃l,P[i]?=some l:=⟨_,List.getElem?_eq_getElem (by rw[h.len];exact hiv)⟩
  have ho:=h.own i l hl
  have hf:=h.few i l hl
  match l,hl,ho,hf with
  | [],_,ho,_=>simp at ho
  | [a],hl,ho,_=>
   rw[pkHd_iff (z:=a) hl rfl,←List.mem_singleton.1 ho]
   simp
  |_::_::_,_,_,hf=>simp at hf;omega
 rw[this,List.length_range]
end Go.Proofs.YtphlnpaikpjakaaGreatDoor
