/-
  Packs as the document makes them (each scalar's least companion), and as pack.Packs makes them: the same. No program.
-/
import Derived.Test.YtphlnpaikpjakaaPkChk
set_option linter.unusedVariables false
set_option linter.unusedSimpArgs false
namespace Go.Proofs.Ytphlnpaikpjakaa
open Go.RowKit Go.Shelf

theorem rise_eq {a b:List Int} (ha:a.Pairwise (· < ·)) (hb:b.Pairwise (· < ·)) (h:∀x,x∈a↔x∈b):a=b:=by
 have h1:a.Nodup:=ha.imp fun h=>by omega
 have h2:b.Nodup:=hb.imp fun h=>by omega
 exact((List.perm_ext_iff_of_nodup h1 h2).2 h).eq_of_pairwise (fun a b _ _ (h1:a≤b) (h2:b≤a)=>by omega) (ha.imp fun h=>Int.le_of_lt h) (hb.imp fun h=>Int.le_of_lt h)
theorem perm_of_sub:∀ {L R:List Int},L.Nodup→(∀x∈L,x∈R)→R.length≤L.length→L.Perm R
 | [],R,_,_,h=>by
  obtain rfl:R= []:=List.length_eq_zero_iff.1 (by simpa using h)
  exact List.Perm.refl _
 |a::L,R,hn,hs,h=>by
  have ha:=hs a (List.mem_cons_self ..)
  have hp:=List.perm_cons_erase ha
  have hl:=hp.length_eq
  obtain⟨h1,h2⟩:=List.nodup_cons.1 hn
  refine((perm_of_sub h2 (fun x hx=>?_) ?_).cons a).trans hp.symm
  ·exact(List.mem_erase_of_ne fun e=>h1 (by rw[←e];exact hx)).2 (hs x (List.mem_cons_of_mem _ hx))
  ·simp at hl h;omega
def hdP (P:List (List Int)):List Int:=P.map (·.headD (-1))
def unL (f:List Int) (sc:List Int):List Nat:=(List.range f.length).filter fun i=>decide (f.getD i 0∈sc.map fun n=>f.getD n.toNat 0)
def oneL (f:List Int) (sc:List Int) (most:Int):List Int:=
 if most < ((unL f sc).length :Int)then f else(List.range f.length).map fun i=>if f.getD i 0∈sc.map (fun n=>f.getD n.toNat 0)then(((unL f sc).headD 0:Nat):Int)else f.getD i 0
theorem hdP_get {P:List (List Int)} {i:Nat} {l:List Int} (h:P[i]?=some l):(hdP P)[i]?=some (l.headD (-1)):=by
 unfold hdP;rw[List.getElem?_map,h];rfl
theorem hdP_getD {P:List (List Int)} {i:Nat} {l:List Int} (h:P[i]?=some l):(hdP P).getD i 0=l.headD (-1):=by
 rw[List.getD_eq_getElem?_getD,hdP_get h];rfl
theorem PkI.head_eq {v:Nat} {most:Int} {P:List (List Int)} (h:PkI v most P) {i j:Nat} {l m:List Int} (hl:P[i]?=some l) (hm:P[j]?=some m):l.headD (-1)=m.headD (-1)↔l=m:=by
 refine⟨fun e=>?_,fun e=>by rw[e]⟩
 have h1:=h.own i l hl
 have h2:=h.own j m hm
 cases l with
 |nil=>simp at h1
 |cons a l=>
  cases m with
  |nil=>simp at h2
  |cons b m=>
   simp only[List.headD_cons]at e
   subst e
   have e1:=(h.mem i _ hl a (List.mem_cons_self ..)).2.2
   have e2:=(h.mem j _ hm a (List.mem_cons_self ..)).2.2
   rw[e1]at e2
   exact Option.some.inj e2
theorem PkI.get {v:Nat} {most:Int} {P:List (List Int)} (h:PkI v most P) {i:Nat} (hi:i < v):∃l,P[i]?=some l:=⟨_,List.getElem?_eq_getElem (by rw[h.len];exact hi)⟩
theorem PkI.union {v:Nat} {most:Int} {P:List (List Int)} (h:PkI v most P) {sc:List Int} (hsc:∀n∈sc,0≤n∧n < v) {i:Nat} (hi:i < v):((hdP P).getD i 0∈sc.map fun n=>(hdP P).getD n.toNat 0)↔(i:Int)∈sdup (pkAll P sc):=by
 obtain⟨l,hl⟩:=h.get hi
 rw[(sdup_spec _).2,hdP_getD hl,List.mem_map]
 constructor
 ·rintro⟨n,hn,e⟩
  have hnv:=hsc n hn
  obtain⟨m,hm⟩:=h.get (i:=n.toNat) (by omega)
  rw[hdP_getD hm,h.head_eq hm hl]at e
  subst e
  refine List.mem_flatMap.2 ⟨n,hn,?_⟩
  rw[List.getD_eq_getElem?_getD,hm]
  exact h.own i _ hl
 ·intro hin
  obtain⟨n,hn,hx⟩:=List.mem_flatMap.1 hin
  have hnv:=hsc n hn
  obtain⟨m,hm⟩:=h.get (i:=n.toNat) (by omega)
  rw[List.getD_eq_getElem?_getD,hm]at hx
  have e:=(h.mem _ m hm _ hx).2.2
  rw[show((i:Int)).toNat =i from rfl,hl]at e
  obtain rfl:=Option.some.inj e
  exact⟨n,hn,hdP_getD hm⟩
theorem PkI.unL {v:Nat} {most:Int} {P:List (List Int)} (h:PkI v most P) {sc:List Int} (hsc:∀n∈sc,0≤n∧n < v):(Go.Proofs.Ytphlnpaikpjakaa.unL (hdP P) sc).map (fun(i:Nat)=>(i:Int))=sdup (pkAll P sc):=by
 have hlen:(hdP P).length =v:=by unfold hdP;rw[List.length_map,h.len]
 refine rise_eq ?_ (sdup_spec _).1 fun x=>?_
 ·rw[List.pairwise_map]
  exact(List.pairwise_lt_range.filter _).imp fun h=>by omega
 ·rw[List.mem_map]
  unfold Go.Proofs.Ytphlnpaikpjakaa.unL
  rw[hlen]
  constructor
  ·rintro⟨i,hi,rfl⟩
   obtain⟨h1,h2⟩:=List.mem_filter.1 hi
   exact(h.union hsc (List.mem_range.1 h1)).1 (by simpa using h2)
  ·intro hx
   obtain⟨h0,h1⟩:=pkAll_in h hsc x (((sdup_spec _).2 x).1 hx)
   refine⟨x.toNat,List.mem_filter.2 ⟨List.mem_range.2 (by omega),?_⟩,by omega⟩
   rw[decide_eq_true_eq]
   exact(h.union hsc (by omega)).2 (by rw[Int.toNat_of_nonneg h0];exact hx)
theorem PkI.oneL {v:Nat} {most:Int} {P:List (List Int)} (h:PkI v most P) {sc:List Int} (hsc:∀n∈sc,0≤n∧n < v):Go.Proofs.Ytphlnpaikpjakaa.oneL (hdP P) sc most=hdP (pkStep most P sc):=by
 have hu:=h.unL hsc
 have hlen:(hdP P).length =v:=by unfold hdP;rw[List.length_map,h.len]
 obtain⟨a,ha⟩:=nmq (sdup (pkAll P sc))
 have hal:(Go.Proofs.Ytphlnpaikpjakaa.unL (hdP P) sc).length =a.length:=by rw[ha,←hu,List.length_map]
 unfold Go.Proofs.Ytphlnpaikpjakaa.oneL pkStep
 rw[←ha,hal]
 split
 ·rfl
 have hpos:∀m∈a,0≤m:=fun m hm=>(pkAll_in h hsc m (((sdup_spec _).2 m).1 (ha▸hm))).1
 refine List.ext_getElem? fun i=>?_
 by_cases hi:i < v
 ·obtain⟨l,hl⟩:=h.get hi
  rw[List.getElem?_map,hlen,List.getElem?_range hi]
  have hg:=pkSet_get a a P i hpos (by rw[h.len];exact hi)
  by_cases hia:(i:Int)∈a
  ·rw[if_pos hia]at hg
   rw[hdP_get hg,Option.map_some,if_pos ((h.union hsc hi).2 (ha▸hia))]
   rw[ha,←hu]at hia ⊢
   cases hun:Go.Proofs.Ytphlnpaikpjakaa.unL (hdP P) sc with
   |nil=>rw[hun]at hia;simp at hia
   |cons x r=>rfl
  ·rw[if_neg hia,hl]at hg
   rw[hdP_get hg,Option.map_some,if_neg (fun hc=>hia (ha▸(h.union hsc hi).1 hc)),hdP_getD hl]
 ·rw[List.getElem?_eq_none (by simp;omega),List.getElem?_eq_none (by unfold hdP;rw[List.length_map,pkSet_len,h.len];omega)]
theorem hdP_pk0 (v:Nat):hdP (pk0 v)=(List.range v).map fun(i:Nat)=>(i:Int):=by
 unfold hdP pk0
 rw[List.map_map]
 rfl
def packL (f:List Int) (i:Nat):List Int:=((List.range f.length).filter fun k=>f.getD k 0==(i:Int)).map fun(k:Nat)=>(k:Int)
def outL (f:List Int):List (List Int):=((List.range f.length).filter fun i=>f.getD i 0==(i:Int)).map (packL f)
theorem PkI.outL {v:Nat} {most:Int} {P:List (List Int)} (h:PkI v most P):Go.Proofs.Ytphlnpaikpjakaa.outL (hdP P)=pkOut P v:=by
 have hlen:(hdP P).length =v:=by unfold hdP;rw[List.length_map,h.len]
 unfold Go.Proofs.Ytphlnpaikpjakaa.outL pkOut
 rw[hlen]
 have hf:(List.range v).filter (fun i=>(hdP P).getD i 0==(i:Int))=(List.range v).filter (pkHd P):=by
  refine List.filter_congr fun i hi=>?_
  obtain⟨l,hl⟩:=h.get (List.mem_range.1 hi)
  rw[hdP_getD hl]
  unfold pkHd
  rw[List.getD_eq_getElem?_getD,hl]
  rfl
 rw[hf]
 refine List.map_congr_left fun i hi=>?_
 obtain⟨h1,h2⟩:=List.mem_filter.1 hi
 have hiv:=List.mem_range.1 h1
 obtain⟨l,hl⟩:=h.get hiv
 have hhd:l.headD (-1)=(i:Int):=by
  unfold pkHd at h2
  rw[List.getD_eq_getElem?_getD,hl]at h2
  simpa using h2
 have hD:P.getD i []=l:=by rw[List.getD_eq_getElem?_getD,hl];rfl
 rw[hD]
 unfold packL
 rw[hlen]
 refine rise_eq ?_ (h.rise i l hl) fun x=>?_
 ·rw[List.pairwise_map]
  exact(List.pairwise_lt_range.filter _).imp fun h=>by omega
 ·rw[List.mem_map]
  constructor
  ·rintro⟨k,hk,rfl⟩
   obtain⟨h3,h4⟩:=List.mem_filter.1 hk
   obtain⟨m,hm⟩:=h.get (List.mem_range.1 h3)
   rw[hdP_getD hm,beq_iff_eq,←hhd,h.head_eq hm hl]at h4
   subst h4
   exact h.own k _ hm
  ·intro hx
   obtain⟨h3,h4,h5⟩:=h.mem i l hl x hx
   refine⟨x.toNat,List.mem_filter.2 ⟨List.mem_range.2 (by omega),?_⟩,by omega⟩
   rw[hdP_getD h5,beq_iff_eq,hhd]

/-! what may be -/
structure GoodR (vars most:Int) (ls:List (List Int)):Prop where
 row:∀l∈ls,badRow most l=false
 heads:(hdsZ ls).Pairwise (· < ·)
 within:∀x∈ls.flatten,0≤x∧x < vars
 once:ls.flatten.Nodup
theorem chk_good {vars most:Int} {ls:List (List Int)} (hv:0≤vars):(ls.any (badRow most)=false∧chkB vars (hdsZ ls) (sortZ ls.flatten)=false)↔(GoodR vars most ls∧(ls.flatten.length:Int)=vars):=by
 have hp:(sortZ ls.flatten).Perm ls.flatten:=List.mergeSort_perm _ leZ
 have hl:(sortZ ls.flatten).length =ls.flatten.length:=hp.length_eq
 have hs:=sort_pair ls.flatten
 constructor
 ·rintro⟨h1,h2⟩
  unfold chkB risB at h2
  simp only[Bool.or_eq_false_iff,Bool.not_eq_false',decide_eq_true_eq,beq_iff_eq,Bool.and_eq_false_imp]at h2
  obtain⟨⟨⟨h3,h4⟩,h5⟩,h6⟩:=h2
  refine⟨⟨fun l hl=>?_,h3,fun x hx=>?_,?_⟩,by rw[←hl];exact h5⟩
  ·cases hb:badRow most l
   ·rfl
   ·rw[List.any_eq_true.2 ⟨l,hl,hb⟩]at h1;cases h1
  ·have hx':x∈sortZ ls.flatten:=hp.mem_iff.2 hx
   obtain⟨i,hi⟩:=List.getElem?_of_mem hx'
   obtain⟨hil,hix⟩:=List.getElem?_eq_some_iff.1 hi
   have hv0:0 < vars:=by omega
   obtain⟨h7,h8⟩:=h6 hv0
   have g0:(sortZ ls.flatten)[0]?=some 0:=by
    rw[List.getD_eq_getElem?_getD,List.getElem?_eq_getElem (by omega)]at h7
    rw[List.getElem?_eq_getElem (by omega)];simpa using h7
   have g1:(sortZ ls.flatten)[(vars - 1).toNat]?=some (vars - 1):=by
    rw[List.getD_eq_getElem?_getD,List.getElem?_eq_getElem (by omega)]at h8
    rw[List.getElem?_eq_getElem (by omega)];simpa using h8
   obtain⟨g2,g3⟩:=List.getElem?_eq_some_iff.1 g0
   obtain⟨g4,g5⟩:=List.getElem?_eq_some_iff.1 g1
   have ha:=List.pairwise_iff_getElem.1 hs
   refine⟨?_,?_⟩
   ·by_cases hi0:i=0
    ·subst hi0;omega
    ·have:=ha 0 i g2 hil (by omega)
     unfold sortZ at g3 hix;omega
   ·by_cases hi0:i=(vars - 1).toNat
    ·subst hi0;omega
    ·have:=ha i (vars - 1).toNat hil g4 (by omega)
     unfold sortZ at g5 hix;omega
  ·exact(hp.nodup_iff).1 (h4.imp fun h=>by omega)
 ·rintro⟨⟨h1,h2,h3,h4⟩,h5⟩
  refine⟨?_,?_⟩
  ·rw[List.any_eq_false]
   intro l hl
   rw[h1 l hl];simp
  have hperm:ls.flatten.Perm ((List.range vars.toNat).map fun(i:Nat)=>(i:Int)):=by
   have hsub:ls.flatten ⊆ ((List.range vars.toNat).map fun(i:Nat)=>(i:Int)):=fun x hx=>by
    have:=h3 x hx
    exact List.mem_map.2 ⟨x.toNat,List.mem_range.2 (by omega),by omega⟩
   exact perm_of_sub h4 (fun x hx=>hsub hx) (by rw[List.length_map,List.length_range];omega)
  have hz:=sortZ_perm hperm (range_rise vars.toNat)
  rw[hz]
  have e1:risB (hdsZ ls)=true:=by unfold risB;simpa using h2
  have e2:risB ((List.range vars.toNat).map fun(i:Nat)=>(i:Int))=true:=by unfold risB;simpa using range_rise vars.toNat
  have e3:(((((List.range vars.toNat).map fun(i:Nat)=>(i:Int)).length :Nat):Int)==vars)=true:=by simp;omega
  unfold chkB
  rw[e1,e2,e3]
  by_cases hv0:0 < vars
  ·have g:∀i,i < vars.toNat→((List.range vars.toNat).map fun(i:Nat)=>(i:Int)).getD i 0=(i:Int):=fun i hi=>by
    rw[List.getD_eq_getElem?_getD,List.getElem?_map,List.getElem?_range hi];rfl
   rw[g 0 (by omega),g (vars - 1).toNat (by omega)]
   simp
   omega
  ·have:decide (0 < vars)=false:=by simpa using hv0
   rw[this]
   rfl
end Go.Proofs.Ytphlnpaikpjakaa
