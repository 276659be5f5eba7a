/-
  Plain grammar: the parser takes what is the grammar's: expressions, conditions. No program.
-/
import Derived.Test.YtobegfbdedgmpaaGreatDoorJnGrA
import Derived.Test.YtobegfbdedgmpaaGreatDoorJnPl
set_option linter.unusedVariables false
set_option linter.unusedSimpArgs false
namespace Go.Proofs.YtobegfbdedgmpaaGreatDoor
open Go.RowKit Go.Shelf

theorem isP_out {signs:List (List UInt8)} {t:Tk} {r:List Tk} (h:t.text∉signs):isP signs (t::r) < 0:=by
  by_cases hp:0≤isP signs (t::r)
  · exact absurd (isP_text hp).1 h
  · omega
theorem isP_num {signs:List (List UInt8)} {t:Tk} {r:List Tk} (h:t.kind=2):isP signs (t::r) < 0:=by
  unfold isP hdT
  simp only[List.headD_cons,h,if_true]
  omega
theorem may_out {s:List UInt8} {t:Tk} {r:List Tk} (h:t.text≠s):mayB s (t::r)=false:=by
  cases hm:mayB s (t::r)with
  |false=>rfl
  |true=>exact absurd (mayB_text hm).1 h
theorem may_num {s:List UInt8} {t:Tk} {r:List Tk} (h:t.kind=2):mayB s (t::r)=false:=by
  cases hm:mayB s (t::r)with
  |false=>rfl
  |true=>exact absurd h (mayB_text hm).2
theorem idxS_at:∀(zs:List ByteArray) (x:ByteArray) (i k:Nat),zs[k]?=some x→(∀j,j < k→zs[j]?≠some x)→Lib.idxFromS zs x i=(i+k:Nat)
  | [],x,i,k,h,_=>by simp at h
  |z::zs,x,i,0,h,_=>by
    simp only[List.getElem?_cons_zero,Option.some.injEq]at h
    simp[Lib.idxFromS,h]
  |z::zs,x,i,k+1,h,hn=>by
    have h0:=hn 0 (by omega)
    simp only[List.getElem?_cons_zero,ne_eq,Option.some.injEq]at h0
    simp only[Lib.idxFromS,h0,if_false]
    rw[idxS_at zs x (i+1) k (by simpa using h) fun j hj=>by simpa using hn (j+1) (by omega)]
    congr 1;omega
theorem isP_in {signs:List (List UInt8)} {t:Tk} {r:List Tk} {k:Nat} (hk:t.kind≠2) (h:signs[k]?=some t.text) (hn:∀j,j < k→signs[j]?≠some t.text):isP signs (t::r)=k:=by
  unfold isP hdT
  simp only[List.headD_cons,hk,if_false]
  unfold Lib.idxOfS
  rw[idxS_at _ _ 0 k (by rw[List.getElem?_map,h];rfl) fun j hj e=>by
    rw[List.getElem?_map]at e
    cases hs:signs[j]? with
    |none=>rw[hs]at e;simp at e
    |some s=>
      rw[hs]at e
      simp only[Option.map_some,Option.some.injEq]at e
      exact hn j hj (by rw[hs,mk_inj e])]
  simp
theorem may_in {s:List UInt8} {t:Tk} {r:List Tk} (h:isT t s):mayB s (t::r)=true:=by
  unfold mayB
  rw[isP_in (signs:= [s]) (k:=0) h.2 (by rw[h.1];rfl) (fun j hj=>by omega)]
  rfl
theorem take_in {s:List UInt8} {t:Tk} {r:List Tk} (h:isT t s):takeP s (t::r)= .ok () r:=by
  unfold takeP
  rw[if_pos (may_in h)]
  rfl
theorem named_in {t:Tk} {r:List Tk} (h:isN t):namedB (t::r)=true:=by
  unfold namedB hdT
  simp[h.1,h.2]
theorem name_in {t:Tk} {r:List Tk} (h:isN t):nameP (t::r)= .ok ⟨txt t,t.at_⟩ r:=by
  unfold nameP
  rw[if_pos (named_in h)]
  rfl
theorem named_num {t:Tk} {r:List Tk} (h:t.kind=2):namedB (t::r)=false:=by
  unfold namedB hdT
  simp[h]
theorem number_in {t:Tk} {r:List Tk} (h:t.kind=2):numberP (t::r)= .ok (decV t.text:Int) r:=by
  unfold numberP hdT
  simp only[List.headD_cons,h,if_true,List.tail_cons]
theorem name_first {l:List UInt8} (h:nameB l=true):∃b r,l=b::r∧isWd b=true∧isDig b=false∧keyB l=false:=by
  unfold nameB at h
  simp only[Bool.and_eq_true,beq_iff_eq,decide_eq_true_eq,Bool.not_eq_true',Bool.not_eq_eq_eq_not,Bool.not_true]at h
  obtain⟨⟨⟨⟨h1,h2⟩,h3⟩,h4⟩,h5⟩:=h
  obtain⟨b,r,rfl,hb⟩:=runB_head h2
  exact⟨b,r,rfl,hb,by simpa using h4,h5⟩
theorem isN_text {t:Tk} (h:isN t) {s:List UInt8} (hs:nameB s=false):t.text≠s:=fun e=>by
  have:=h.2
  rw[e,hs]at this
  simp at this
def FolV (r:List Tk):Prop:=mayB [91] r=false
structure FolX (r:List Tk):Prop where
  v:FolV r
  mul:isP mulS r < 0
  add:isP addS r < 0
  sh:isP shS r < 0
theorem FolX.of {t:Tk} {r:List Tk} (h:t.text∉([[91], [42], [47], [37], [43], [45], [60,60], [62,62]]:List (List UInt8))):FolX (t::r):=by
  simp only[List.mem_cons,List.not_mem_nil,or_false,not_or]at h
  exact⟨may_out h.1,isP_out (by simp[mulS,h]),isP_out (by simp[addS,h]),isP_out (by simp[shS,h])⟩
theorem FolX.sign {t:Tk} {s:List UInt8} {r:List Tk} (h:isT t s) (hs:s∉([[91], [42], [47], [37], [43], [45], [60,60], [62,62]]:List (List UInt8))):FolX (t::r):=FolX.of (by rw[h.1];exact hs)
theorem exCases {d m:Nat} {c:List Tk} {x:Ex} (h:ExG d m c x) (hm:m≤3):ExG d (m+1) c x∨∃k t a b y z,5≤k∧k≤11∧opL k=m∧ExG d m a y∧isT t (opT k)∧ExG d (m+1) b z∧c=a++t::b∧x=⟨k,noB,0,y.cons (z.cons .nil),t.at_⟩:=by
  cases h with
  |num _ _ t h=>exact .inl (.num d _ t h)
  |var _ _ t h=>exact .inl (.var d _ t h)
  |load d _ t b e c x h1 h2 h3 h4=>exact .inl (.load d _ t b e c x h1 h2 h3 h4)
  |neg d _ t c x h1 h2=>exact .inl (.neg d _ t c x h1 h2)
  |par d _ t e c x h1 h2 h3=>exact .inl (.par d _ t e c _ h1 h2 h3)
  |two _ _ k t a b x y h1 h2 h3 h4 h5 h6=>
    by_cases e:opL k=m
    · exact .inr ⟨k,t,a,b,x,y,h1,h2,e,e▸h4,h5,e▸h6,rfl,rfl⟩
    · exact .inl (.two d _ k t a b x y h1 h2 (by omega) h4 h5 h6)
theorem chain_in {d m:Nat} {one:List Tk→PR Ex} {first:Int} {signs:List (List UInt8)} {F:List Tk→Prop} (hm:m≤3) (hsh:Shr one) (hs: []∉signs) (h1:∀c x,ExG d (m+1) c x→∀r,F r→one (c++r)= .ok x r)
    (hF:∀(k:Int) (t:Tk) (r:List Tk),5≤k→k≤11→opL k=m→isT t (opT k)→F (t::r)∧∃j:Nat,isP signs (t::r)=j∧first+j=k):
    ∀(n:Nat) (c:List Tk) (x:Ex),c.length≤n→ExG d m c x→∀r,F r→chainP one (twoX first) signs (c++r)=chainL one (twoX first) signs x r
  |n,c,x,hn,h,r,hr=>by
    rcases exCases h hm with h|⟨k,t,a,b,y,z,hk1,hk2,hk3,ha,ht,hb,rfl,rfl⟩
    · unfold chainP
      rw[h1 c x h r hr]
      rfl
    · have hl:a.length < n:=by simp at hn;omega
      obtain⟨n,rfl⟩:∃q,n=q+1:=⟨n - 1,by omega⟩
      obtain⟨f1,j,f2,f3⟩:=hF k t (b++r) hk1 hk2 hk3 ht
      have ih:=chain_in hm hsh hs h1 hF n a y (by omega) ha (t::(b++r)) f1
      rw[List.append_assoc,List.cons_append,ih,chainL_eq hsh hs,if_neg (by rw[f2];omega)]
      show(one (b++r)).then _=_
      rw[h1 b z hb r hr]
      show chainL one (twoX first) signs (twoX first (isP signs (t::(b++r))) _ y z) r=_
      rw[f2]
      simp only[twoX,hdT,List.headD_cons,f3]
theorem chain_end {one:List Tk→PR Ex} {first:Int} {signs:List (List UInt8)} (hsh:Shr one) (hs: []∉signs) {x:Ex} {r:List Tk} (h:isP signs r < 0):chainL one (twoX first) signs x r= .ok x r:=by
  rw[chainL_eq hsh hs,if_pos h]
theorem opL_mul {k : Int} (h1 : 5 ≤ k) (h2 : k ≤ 11) (h : opL k = 3) : k = 7 ∨ k = 8 ∨ k = 9 := by unfold opL at h; split at h; · omega
                                                                                                   split at h<;>omega
theorem opL_add {k : Int} (h1 : 5 ≤ k) (h2 : k ≤ 11) (h : opL k = 2) : k = 5 ∨ k = 6 := by unfold opL at h; split at h; · omega
                                                                                           split at h<;>omega
theorem opL_sh {k : Int} (h1 : 5 ≤ k) (h2 : k ≤ 11) (h : opL k = 1) : k = 10 ∨ k = 11 := by unfold opL at h; split at h; · omega
                                                                                            split at h<;>omega
theorem sgn_in {signs:List (List UInt8)} {t:Tk} {r:List Tk} {u:List UInt8} (ht:isT t u) (j:Nat) (h:signs[j]?=some u) (hn:∀i,i < j→signs[i]?≠some u):isP signs (t::r)=j:=
  isP_in ht.2 (by rw[ht.1];exact h) (by rw[ht.1];exact hn)
theorem exprOf_in {d:Nat} {sg:List Tk→PR Ex} (hsh:Shr sg) (h4:∀c x,ExG d 4 c x→∀r,FolV r→sg (c++r)= .ok x r) {c:List Tk} {x:Ex} (h:ExG d 1 c x) {r:List Tk} (hr:FolX r):exprOf sg (c++r)= .ok x r:=by
  have hm:∀c x,ExG d 3 c x→∀r,(FolV r∧isP mulS r < 0)→chainP sg (twoX 7) mulS (c++r)= .ok x r:=fun c x h r hr=>by
    rw[chain_in (F:=FolV) (by omega) hsh (by decide) h4 (fun k t r h1 h2 h3 ht=>by
      rcases opL_mul h1 h2 h3 with rfl|rfl|rfl
      · exact⟨may_out (by rw[ht.1];decide),0,sgn_in ht 0 rfl (fun i hi=>by omega),rfl⟩
      · exact⟨may_out (by rw[ht.1];decide),1,sgn_in ht 1 rfl (by decide),rfl⟩
      · exact⟨may_out (by rw[ht.1];decide),2,sgn_in ht 2 rfl (by decide),rfl⟩) _ c x (Nat.le_refl _) h r hr.1]
    exact chain_end hsh (by decide) hr.2
  have hms:Shr (chainP sg (twoX 7) mulS):=chainP_shr hsh
  have ha:∀c x,ExG d 2 c x→∀r,((FolV r∧isP mulS r < 0)∧isP addS r < 0)→chainP (chainP sg (twoX 7) mulS) (twoX 5) addS (c++r)= .ok x r:=fun c x h r hr=>by
    rw[chain_in (F:=fun r=>FolV r∧isP mulS r < 0) (by omega) hms (by decide) hm (fun k t r h1 h2 h3 ht=>by
      rcases opL_add h1 h2 h3 with rfl|rfl
      · exact⟨⟨may_out (by rw[ht.1];decide),isP_out (by rw[ht.1];decide)⟩,0,sgn_in ht 0 rfl (fun i hi=>by omega),rfl⟩
      · exact⟨⟨may_out (by rw[ht.1];decide),isP_out (by rw[ht.1];decide)⟩,1,sgn_in ht 1 rfl (by decide),rfl⟩) _ c x (Nat.le_refl _) h r hr.1]
    exact chain_end hms (by decide) hr.2
  have has:Shr (chainP (chainP sg (twoX 7) mulS) (twoX 5) addS):=chainP_shr hms
  unfold exprOf
  rw[chain_in (F:=fun r=>(FolV r∧isP mulS r < 0)∧isP addS r < 0) (by omega) has (by decide) ha (fun k t r h1 h2 h3 ht=>by
    rcases opL_sh h1 h2 h3 with rfl|rfl
    · exact⟨⟨⟨may_out (by rw[ht.1];decide),isP_out (by rw[ht.1];decide)⟩,isP_out (by rw[ht.1];decide)⟩,0,sgn_in ht 0 rfl (fun i hi=>by omega),rfl⟩
    · exact⟨⟨⟨may_out (by rw[ht.1];decide),isP_out (by rw[ht.1];decide)⟩,isP_out (by rw[ht.1];decide)⟩,1,sgn_in ht 1 rfl (by decide),rfl⟩) _ c x (Nat.le_refl _) h r ⟨⟨hr.v,hr.mul⟩,hr.add⟩]
  exact chain_end has (by decide) hr.sh
theorem signP_in:∀(n:Nat) {d:Nat} {c:List Tk} {x:Ex},ExG d 4 c x→d≤n→∀r,FolV r→signP n (c++r)= .ok x r:=by
  intro n
  induction n with
  |zero=>
    intro d c x h hd r hr
    cases h with
    |num _ _ t h=>
      simp only[List.cons_append,List.nil_append,signP,may_num h,named_num h,Bool.false_eq_true,if_false]
      rw[number_in h];rfl
    |var _ _ t h=>
      show signP 0 (t::r)=_
      unfold signP
      rw[if_neg (by rw[may_out (isN_text h (by decide:nameB [45]=false))];simp),if_neg (by rw[may_out (isN_text h (by decide:nameB [40]=false))];simp),if_pos (named_in h),if_neg (by show ¬mayB [91] r=true;rw[show mayB [91] r=false from hr];simp)]
      rfl
    |load d _ t b e c x h1 h2 h3 h4=>omega
    |neg d _ t c x h1 h2=>omega
    |par d _ t e c x h1 h2 h3=>omega
    | two _ _ k t a b x y h1 h2 h3 h4 h5 h6 => exact absurd h3 (by unfold opL; split; · omega
                                                                   split<;>omega)
  |succ n ih=>
    intro d c x h hd r hr
    cases h with
    |num _ _ t h=>
      simp only[List.cons_append,List.nil_append,signP,may_num h,named_num h,Bool.false_eq_true,if_false]
      rw[number_in h];rfl
    |var _ _ t h=>
      show signP (n+1) (t::r)=_
      unfold signP
      rw[if_neg (by rw[may_out (isN_text h (by decide:nameB [45]=false))];simp),if_neg (by rw[may_out (isN_text h (by decide:nameB [40]=false))];simp),if_pos (named_in h),if_neg (by show ¬mayB [91] r=true;rw[show mayB [91] r=false from hr];simp)]
      rfl
    |load d _ t b e c x h1 h2 h3 h4=>
      have hin:=exprOf_in (signP_shr n) (fun c x h r hr=>ih h (by omega) r hr) h3 (r:=e::r) (FolX.sign h4 (by decide))
      simp only[List.cons_append,List.append_assoc,List.nil_append,signP,may_out (isN_text h1 (by decide:nameB [45]=false)),may_out (isN_text h1 (by decide:nameB [40]=false)),named_in h1,Bool.false_eq_true,if_false,if_true,List.tail_cons,may_in h2,hin,PR.then,take_in h4]
      rfl
    |neg d _ t c x h1 h2=>
      have hin:=ih h2 (by omega) r hr
      simp only[List.cons_append,signP,may_in h1,if_true,List.tail_cons,hin,PR.then]
      rfl
    |par d _ t e c x h1 h2 h3=>
      have hin:=exprOf_in (signP_shr n) (fun c x h r hr=>ih h (by omega) r hr) h2 (r:=e::r) (FolX.sign h3 (by decide))
      simp only[List.cons_append,List.append_assoc,List.nil_append,signP,may_out (show t.text≠ [45]from by rw[h1.1];decide),may_in h1,Bool.false_eq_true,if_false,if_true,List.tail_cons,hin,PR.then,take_in h3]
    | two _ _ k t a b x y h1 h2 h3 h4 h5 h6 => exact absurd h3 (by unfold opL; split; · omega
                                                                   split<;>omega)
theorem exprP_in {n d:Nat} {c:List Tk} {x:Ex} (h:ExG d 1 c x) (hd:d≤n) {r:List Tk} (hr:FolX r):exprP n (c++r)= .ok x r:=
  exprOf_in (signP_shr n) (fun c x h r hr=>signP_in n h hd r hr) h hr
theorem indexP_in {n d:Nat} {b e:Tk} {c:List Tk} {x:Ex} (hb:isT b [91]) (h:ExG d 1 c x) (he:isT e [93]) (hd:d+1≤n) (r:List Tk):indexP n (b::(c++e::r))= .ok x r:=by
  obtain⟨n,rfl⟩:∃q,n=q+1:=⟨n - 1,by omega⟩
  unfold indexP withinP
  rw[if_pos (may_in hb)]
  simp only[List.tail_cons]
  rw[exprP_in h (by omega) (FolX.sign he (by decide))]
  simp only[PR.then,take_in he]
theorem ExG.first {d n:Nat} {c:List Tk} {x:Ex} (h:ExG d n c x):∃t r,c=t::r∧(t.kind=2∨isN t∨isT t [45]∨isT t [40]):=by
  induction h with
  |num d n t h=>exact⟨t,_,rfl,.inl h⟩
  |var d n t h=>exact⟨t,_,rfl,.inr (.inl h)⟩
  |load d n t b e c x h1 h2 h3 h4 ih=>exact⟨t,_,rfl,.inr (.inl h1)⟩
  |neg d n t c x h1 h2 ih=>exact⟨t,_,rfl,.inr (.inr (.inl h1))⟩
  |par d n t e c x h1 h2 h3 ih=>exact⟨t,_,rfl,.inr (.inr (.inr h1))⟩
  |two d n k t a b x y h1 h2 h3 h4 h5 h6 ih1 ih2=>
    obtain⟨u,r,rfl,h⟩:=ih1
    exact⟨u,_,rfl,h⟩
theorem first_out {t:Tk} {r:List Tk} (h:t.kind=2∨isN t∨isT t [45]∨isT t [40]) {signs:List (List UInt8)} (hs:∀s∈signs,nameB s=false∧s≠ [45]∧s≠ [40]):isP signs (t::r) < 0:=by
  rcases h with h|h|h|h
  · exact isP_num h
  · exact isP_out fun hm=>absurd rfl (isN_text h (hs _ hm).1)
  · exact isP_out fun hm=>(hs _ hm).2.1 h.1
  · exact isP_out fun hm=>(hs _ hm).2.2 h.1
theorem first_may {t:Tk} {r:List Tk} (h:t.kind=2∨isN t∨isT t [45]∨isT t [40]) {s:List UInt8} (hs:nameB s=false∧s≠ [45]∧s≠ [40]):mayB s (t::r)=false:=by
  have:=first_out (r:=r) h (signs:= [s]) (fun u hu=>by rw[List.mem_singleton.1 hu];exact hs)
  unfold mayB
  simp only[beq_eq_false_iff_ne,ne_eq]
  omega

theorem chainC_in {one:List Tk→PR Cn} {K:Int} {s:List UInt8} {R0 R1:List Tk→Cn→Prop} {F:List Tk→Prop} (hsh:Shr one) (hs:s≠ [])
  (hc:∀c x,R0 c x→R1 c x∨∃t a b y z,R0 a y∧isT t s∧R1 b z∧c=a++t::b∧x=⟨K,.nil,y.cons (z.cons .nil),t.at_⟩)
  (h1:∀c x,R1 c x→∀r,F r→one (c++r)= .ok x r) (hF:∀t r,isT t s→F (t::r)):
  ∀(n:Nat) (c:List Tk) (x:Cn),c.length≤n→R0 c x→∀r,F r→chainP one (joinX K) [s] (c++r)=chainL one (joinX K) [s] x r
 |n,c,x,hn,h,r,hr=>by
  have hse: []∉ [s]:=by simpa using hs.symm
  rcases hc c x h with h|⟨t,a,b,y,z,ha,ht,hb,rfl,rfl⟩
  ·unfold chainP
   rw[h1 c x h r hr]
   rfl
  ·have hl:a.length < n:=by simp at hn;omega
   obtain⟨n,rfl⟩:∃q,n=q+1:=⟨n - 1,by omega⟩
   have ih:=chainC_in hsh hs hc h1 hF n a y (by omega) ha (t::(b++r)) (hF t _ ht)
   have hi:isP [s] (t::(b++r))=(0:Nat):=isP_in ht.2 (by rw[ht.1];rfl) (fun j hj=>by omega)
   rw[List.append_assoc,List.cons_append,ih,chainL_eq hsh hse,if_neg (by rw[hi];omega)]
   show(one (b++r)).then _=_
   rw[h1 b z hb r hr]
   show chainL one (joinX K) [s] (joinX K (isP [s] (t::(b++r))) _ y z) r=_
   simp only[joinX,hdT,List.headD_cons]
theorem co2 {d:Nat} (c:List Tk) (x:Cn) (h:CoG d 2 c x):CoG d 3 c x∨∃t a b y z,CoG d 2 a y∧isT t [38,38]∧CoG d 3 b z∧c=a++t::b∧x=⟨10,.nil,y.cons (z.cons .nil),t.at_⟩:=by
 cases h with
 |yes _ _ t h=>exact .inl (.yes d 3 t h)
 |no _ _ t h=>exact .inl (.no d 3 t h)
 |not d _ t c x h1 h2=>exact .inl (.not d 3 t c x h1 h2)
 |br d _ t e c x h1 h2 h3=>exact .inl (.br d 3 t e c _ h1 h2 h3)
 |cmp _ _ k t a b x y h1 h2 h3 h4 h5=>exact .inl (.cmp d 3 k t a b x y h1 h2 h3 h4 h5)
 |and _ _ t a b x y h1 h2 h3 h4=>exact .inr ⟨t,a,b,x,y,h2,h3,h4,rfl,rfl⟩
 |or _ _ t a b x y h1 h2 h3 h4=>omega
theorem co1 {d:Nat} (c:List Tk) (x:Cn) (h:CoG d 1 c x):CoG d 2 c x∨∃t a b y z,CoG d 1 a y∧isT t [124,124]∧CoG d 2 b z∧c=a++t::b∧x=⟨11,.nil,y.cons (z.cons .nil),t.at_⟩:=by
 cases h with
 |yes _ _ t h=>exact .inl (.yes d 2 t h)
 |no _ _ t h=>exact .inl (.no d 2 t h)
 |not d _ t c x h1 h2=>exact .inl (.not d 2 t c x h1 h2)
 |br d _ t e c x h1 h2 h3=>exact .inl (.br d 2 t e c _ h1 h2 h3)
 |cmp _ _ k t a b x y h1 h2 h3 h4 h5=>exact .inl (.cmp d 2 k t a b x y h1 h2 h3 h4 h5)
 |and _ _ t a b x y h1 h2 h3 h4=>exact .inl (.and d 2 t a b x y (by omega) h2 h3 h4)
 |or _ _ t a b x y h1 h2 h3 h4=>exact .inr ⟨t,a,b,x,y,h2,h3,h4,rfl,rfl⟩
structure FolC (r:List Tk):Prop where
 x:FolX r
 and:isP [[38,38]] r < 0
 or:isP [[124,124]] r < 0
theorem FolC.sign {t:Tk} {s:List UInt8} {r:List Tk} (h:isT t s) (hs:s∉([[91], [42], [47], [37], [43], [45], [60,60], [62,62]]:List (List UInt8))∧s≠ [38,38]∧s≠ [124,124]):FolC (t::r):=
 ⟨FolX.sign h hs.1,isP_out (by rw[h.1];simpa using hs.2.1),isP_out (by rw[h.1];simpa using hs.2.2)⟩
theorem condOf_in {d:Nat} {nt:List Tk→PR Cn} (hsh:Shr nt) (h3:∀c x,CoG d 3 c x→∀r,FolX r→nt (c++r)= .ok x r) {c:List Tk} {x:Cn} (h:CoG d 1 c x) {r:List Tk} (hr:FolC r):condOf nt (c++r)= .ok x r:=by
 have ha:∀c x,CoG d 2 c x→∀r,(FolX r∧isP [[38,38]] r < 0)→chainP nt (joinX 10) [[38,38]] (c++r)= .ok x r:=fun c x h r hr=>by
  rw[chainC_in (F:=FolX) hsh (by decide) co2 h3 (fun t r ht=>FolX.sign ht (by decide)) _ c x (Nat.le_refl _) h r hr.1,chainL_eq hsh (by decide),if_pos hr.2]
 have has:Shr (chainP nt (joinX 10) [[38,38]]):=chainP_shr hsh
 unfold condOf
 rw[chainC_in (F:=fun r=>FolX r∧isP [[38,38]] r < 0) has (by decide) co1 ha (fun t r ht=>⟨FolX.sign ht (by decide),isP_out (by rw[ht.1];decide)⟩) _ c x (Nat.le_refl _) h r ⟨hr.x,hr.and⟩,chainL_eq has (by decide),if_pos hr.or]
theorem cmpP_in {n d:Nat} {k:Int} {t:Tk} {a b:List Tk} {x y:Ex} (h1:3≤k) (h2:k≤8) (ha:ExG d 1 a x) (ht:isT t (cmT k)) (hb:ExG d 1 b y) (hd:d≤n) {r:List Tk} (hr:FolX r):cmpP n (a++t::(b++r))= .ok ⟨k,x.cons (y.cons .nil),.nil,t.at_⟩ r:=by
 unfold cmpP
 have hk:k=3∨k=4∨k=5∨k=6∨k=7∨k=8:=by omega
 have hfx:FolX (t::(b++r)):=by rcases hk with rfl|rfl|rfl|rfl|rfl|rfl<;>exact FolX.sign ht (by decide)
 have hi:isP cmpS (t::(b++r))=k - 3:=by
  rcases hk with rfl|rfl|rfl|rfl|rfl|rfl
  ·exact sgn_in ht 0 rfl (by decide)
  ·exact sgn_in ht 1 rfl (by decide)
  ·exact sgn_in ht 2 rfl (by decide)
  ·exact sgn_in ht 3 rfl (by decide)
  ·exact sgn_in ht 4 rfl (by decide)
  ·exact sgn_in ht 5 rfl (by decide)
 rw[exprP_in ha hd hfx]
 simp only[PR.then,hi,List.tail_cons]
 rw[if_neg (by omega),exprP_in hb hd hr]
 simp only[PR.then,hdT,List.headD_cons,show 3+(k - 3)=k from by omega]
theorem notP_in:∀(n:Nat) {d:Nat} {c:List Tk} {x:Cn},CoG d 3 c x→d≤n→∀r,FolX r→notP n (c++r)= .ok x r:=by
 intro n
 induction n with
 |zero=>
  intro d c x h hd r hr
  cases h with
  |yes _ _ t h=>
   have hi:isP notS (t::r)=2:=sgn_in h 2 rfl (by decide)
   simp only[List.cons_append,List.nil_append,notP,hi]
   rfl
  |no _ _ t h=>
   have hi:isP notS (t::r)=3:=sgn_in h 3 rfl (by decide)
   simp only[List.cons_append,List.nil_append,notP,hi]
   rfl
  |not d _ t c x h1 h2=>omega
  |br d _ t e c x h1 h2 h3=>omega
  |cmp _ _ k t a b x y h1 h2 h3 h4 h5=>
   obtain⟨u,q,rfl,hu⟩:=h3.first
   have hi:∀l,isP notS (u::l) < 0:=fun l=>first_out hu (by decide)
   have hc:=cmpP_in (n:=0) h1 h2 h3 h4 h5 hd hr
   simp only[List.cons_append,List.append_assoc]at hc ⊢
   simp only[notP]
   have:=hi (q++t::(b++r))
   rw[if_neg (by omega),if_neg (by omega),if_neg (by omega)]
   exact hc
  |and _ _ t a b x y h1 h2 h3 h4=>omega
  |or _ _ t a b x y h1 h2 h3 h4=>omega
 |succ n ih=>
  intro d c x h hd r hr
  cases h with
  |yes _ _ t h=>
   have hi:isP notS (t::r)=2:=sgn_in h 2 rfl (by decide)
   simp only[List.cons_append,List.nil_append,notP,hi]
   rfl
  |no _ _ t h=>
   have hi:isP notS (t::r)=3:=sgn_in h 3 rfl (by decide)
   simp only[List.cons_append,List.nil_append,notP,hi]
   rfl
  |not d _ t c x h1 h2=>
   have hi:isP notS (t::(c++r))=0:=sgn_in h1 0 rfl (by decide)
   simp only[List.cons_append,notP,hi,if_true,List.tail_cons]
   rw[ih h2 (by omega) r hr]
   rfl
  |br d _ t e c x h1 h2 h3=>
   have hi:isP notS (t::(c++e::r))=1:=sgn_in h1 1 rfl (by decide)
   simp only[List.cons_append,List.append_assoc,List.nil_append,notP,hi,List.tail_cons]
   rw[if_neg (by decide),if_pos trivial,condOf_in (notP_shr n) (fun c x h r hr=>ih h (by omega) r hr) h2 (FolC.sign h3 (by decide))]
   simp only[PR.then,take_in h3]
  |cmp _ _ k t a b x y h1 h2 h3 h4 h5=>
   obtain⟨u,q,rfl,hu⟩:=h3.first
   have hi:∀l,isP notS (u::l) < 0:=fun l=>first_out hu (by decide)
   have hc:=cmpP_in (n:=n+1) h1 h2 h3 h4 h5 hd hr
   simp only[List.cons_append,List.append_assoc]at hc ⊢
   simp only[notP]
   have:=hi (q++t::(b++r))
   rw[if_neg (by omega),if_neg (by omega),if_neg (by omega)]
   exact hc
  |and _ _ t a b x y h1 h2 h3 h4=>omega
  |or _ _ t a b x y h1 h2 h3 h4=>omega
theorem condP_in {n d:Nat} {c:List Tk} {x:Cn} (h:CoG d 1 c x) (hd:d≤n) {r:List Tk} (hr:FolC r):condP n (c++r)= .ok x r:=
 condOf_in (notP_shr n) (fun c x h r hr=>notP_in n h hd r hr) h hr
theorem askP_in {n d:Nat} {c:List Tk} {cs:Cds} (h:AskG d c cs) (hd:d≤n) (r:List Tk):askP n (c++r)= .ok cs r:=by
 obtain⟨t,e,q,x,rfl,h1,h2,h3,rfl⟩:=h
 unfold askP
 simp only[List.cons_append,List.append_assoc,List.nil_append,take_in h1,PR.then]
 rw[condP_in h2 hd (FolC.sign h3 (by decide))]
 simp only[take_in h3]
theorem someF_in {α:Type} {one:List Tk→PR α} {R:List Tk→α→Prop} {F:List Tk→Prop} {s:List UInt8} {e:Tk} (hs:s≠ [44]) (he:isT e s) (h1:∀c x,R c x→∀r,F r→one (c++r)= .ok x r) (hF:∀t r,isT t [44]∨isT t s→F (t::r))
  {c:List Tk} {xs:List α} (h:SomeG R c xs):∀(f:Nat) (acc:List α) (r:List Tk),(c++e::r).length ≤f→someF one s f acc (c++e::r)= .ok (acc++xs) r:=by
 induction h with
 |one c x hx=>
  intro f acc r hf
  obtain⟨f,rfl⟩:∃q,f=q+1:=⟨f - 1,by simp at hf;omega⟩
  simp only[someF,h1 c x hx (e::r) (hF e r (.inr he)),PR.then]
  rw[if_neg (by rw[may_out (by rw[he.1];exact hs)];simp),take_in he]
 |more c x t d xs hx ht _ ih=>
  intro f acc r hf
  obtain⟨f,rfl⟩:∃q,f=q+1:=⟨f - 1,by simp at hf;omega⟩
  simp only[List.append_assoc,List.cons_append]
  simp only[someF,h1 c x hx (t::(d++e::r)) (hF t _ (.inl ht)),PR.then]
  rw[if_pos (may_in ht),List.tail_cons,ih f (acc++ [x]) r (by simp at hf ⊢;omega)]
  simp
theorem someP_in {α:Type} {one:List Tk→PR α} {R:List Tk→α→Prop} {F:List Tk→Prop} {s:List UInt8} {e:Tk} (hs:s≠ [44]) (he:isT e s) (h1:∀c x,R c x→∀r,F r→one (c++r)= .ok x r) (hF:∀t r,isT t [44]∨isT t s→F (t::r))
  (hfirst:∀c x,R c x→∃t q,c=t::q∧∀l,mayB s (t::l)=false) {c:List Tk} {xs:List α} {no:Bool} (h:SomeG R c xs) (r:List Tk):someP one s no (c++e::r)= .ok xs r:=by
 have hq:∃t q,c=t::q∧∀l,mayB s (t::l)=false:=by
  cases h with
  |one c x hx=>exact hfirst _ _ hx
  |more c x t d xs hx ht _=>
   obtain⟨u,q,rfl,h⟩:=hfirst _ _ hx
   exact⟨u,_,rfl,h⟩
 obtain⟨t,q,rfl,hm⟩:=hq
 unfold someP
 rw[if_neg (by rw[List.cons_append,hm];simp),someF_in hs he h1 hF h _ [] r (Nat.le_refl _)]
 rfl
theorem someP_none {α:Type} {one:List Tk→PR α} {s:List UInt8} {e:Tk} (he:isT e s) (r:List Tk):someP one s true (e::r)= .ok [] r:=by
 unfold someP
 rw[if_pos (by rw[may_in he];rfl)]
 rfl
theorem endS_in {x:St} {e:Tk} {r:List Tk} (he:isT e [59]):endS x (e::r)= .ok x r:=by
 unfold endS
 rw[take_in he]
 rfl
theorem name_key {l:List UInt8} (h:nameB l=true):keyK l=0:=by
 obtain⟨_,_,_,_,_,hk⟩:=name_first h
 unfold keyB at hk
 have hk:l∉kwL:=by simpa using hk
 simp only[kwL,List.mem_cons,List.not_mem_nil,or_false,not_or]at hk
 unfold keyK
 simp[hk]
def FolS (r:List Tk):Prop:=mayB [101,108,115,101] r=false
theorem stmtOf_in {m n:Nat} {blk:List Tk→PR (List St)} (hm:m≤n) (hb:∀c xs,BlG m c xs→∀r,blk (c++r)= .ok xs r) {c:List Tk} {x:St} (h:StG m c x) {r:List Tk} (hr:FolS r):stmtOf blk n (c++r)= .ok x r:=by
 cases h with
 |skip m t e h1 h2=>
  unfold stmtOf
  simp only[List.cons_append,List.nil_append,hdT,List.headD_cons,h1,List.tail_cons]
  rw[if_pos (by decide),endS_in h2]
 |input m t n e h1 h2 h3=>
  unfold stmtOf
  simp only[List.cons_append,List.nil_append,hdT,List.headD_cons,h1,List.tail_cons]
  rw[if_neg (by decide),if_pos (by decide),name_in h2]
  simp only[PR.then,endS_in h3]
 |assume m t e c cs h1 h2 h3=>
  unfold stmtOf
  simp only[List.cons_append,List.append_assoc,List.nil_append,hdT,List.headD_cons,h1,List.tail_cons]
  rw[if_neg (by decide),if_neg (by decide),if_pos (by decide),askP_in h2 hm]
  simp only[PR.then,endS_in h3]
  rfl
 |assert m t e c cs h1 h2 h3=>
  unfold stmtOf
  simp only[List.cons_append,List.append_assoc,List.nil_append,hdT,List.headD_cons,h1,List.tail_cons]
  rw[if_neg (by decide),if_neg (by decide),if_pos (by decide),askP_in h2 hm]
  simp only[PR.then,endS_in h3]
  rfl
 |ifs m t c b cs xs h1 h2 h3=>
  unfold stmtOf
  simp only[List.cons_append,List.append_assoc,List.nil_append,hdT,List.headD_cons,h1,List.tail_cons]
  rw[if_neg (by decide),if_neg (by decide),if_neg (by decide),if_pos (by decide),askP_in h2 hm]
  simp only[PR.then,hb _ _ h3]
  rw[if_neg (by rw[hr];simp)]
 |ifelse m t l c b d cs xs ys h1 h2 h3 h4 h5=>
  unfold stmtOf
  simp only[List.cons_append,List.append_assoc,List.nil_append,hdT,List.headD_cons,h1,List.tail_cons]
  rw[if_neg (by decide),if_neg (by decide),if_neg (by decide),if_pos (by decide),askP_in h2 hm]
  simp only[PR.then,hb _ _ h3]
  rw[if_pos (may_in h4)]
  simp only[List.tail_cons,hb _ _ h5]
 |«while» m t c b cs xs h1 h2 h3=>
  unfold stmtOf
  simp only[List.cons_append,List.append_assoc,List.nil_append,hdT,List.headD_cons,h1,List.tail_cons]
  rw[if_neg (by decide),if_neg (by decide),if_neg (by decide),if_neg (by decide),if_pos (by decide),askP_in h2 hm]
  simp only[PR.then,hb _ _ h3]
 |call m t n o e s c xs h1 h2 h3 h4 h5 h6=>
  unfold stmtOf
  simp only[List.cons_append,List.append_assoc,List.nil_append,hdT,List.headD_cons,h1,List.tail_cons]
  rw[if_neg (by decide),if_neg (by decide),if_neg (by decide),if_neg (by decide),if_neg (by decide),if_pos (by decide),name_in h2]
  simp only[PR.then,take_in h3]
  rcases h4 with⟨rfl,rfl⟩|h4
  ·simp only[List.nil_append]
   rw[someP_none h5]
   simp only[endS_in h6]
  ·rw[someP_in (F:=FolX) (by decide) h5 (fun c x h r hr=>exprP_in h hm hr) (fun t r ht=>ht.elim (fun ht=>FolX.sign ht (by decide)) fun ht=>FolX.sign ht (by decide)) (fun c x h=>by
    obtain⟨t,q,rfl,hf⟩:=h.first
    exact⟨t,q,rfl,fun l=>first_may hf (by decide)⟩) h4]
   simp only[endS_in h6]
 |store m n b e q s c d x y h1 h2 h3 h4 h5 h6 h7=>
  unfold stmtOf
  simp only[List.cons_append,List.append_assoc,List.nil_append,hdT,List.headD_cons,name_key h1.2,List.tail_cons]
  rw[if_neg (by decide),if_neg (by decide),if_neg (by decide),if_neg (by decide),if_neg (by decide),if_neg (by decide),name_in h1]
  simp only[PR.then]
  rw[if_pos (may_in h2),indexP_in h2 h3 h4 hm]
  simp only[take_in h5]
  rw[exprP_in h6 hm (FolX.sign h7 (by decide))]
  simp only[endS_in h7]
 |set m n q s c x h1 h2 h3 h4=>
  unfold stmtOf
  simp only[List.cons_append,List.append_assoc,List.nil_append,hdT,List.headD_cons,name_key h1.2,List.tail_cons]
  rw[if_neg (by decide),if_neg (by decide),if_neg (by decide),if_neg (by decide),if_neg (by decide),if_neg (by decide),name_in h1]
  simp only[PR.then]
  rw[if_neg (by rw[may_out (by rw[h2.1];decide)];simp),take_in h2]
  simp only
  rw[exprP_in h3 hm (FolX.sign h4 (by decide))]
  simp only[endS_in h4]
theorem StG.first {m:Nat} {c:List Tk} {x:St} (h:StG m c x):∃t r,c=t::r∧(keyK t.text≠0∨isN t):=by
 cases h with
 |skip m t e h1 h2=>exact⟨t,_,rfl,.inl (by rw[h1];decide)⟩
 |input m t n e h1 h2 h3=>exact⟨t,_,rfl,.inl (by rw[h1];decide)⟩
 |assume m t e c cs h1 h2 h3=>exact⟨t,_,rfl,.inl (by rw[h1];decide)⟩
 |assert m t e c cs h1 h2 h3=>exact⟨t,_,rfl,.inl (by rw[h1];decide)⟩
 |ifs m t c b cs xs h1 h2 h3=>exact⟨t,_,rfl,.inl (by rw[h1];decide)⟩
 |ifelse m t l c b d cs xs ys h1 h2 h3 h4 h5=>exact⟨t,_,rfl,.inl (by rw[h1];decide)⟩
 |«while» m t c b cs xs h1 h2 h3=>exact⟨t,_,rfl,.inl (by rw[h1];decide)⟩
 |call m t n o e s c xs h1 h2 h3 h4 h5 h6=>exact⟨t,_,rfl,.inl (by rw[h1];decide)⟩
 |store m n b e q s c d x y h1 h2 h3 h4 h5 h6 h7=>exact⟨n,_,rfl,.inr h1⟩
 |set m n q s c x h1 h2 h3 h4=>exact⟨n,_,rfl,.inr h1⟩
theorem first_no {t:Tk} {r:List Tk} (h:keyK t.text≠0∨isN t) {s:List UInt8} (hs:keyK s=0∧nameB s=false):mayB s (t::r)=false:=by
 refine may_out fun e=>?_
 rcases h with h|h
 ·rw[e]at h;exact h hs.1
 ·exact isN_text h hs.2 e
theorem stmtsF_in {m:Nat} {one:List Tk→PR St} (h1:∀c x,StG m c x→∀r,FolS r→one (c++r)= .ok x r) {e:Tk} (he:isT e [125]):∀ {xs:List St} {c:List Tk},SsG m c xs→∀(f:Nat) (acc:List St) (r:List Tk),(c++e::r).length ≤f→stmtsF one f acc (c++e::r)= .ok (acc++xs) r
 |_,_,.nil _,f,acc,r,hf=>by
  obtain⟨f,rfl⟩:∃q,f=q+1:=⟨f - 1,by simp at hf;omega⟩
  simp only[List.nil_append,stmtsF]
  rw[if_pos (may_in he)]
  simp
 |_,_,.cons _ a b x xs h2 h3,f,acc,r,hf=>by
  obtain⟨f,rfl⟩:∃q,f=q+1:=⟨f - 1,by simp at hf;omega⟩
  obtain⟨t,q,rfl,ht⟩:=h2.first
  have hfol:FolS (b++e::r):=by
   cases h3 with
   |nil=>exact may_out (by rw[he.1];decide)
   |cons _ a' b' y ys h4 h5=>
    obtain⟨t',q',rfl,ht'⟩:=h4.first
    exact first_no ht' (by decide)
  have hone:=h1 _ _ h2 _ hfol
  have ih:=stmtsF_in h1 he h3 f (acc++ [x]) r (by simp at hf ⊢;omega)
  simp only[List.append_assoc,List.cons_append]at hone ⊢
  simp only[stmtsF]
  rw[if_neg (by rw[first_no ht (by decide)];simp),hone]
  simp only[PR.then]
  rw[ih]
  simp
theorem blockP_in:∀(n:Nat) {d:Nat} {c:List Tk} {xs:List St},BlG d c xs→d≤n→∀r,blockP n (c++r)= .ok xs r:=by
 intro n
 induction n with
 |zero=>
  intro d c xs h hd r
  cases h with
  |mk m t e c xs h1 h2 h3=>omega
 |succ n ih=>
  intro d c xs h hd r
  cases h with
  |mk m t e c xs h1 h2 h3=>
   unfold blockP
   simp only[List.cons_append,List.append_assoc,List.nil_append]
   rw[if_pos (may_in h1)]
   simp only[List.tail_cons]
   rw[stmtsF_in (fun c x h r hr=>stmtOf_in (n:=n) (by omega) (fun c xs h r=>ih h (by omega) r) h hr) h3 h2 _ [] r (Nat.le_refl _)]
   rfl
theorem nameG_in (c:List Tk) (x:Va) (h:VaG c x) (r:List Tk):nameP (c++r)= .ok x r:=by
 obtain⟨t,rfl,h1,rfl⟩:=h
 exact name_in h1
theorem nameG_first {s:List UInt8} (hs:nameB s=false) (c:List Tk) (x:Va) (h:VaG c x):∃t q,c=t::q∧∀l,mayB s (t::l)=false:=by
 obtain⟨t,rfl,h1,rfl⟩:=h
 exact⟨t, [],rfl,fun l=>may_out (isN_text h1 hs)⟩
theorem sizedG_in (c:List Tk) (x:Arr) (h:ArG c x) (r:List Tk):sizedP (c++r)= .ok x r:=by
 obtain⟨t,b,n,e,rfl,h1,h2,h3,h4,rfl⟩:=h
 unfold sizedP
 simp only[List.cons_append,List.nil_append,name_in h1,PR.then,take_in h2,number_in h3,take_in h4]
theorem sizedG_first {s:List UInt8} (hs:nameB s=false) (c:List Tk) (x:Arr) (h:ArG c x):∃t q,c=t::q∧∀l,mayB s (t::l)=false:=by
 obtain⟨t,b,n,e,rfl,h1,h2,h3,h4,rfl⟩:=h
 exact⟨t,_,rfl,fun l=>may_out (isN_text h1 hs)⟩
theorem headF_in {c:List Tk} {ws:List Va} {ys:List Arr} (h:HdG c ws ys):∀(f:Nat) (vs:List Va) (xs:List Arr) (r:List Tk),mayB [118,97,114] r=false→mayB [97,114,114,97,121] r=false→(c++r).length ≤f→headF f vs xs (c++r)= .ok (vs++ws,xs++ys) r:=by
 induction h with
 |nil=>
  intro f vs xs r h1 h2 hf
  cases f with
  |zero=>simp[headF]
  |succ f=>
   simp only[List.nil_append,headF]
   rw[if_neg (by rw[h1];simp),if_neg (by rw[h2];simp)]
   simp
 |vars t e c d v ws ys h1 h2 h3 h4 ih=>
  intro f vs xs r g1 g2 hf
  obtain⟨f,rfl⟩:∃q,f=q+1:=⟨f - 1,by simp at hf;omega⟩
  simp only[List.cons_append,List.append_assoc,headF]
  rw[if_pos (may_in h1),List.tail_cons,someP_in (F:=fun _=>True) (by decide) h3 (fun c x h r _=>nameG_in c x h r) (fun _ _ _=>trivial) (nameG_first (by decide)) h2]
  simp only[PR.then]
  rw[ih f (vs++v) xs r g1 g2 (by simp at hf ⊢;omega)]
  simp
 |arrays t e c d ws v ys h1 h2 h3 h4 ih=>
  intro f vs xs r g1 g2 hf
  obtain⟨f,rfl⟩:∃q,f=q+1:=⟨f - 1,by simp at hf;omega⟩
  simp only[List.cons_append,List.append_assoc,headF]
  rw[if_neg (by rw[may_out (by rw[h1.1];decide)];simp),if_pos (may_in h1),List.tail_cons,someP_in (F:=fun _=>True) (by decide) h3 (fun c x h r _=>sizedG_in c x h r) (fun _ _ _=>trivial) (sizedG_first (by decide)) h2]
  simp only[PR.then]
  rw[ih f vs (xs++v) r g1 g2 (by simp at hf ⊢;omega)]
  simp

def KT (l:List UInt8) (ks:List Tk):Prop:=∀p,∃ts,tokL l p=(ts,0,0)∧ts.map Tk.bare=ks
theorem KT.nil:KT [] []:=fun p=>⟨[],tokL_nil rfl,rfl⟩
theorem KT.tok {k:Int} {u v:List UInt8} {ks:List Tk} (h:firstT (u++v)=(k,u.length,0)) (hr:KT v ks):KT (u++v) (⟨k,u,0⟩::ks):=fun p=>by
 have hb:=fT_blk h
 obtain⟨ts,h1,h2⟩:=hr (p+u.length)
 refine⟨_,tokL_mk (l:=u++v) (p:=p) (by rw[hb];rfl) h (by rw[hb,Nat.add_zero];exact h1),?_⟩
 rw[List.map_cons,h2]
 rfl
theorem KT.blank {B l:List UInt8} {ks:List Tk} (hB:∀b∈B,isBlk b=true) (h:KT l ks):KT (B++l) ks:=fun p=>by
 obtain⟨ts,h1,h2⟩:=h (p+B.length)
 exact⟨ts,by rw[tokL_blank B l p hB];exact h1,h2⟩
theorem KT.at0 {l:List UInt8} {ks:List Tk} (h:KT l ks) (hl:l.length≤4096):∃ts,toks l=(ts,0,0)∧ts.map Tk.bare=ks:=by
 obtain⟨ts,h1,h2⟩:=h 0
 exact⟨ts,by rw[tokL_toks hl];exact h1,h2⟩
end Go.Proofs.YtobegfbdedgmpaaGreatDoor
