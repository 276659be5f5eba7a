/-
  Packs: what pack.Packs makes, and its laws. No program.
-/
import Derived.Test.YtphlnpaikpjakaaJgOrP
import Derived.Lib.SlicesCompact
set_option linter.unusedVariables false
set_option linter.unusedSimpArgs false
namespace Go.Proofs.Ytphlnpaikpjakaa

abbrev leZ:Int→Int→Bool:=fun x y=>decide (x≤y)
def sdup (l:List Int):List Int:=Lib.compact (l.mergeSort leZ)
theorem sort_pair (l:List Int):(l.mergeSort leZ).Pairwise (· ≤ ·):=by
 have h:=List.pairwise_mergeSort (le:=leZ) (fun a b c h1 h2=>by simp only[leZ,decide_eq_true_eq]at*;omega) (fun a b=>by simp only[leZ,Bool.or_eq_true,decide_eq_true_eq];omega) l
 exact h.imp fun h=>by simpa[leZ]using h
theorem compact_rises (d:Array Int) (hs:∀i j,i≤j→j < d.size→d[i]! ≤d[j]!):∀m,m≤d.size→
  (Lib.compactUpTo d m).Pairwise (· < ·)∧(∀x,x∈Lib.compactUpTo d m↔∃j,j < m∧d[j]! =x)
 |0,_=>⟨by simp[Lib.compactUpTo],fun x=>by simp[Lib.compactUpTo]⟩
 |m+1,hm=>by
  obtain⟨h1,h2⟩:=compact_rises d hs m (by omega)
  rw[Lib.compactUpTo_succ]
  by_cases hk:Lib.keeps d m=true
  ·rw[if_pos hk]
   refine⟨List.pairwise_append.2 ⟨h1,by simp,fun a ha b hb=>?_⟩,fun x=>?_⟩
   ·obtain rfl:b=d[m]! :=by simpa using hb
    obtain⟨j,hj,rfl⟩:=(h2 a).1 ha
    have hne:d[m]! ≠d[m - 1]! :=by
     unfold Lib.keeps at hk
     simp only[decide_eq_true_eq]at hk
     rcases hk with h|h
     ·omega
     ·exact h
    have e1:=hs j (m - 1) (by omega) (by omega)
    have e2:=hs (m - 1) m (by omega) (by omega)
    omega
   ·rw[List.mem_append,h2]
    constructor
    ·rintro(⟨j,hj,e⟩|h)
     ·exact⟨j,by omega,e⟩
     ·exact⟨m,by omega,(by simpa using h:x=d[m]!).symm⟩
    ·rintro⟨j,hj,e⟩
     by_cases hjm:j < m
     ·exact .inl ⟨j,hjm,e⟩
     ·obtain rfl:j=m:=by omega
      exact .inr (by simp[e])
  ·rw[if_neg hk,List.append_nil]
   refine⟨h1,fun x=>?_⟩
   rw[h2]
   constructor
   ·rintro⟨j,hj,e⟩
    exact⟨j,by omega,e⟩
   ·rintro⟨j,hj,e⟩
    by_cases hjm:j < m
    ·exact⟨j,hjm,e⟩
    ·obtain rfl:j=m:=by omega
     unfold Lib.keeps at hk
     simp only[decide_eq_true_eq,not_or,Classical.not_not]at hk
     exact⟨j - 1,by omega,hk.2▸e⟩
theorem sdup_spec (l:List Int):(sdup l).Pairwise (· < ·)∧∀x,x∈sdup l↔x∈l:=by
 have hp:=sort_pair l
 have hm:∀x,x∈l.mergeSort leZ↔x∈l:=fun x=>(List.mergeSort_perm l leZ).mem_iff
 obtain⟨z,hz⟩:=nmq (l.mergeSort leZ)
 have h:=compact_rises z.toArray (fun i j hij hj=>by
  have hj':j < z.length:=by simpa using hj
  rw[getElem!_pos _ i (by simp;omega),getElem!_pos _ j hj]
  simp only[List.getElem_toArray]
  by_cases e:i=j
  ·subst e;exact Int.le_refl _
  ·rw[←hz]at hp
   exact List.pairwise_iff_getElem.1 hp i j (by omega) hj' (by omega)) z.length (by simp)
 unfold sdup Lib.compact
 rw[←hz]at hm ⊢
 refine⟨h.1,fun x=>?_⟩
 rw[h.2,←hm x]
 constructor
 ·rintro⟨j,hj,rfl⟩
  rw[getElem!_pos _ j (by simpa using hj)]
  simp
 ·intro hx
  obtain⟨j,hj,e⟩:=List.mem_iff_getElem.1 hx
  exact⟨j,hj,by rw[getElem!_pos _ j (by simpa using hj)];simpa using e⟩

def pkAll (P:List (List Int)) (sc:List Int):List Int:=sc.flatMap fun n=>P.getD n.toNat []
def pkSet (P:List (List Int)) (ns a:List Int):List (List Int):=ns.foldl (fun P n=>P.set n.toNat a) P
def pkStep (most:Int) (P:List (List Int)) (sc:List Int):List (List Int):=if most < ((sdup (pkAll P sc)).length :Int)then P else pkSet P (sdup (pkAll P sc)) (sdup (pkAll P sc))
def pk0 (v:Nat):List (List Int):=(List.range v).map fun(i:Nat)=> [(i:Int)]
def pkRun (most:Int) (P:List (List Int)) (E:List (List Int)):List (List Int):=E.foldl (pkStep most) P
def pkHd (P:List (List Int)) (i:Nat):Bool:=(P.getD i []).headD (-1)==(i:Int)
def pkOut (P:List (List Int)) (k:Nat):List (List Int):=((List.range k).filter (pkHd P)).map fun i=>P.getD i []

structure PkI (v:Nat) (most:Int) (P:List (List Int)):Prop where
 len:P.length=v
 own:∀(i:Nat) (l:List Int),P[i]?=some l→(i:Int)∈l
 rise:∀(i:Nat) (l:List Int),P[i]?=some l→l.Pairwise (· < ·)
 few:∀(i:Nat) (l:List Int),P[i]?=some l→(l.length:Int)≤most
 mem:∀(i:Nat) (l:List Int),P[i]?=some l→∀x∈l,0≤x∧x < v∧P[x.toNat]?=some l
theorem PkI.zero {v:Nat} {most:Int} (hm:1≤most):PkI v most (pk0 v):=by
 have hget:∀(i:Nat) (l:List Int),(pk0 v)[i]?=some l→i < v∧l= [(i:Int)]:=fun i l h=>by
  unfold pk0 at h
  rw[List.getElem?_map]at h
  by_cases hi:i < v
  ·rw[List.getElem?_range hi]at h
   simp at h
   exact⟨hi,h.symm⟩
  ·rw[List.getElem?_eq_none (by simp;omega)]at h
   cases h
 refine⟨by simp[pk0],fun i l h=>?_,fun i l h=>?_,fun i l h=>?_,fun i l h x hx=>?_⟩
 ·rw[(hget i l h).2];simp
 ·rw[(hget i l h).2];simp
 ·rw[(hget i l h).2];simpa using hm
 ·obtain⟨hi,rfl⟩:=hget i l h
  obtain rfl:x=(i:Int):=by simpa using hx
  exact⟨by omega,by omega,by simpa using h⟩
theorem pkSet_len (a:List Int):∀(ns:List Int) (P:List (List Int)),(pkSet P ns a).length =P.length
 | [],_=>rfl
 |n::ns,P=>by
  show(pkSet (P.set n.toNat a) ns a).length =_
  rw[pkSet_len a ns]
  simp
theorem pkSet_get (a:List Int):∀(ns:List Int) (P:List (List Int)) (i:Nat),(∀n∈ns,0≤n)→i < P.length→(pkSet P ns a)[i]?=if(i:Int)∈ns then some a else P[i]?
 | [],P,i,_,_=>by simp[pkSet]
 |n::ns,P,i,h,hi=>by
  show(pkSet (P.set n.toNat a) ns a)[i]?=_
  rw[pkSet_get a ns _ i (fun m hm=>h m (List.mem_cons_of_mem _ hm)) (by simpa using hi)]
  have hn:=h n (List.mem_cons_self ..)
  by_cases h1:(i:Int)∈ns
  ·simp[h1]
  ·rw[if_neg h1,List.getElem?_set]
   by_cases h2:n.toNat=i
   ·rw[if_pos h2,if_pos (by omega),if_pos (List.mem_cons.2 (.inl (by omega)))]
   ·rw[if_neg h2,if_neg (fun hm=>by
     rcases List.mem_cons.1 hm with e|e
     ·omega
     ·exact h1 e)]
theorem PkI.step {v:Nat} {most:Int} {P:List (List Int)} (h:PkI v most P) (sc:List Int) (hsc:∀n∈sc,0≤n∧n < v):PkI v most (pkStep most P sc):=by
 unfold pkStep
 split
 ·exact h
 rename_i hm
 obtain⟨a,ha⟩:=nmq (sdup (pkAll P sc))
 rw[←ha]at hm ⊢
 obtain⟨hr,hmem⟩:=sdup_spec (pkAll P sc)
 rw[←ha]at hr hmem
 -- what is in a
 have hin:∀x∈a,0≤x∧x < v∧∃n∈sc,∃l,P[n.toNat]?=some l∧x∈l∧P[x.toNat]?=some l:=fun x hx=>by
  obtain⟨n,hn,hxl⟩:=List.mem_flatMap.1 ((hmem x).1 hx)
  have hnv:=hsc n hn
  obtain⟨l,hl⟩:∃l,P[n.toNat]?=some l:=⟨_,List.getElem?_eq_getElem (by rw[h.len];omega)⟩
  have hxl:x∈l:=by rw[List.getD_eq_getElem?_getD,hl]at hxl;exact hxl
  obtain⟨h0,h1,h2⟩:=h.mem _ l hl x hxl
  exact⟨h0,h1,n,hn,l,hl,hxl,h2⟩
 -- whoever is with one of a is in a
 have hcl:∀(i:Nat) (l:List Int),P[i]?=some l→∀x∈l,x∈a→(i:Int)∈a:=fun i l hl x hx hxa=>by
  obtain⟨_,_,n,hn,l',hl',hxl',hx'⟩:=hin x hxa
  have e:l=l':=by have:=(h.mem i l hl x hx).2.2;rw[this]at hx';exact Option.some.inj hx'
  subst e
  refine(hmem _).2 (List.mem_flatMap.2 ⟨n,hn,?_⟩)
  rw[List.getD_eq_getElem?_getD,hl']
  exact h.own i l hl
 have hget:∀(i:Nat) (l:List Int),(pkSet P a a)[i]?=some l→i < v∧((i:Int)∈a∧l=a∨(i:Int)∉a∧P[i]?=some l):=fun i l hl=>by
  have hi:i < P.length:=by have:=(List.getElem?_eq_some_iff.1 hl).1;rwa [pkSet_len]at this
  rw[pkSet_get a a P i (fun n hn=>(hin n hn).1) hi]at hl
  split at hl
  ·rename_i hia
   exact⟨h.len▸hi,.inl ⟨hia,(Option.some.inj hl).symm⟩⟩
  ·rename_i hia
   exact⟨h.len▸hi,.inr ⟨hia,hl⟩⟩
 refine⟨by rw[pkSet_len,h.len],fun i l hl=>?_,fun i l hl=>?_,fun i l hl=>?_,fun i l hl x hx=>?_⟩
 ·rcases(hget i l hl).2 with⟨hi,rfl⟩|⟨_,hl'⟩
  ·exact hi
  ·exact h.own i l hl'
 ·rcases(hget i l hl).2 with⟨_,rfl⟩|⟨_,hl'⟩
  ·exact hr
  ·exact h.rise i l hl'
 ·rcases(hget i l hl).2 with⟨_,rfl⟩|⟨_,hl'⟩
  ·omega
  ·exact h.few i l hl'
 ·rcases(hget i l hl).2 with⟨hi,rfl⟩|⟨hi,hl'⟩
  ·obtain⟨h0,h1,_⟩:=hin x hx
   refine⟨h0,h1,?_⟩
   rw[pkSet_get l l P _ (fun n hn=>(hin n hn).1) (by rw[h.len];omega),if_pos (by rw[Int.toNat_of_nonneg h0];exact hx)]
  ·obtain⟨h0,h1,h2⟩:=h.mem i l hl' x hx
   refine⟨h0,h1,?_⟩
   rw[pkSet_get a a P _ (fun n hn=>(hin n hn).1) (by rw[h.len];omega),if_neg (fun hxa=>by
    rw[Int.toNat_of_nonneg h0]at hxa
    exact hi (hcl i l hl' x hx hxa))]
   exact h2
theorem PkI.run {v:Nat} {most:Int}:∀(E:List (List Int)) {P:List (List Int)},PkI v most P→(∀sc∈E,∀n∈sc,0≤n∧n < v)→PkI v most (pkRun most P E)
 | [],P,h,_=>h
 |sc::E,P,h,hE=>PkI.run E (h.step sc (hE sc (List.mem_cons_self ..))) fun s hs=>hE s (List.mem_cons_of_mem _ hs)
end Go.Proofs.Ytphlnpaikpjakaa
