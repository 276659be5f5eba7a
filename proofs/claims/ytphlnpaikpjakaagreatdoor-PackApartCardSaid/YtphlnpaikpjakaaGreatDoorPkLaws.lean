/-
  Packs: where a scalar is found; one that no edge has with another; what pack.Check answers. No program.
-/
import Derived.Test.YtphlnpaikpjakaaGreatDoorJgPkOut
import Derived.Test.YtphlnpaikpjakaaGreatDoorPkFind
import Derived.Test.YtphlnpaikpjakaaGreatDoorPkGreat
set_option linter.unusedVariables false
set_option linter.unusedSimpArgs false
namespace Go.Proofs.YtphlnpaikpjakaaGreatDoor
open Go.RowKit Go.Shelf

theorem readX_len:∀xs:Exs,(readX xs).length ≤cntX xs
 | .nil =>lrq _
 | .cons k nm n args at_ rest=>by
  have h1:=readX_len args
  have h2:=readX_len rest
  unfold readX cntX
  split<;>simp<;>omega
theorem scalE_len {e:Ed} (h:cntX e.args≤5000):(scalE e).length ≤100000:=by
 have h1:=readX_len e.args
 unfold scalE
 split<;>simp<;>omega

theorem PkI.head {v:Nat} {most:Int} {P:List (List Int)} (h:PkI v most P) {i:Nat} {l:List Int} (hl:P[i]?=some l):∃k:Nat,k < v∧P[k]?=some l∧pkHd P k=true:=by
 have ho:=h.own i l hl
 cases l with
 |nil=>simp at ho
 |cons a l=>
  obtain⟨h0,h1,h2⟩:=h.mem i _ hl a (List.mem_cons_self ..)
  refine⟨a.toNat,by omega,h2,?_⟩
  rw[pkHd_iff (z:=a) h2 rfl]
  simp[Int.toNat_of_nonneg h0]
theorem pkOut_mem {P:List (List Int)} {v:Nat} {l:List Int} (h:l∈pkOut P v) (hv:P.length=v):∃k:Nat,k < v∧P[k]?=some l∧pkHd P k=true:=by
 unfold pkOut at h
 obtain⟨k,hk,rfl⟩:=List.mem_map.1 h
 obtain⟨h1,h2⟩:=List.mem_filter.1 hk
 have hk:=List.mem_range.1 h1
 refine⟨k,hk,?_,h2⟩
 rw[List.getD_eq_getElem?_getD,List.getElem?_eq_getElem (by omega)]
 rfl
theorem mem_pkOut {P:List (List Int)} {v k:Nat} {l:List Int} (hk:k < v) (hl:P[k]?=some l) (hh:pkHd P k=true):l∈pkOut P v:=by
 unfold pkOut
 refine List.mem_map.2 ⟨k,List.mem_filter.2 ⟨List.mem_range.2 hk,hh⟩,?_⟩
 rw[List.getD_eq_getElem?_getD,hl]
 rfl
theorem PkI.find {v:Nat} {most:Int} {P:List (List Int)} (h:PkI v most P) {i:Nat} (hi:i < v):
  ∃(k:Nat) (l:List Int),(pkOut P v)[k]?=some l∧P[i]?=some l∧(i:Int)∈l∧findE (pkOut P v) i= .returned (.tuple #[.int .i64 (k:Int),.int .i64 (Lib.idxOf l i),.int .i64 0]):=by
 obtain⟨l,hl⟩:∃l,P[i]?=some l:=⟨_,List.getElem?_eq_getElem (by rw[h.len];exact hi)⟩
 obtain⟨k,hk,hkl,hh⟩:=h.head hl
 have ha:(pkOut P v).any (fun l=>l.contains (i:Int))=true:=List.any_eq_true.2 ⟨l,mem_pkOut hk hkl hh,by simpa using h.own i l hl⟩
 have hlt:(pkOut P v).findIdx (fun l=>l.contains (i:Int)) < (pkOut P v).length :=List.findIdx_lt_length.2 (List.any_eq_true.1 ha)
 have hc:((pkOut P v)[(pkOut P v).findIdx fun l=>l.contains (i:Int)]).contains (i:Int)=true:=List.findIdx_getElem (w:=hlt)
 obtain⟨l',hl'⟩:=nmq ((pkOut P v)[(pkOut P v).findIdx fun l=>l.contains (i:Int)])
 rw[←hl']at hc
 have hmem:l'∈pkOut P v:=by rw[hl'];exact List.getElem_mem hlt
 obtain⟨k',hk',hkl',_⟩:=pkOut_mem hmem h.len
 have hin:(i:Int)∈l':=by simpa using hc
 have hP:=(h.mem k' l' hkl' _ hin).2.2
 refine⟨_,l',(List.getElem?_eq_getElem hlt).trans (by rw[hl']),by simpa using hP,hin,?_⟩
 unfold findE
 rw[ha,List.getD_eq_getElem?_getD,List.getElem?_eq_getElem hlt,←hl']
 rfl

/-! one that no edge has with another -/
theorem rise_one {a:List Int} {n:Int} (hr:a.Pairwise (· < ·)) (hm:∀x∈a,x=n) (h:n∈a):a= [n]:=by
 match a,hr,hm,h with
 | [],_,_,h=>simp at h
 | [x],_,hm,_=>rw[hm x (List.mem_cons_self ..)]
 |x::y::r,hr,hm,_=>
  have h1:=hm x (List.mem_cons_self ..)
  have h2:=hm y (List.mem_cons_of_mem _ (List.mem_cons_self ..))
  have h3:=(List.pairwise_cons.1 hr).1 y (List.mem_cons_self ..)
  omega
theorem alone_step {v:Nat} {most:Int} {P:List (List Int)} (h:PkI v most P) {sc:List Int} (hsc:∀n∈sc,0≤n∧n < v) {n:Nat} (hn:P[n]?=some [(n:Int)]) (ha:(n:Int)∈sc→∀x∈sc,x=(n:Int)):
  (pkStep most P sc)[n]?=some [(n:Int)]:=by
 unfold pkStep
 split
 ·exact hn
 obtain⟨hr,hmem⟩:=sdup_spec (pkAll P sc)
 have hpos:∀m∈sdup (pkAll P sc),0≤m:=fun m hm=>(pkAll_in h hsc m ((hmem m).1 hm)).1
 have hnl:n < P.length:=(List.getElem?_eq_some_iff.1 hn).1
 rw[pkSet_get _ _ P n hpos hnl]
 split
 ·rename_i hin
  obtain⟨m,hm,hml⟩:=List.mem_flatMap.1 ((hmem _).1 hin)
  have hmv:=hsc m hm
  obtain⟨l,hl⟩:∃l,P[m.toNat]?=some l:=⟨_,List.getElem?_eq_getElem (by rw[h.len];omega)⟩
  have hml:(n:Int)∈l:=by rw[List.getD_eq_getElem?_getD,hl]at hml;exact hml
  have hPl:=(h.mem _ l hl _ hml).2.2
  rw[show((n:Int)).toNat =n from rfl,hn]at hPl
  obtain rfl:=Option.some.inj hPl
  have hmo:=h.own _ _ hl
  have hmn:m=(n:Int):=by
   have h3:=List.mem_singleton.1 hmo
   omega
  subst hmn
  have hall:=ha hm
  rw[rise_one hr (fun x hx=>?_) hin]
  obtain⟨q,hq,hqx⟩:=List.mem_flatMap.1 ((hmem x).1 hx)
  rw[hall q hq,show((n:Int)).toNat =n from rfl,List.getD_eq_getElem?_getD,hn]at hqx
  exact List.mem_singleton.1 hqx
 ·exact hn
theorem alone_run {v:Nat} {most:Int} {n:Nat}:∀(E:List (List Int)) {P:List (List Int)},PkI v most P→(∀sc∈E,∀n∈sc,0≤n∧n < v)→P[n]?=some [(n:Int)]→(∀sc∈E,(n:Int)∈sc→∀x∈sc,x=(n:Int))→(pkRun most P E)[n]?=some [(n:Int)]
 | [],P,_,_,h,_=>h
 |sc::E,P,h,hE,hn,ha=>alone_run E (h.step sc (hE sc (List.mem_cons_self ..))) (fun s hs=>hE s (List.mem_cons_of_mem _ hs)) (alone_step h (hE sc (List.mem_cons_self ..)) hn (ha sc (List.mem_cons_self ..))) fun s hs=>ha s (List.mem_cons_of_mem _ hs)
theorem pk0_get {v n:Nat} (h:n < v):(pk0 v)[n]?=some [(n:Int)]:=by
 unfold pk0
 rw[List.getElem?_map,List.getElem?_range h]
 rfl
/-! reading -/
def rdX (n:Int):Exs→Bool
 | .nil =>false
 | .cons k _ m args _ rest=>(k==2&&m==n) || rdX n args || rdX n rest
theorem rdX_drop {n:Int} {xs:Exs} {i:Nat} {k:Int} {nm:ByteArray} {m:Int} {args:Exs} {at_:Int} {rest:Exs} (h:Exs.drop i xs= .cons k nm m args at_ rest):rdX n (Exs.drop i xs)=((k==2&&m==n) || rdX n args || rdX n (Exs.drop (i+1) xs)):=by
 rw[Exs.drop_succ i xs h,h]
 rfl
theorem rdX_iff (n:Int):∀xs:Exs,rdX n xs=true↔n∈readX xs
 | .nil =>by simp[rdX,readX]
 | .cons k nm m args at_ rest=>by
  unfold rdX readX
  simp only[Bool.or_eq_true,Bool.and_eq_true,beq_iff_eq,List.mem_append,rdX_iff n args,rdX_iff n rest,or_assoc]
  by_cases hk:k=2
  ·simp[hk,eq_comm]
  ·simp[hk]
def ownE (n:Int) (e:Ed):Bool:=(e.kind==3 || e.kind==5)&&e.n==n
def lone1 (n:Int) (e:Ed) (k:Int):Bool:=k==n || (!rdX k e.args&&(ownE n e || !(e.kind==3) || !(e.n==k)))
def loneE (v:Nat) (n:Int) (e:Ed):Bool:=(!ownE n e&& !rdX n e.args) || (List.range v).all fun k=>lone1 n e k
theorem loneE_scal {g:Gr} {v:Nat} (hg:mayG g=true) (hv:g.vars=(v:Int)) {n:Int} {e:Ed} (he:e∈g.edges) (h:loneE v n e=true):n∈scalE e→∀x∈scalE e,x=n:=by
 intro hn x hx
 have hin:=scalE_in hg e he x hx
 by_cases hxn:x=n
 ·exact hxn
 exfalso
 have ho:¬((!ownE n e&& !rdX n e.args)=true):=by
  simp only[Bool.and_eq_true,Bool.not_eq_true']
  rintro⟨h1,h2⟩
  unfold scalE at hn
  rcases List.mem_append.1 hn with hn|hn
  ·rw[(rdX_iff n _).2 hn]at h2;cases h2
  ·split at hn
   ·rename_i hk
    have hen:=List.mem_singleton.1 hn
    unfold ownE at h1
    rcases hk with hk|hk<;>simp[hk,←hen]at h1
   ·simp at hn
 unfold loneE at h
 rw[Bool.or_eq_true]at h
 rcases h with h|h
 ·exact ho h
 have h1:=List.all_eq_true.1 h x.toNat (List.mem_range.2 (by omega))
 rw[show((x.toNat:Nat):Int)=x from by omega]at h1
 unfold lone1 at h1
 have hx2:(x==n)=false:=by simpa using hxn
 rw[hx2,Bool.false_or,Bool.and_eq_true]at h1
 obtain⟨h2,h3⟩:=h1
 unfold scalE at hx
 rcases List.mem_append.1 hx with hx|hx
 ·rw[(rdX_iff x _).2 hx]at h2;simp at h2
 ·split at hx
  ·rename_i hk
   have hxe:=List.mem_singleton.1 hx
   have how:ownE n e=false:=by
    unfold ownE
    have h5:(e.n==n)=false:=by rw[←hxe];exact hx2
    rw[h5,Bool.and_false]
   rcases hk with hk|hk
   ·rw[how,hk,hxe]at h3;simp at h3
   ·-- an input reads nothing
    have h4:rdX n e.args=true:=by
     simp only[Bool.and_eq_true,Bool.not_eq_true',not_and,Bool.not_eq_false]at ho
     exact ho how
    have h6:=(rdX_iff n _).1 h4
    have h7:=hg
    unfold mayG at h7
    simp only[Bool.and_eq_true]at h7
    have h8:edBad g.vars g.arrays.length g.nodes e=false:=by
     cases hb:edBad g.vars g.arrays.length g.nodes e
     ·rfl
     ·have h9:=h7.1.2
      rw[List.any_eq_true.2 ⟨e,he,hb⟩]at h9
      cases h9
    unfold edBad mayD headD at h8
    simp only[Bool.or_eq_false_iff,Bool.not_eq_false',Bool.and_eq_true]at h8
    have h10:=h8.2.1.1.2
    have h11:e.args.len=0:=by rw[hk]at h10;simpa[argsD]using h10
    cases ha:e.args with
    |nil=>rw[ha]at h6;simp[readX]at h6
    |cons _ _ _ _ _ _=>rw[ha]at h11;simp[Exs.len]at h11
  ·simp at hx
/-! pack.Check -/
end Go.Proofs.YtphlnpaikpjakaaGreatDoor
