/-
  facetroomref13.within, mayOut whole, and the law of a graph in ref's words.
-/
import Derived.Test.YtobegfbdedgmpaaGreatDoorJgRA
import Derived.StillTailTactics
import Derived.Test.YtobegfbdedgmpaaGreatDoorJnBase
import Derived.Test.YtobegfbdedgmpaaGreatDoorJgSrB
import Derived.Test.YtobegfbdedgmpaaGreatDoorJnCk3
import Derived.Test.YtobegfbdedgmpaaGreatDoorJgSv
import Derived.Test.YtobegfbdedgmpaaGreatDoorJnOpC
import Derived.Test.YtobegfbdedgmpaaGreatDoorJgSvHas
set_option linter.unusedVariables false
set_option linter.unusedSimpArgs false
namespace Go.Proofs.YtobegfbdedgmpaaGreatDoor
open Go.RowKit Go.Shelf

open Go.RowKit

def remE (l:List Ed) (y:Int):List Ed:=l.filter fun e=> !(e.from_==y)
theorem zeT {l:List Ed} {y z:Int} (h:z≠y):outE (remE l y) z=outE l z:=by
 unfold outE remE
 rw[List.filter_filter]
 refine List.filter_congr fun e _=>?_
 cases hz:e.from_==z
 ·simp
 ·have:e.from_=z:=by simpa using hz
  simp[this,h]
theorem zeU (l:List Ed) (y:Int):outE (remE l y) y= []:=by
 unfold outE remE
 rw[List.filter_filter]
 exact List.filter_eq_nil_iff.2 fun e _=>by simp
theorem zbf {l:List Ed} {x y:Int} {f:Nat} (h:walkR l x y (f+1)=true):∃e,outE l y= [e]∧e.kind=1∧(e.to_=x∨walkR l x e.to_ f=true):=by
 unfold walkR at h
 split at h
 ·rename_i e he
  refine⟨e,he,?_⟩
  by_cases hk:e.kind=1
  ·rw[if_pos hk]at h
   by_cases ht:e.to_=x
   ·exact⟨hk,.inl ht⟩
   ·rw[if_neg ht]at h
    exact⟨hk,.inr h⟩
  ·rw[if_neg hk]at h
   exact absurd h (by simp)
 ·exact absurd h (by simp)
theorem za4 {l:List Ed} {x y:Int} {f:Nat} {e:Ed} (he:outE l y= [e]) (hk:e.kind=1) (h:e.to_=x∨walkR l x e.to_ f=true):walkR l x y (f+1)=true:=by
 rw[zko he,if_pos hk]
 by_cases ht:e.to_=x
 ·rw[if_pos ht]
 ·rw[if_neg ht]
  exact h.resolve_left ht
theorem zeo {l:List Ed} {x:Int}:∀ {f f':Nat} {y:Int},f≤f'→walkR l x y f=true→walkR l x y f'=true
 |0,_,_,_,h=>absurd h (by simp[walkR])
 |f+1,0,_,hf,_=>absurd hf (by omega)
 |f+1,f'+1,y,hf,h=>by
  obtain⟨e,he,hk,h1⟩:=zbf h
  exact za4 he hk (h1.imp id (zeo (by omega)))
theorem zfU {l:List Ed} {x y:Int}:∀ {f:Nat} {z:Int},walkR l x z f=true→walkR (remE l y) x z f=true∨∃f',f'≤f∧walkR l x y f'=true
 |0,_,h=>absurd h (by simp[walkR])
 |f+1,z,h=>by
  by_cases hz:z=y
  ·subst hz;exact .inr ⟨f+1,Nat.le_refl _,h⟩
  ·obtain⟨e,he,hk,h1⟩:=zbf h
   have he':outE (remE l y) z= [e]:=(zeT hz).trans he
   rcases h1 with ht|h1
   ·exact .inl (za4 he' hk (.inl ht))
   ·rcases zfU h1 with h2|⟨f',hf,h2⟩
    ·exact .inl (za4 he' hk (.inr h2))
    ·exact .inr ⟨f',by omega,h2⟩
theorem zcn {l:List Ed} {x y:Int}:∀ {f:Nat} {z:Int},walkR (remE l y) x z f=true→walkR l x z f=true
 |0,_,h=>absurd h (by simp[walkR])
 |f+1,z,h=>by
  obtain⟨e,he,hk,h1⟩:=zbf h
  have hz:z≠y:=fun hz=>by
   subst hz
   rw[zeU]at he
   exact absurd he (by simp)
  exact za4 ((zeT hz).symm.trans he) hk (h1.imp id zcn)
theorem zfV:∀(m:Nat) (l:List Ed) (x y:Int) (f:Nat),l.length≤m→walkR l x y f=true→walkR l x y l.length=true
 |0,l,x,y,f,hl,h=>by
  have:l= []:=List.length_eq_zero_iff.1 (by omega)
  subst this
  cases f with
  |zero=>exact absurd h (by simp[walkR])
  |succ f=>
   obtain⟨e,he,_⟩:=zbf h
   exact absurd he (by simp[outE])
 |m+1,l,x,y,f,hl,h=>by
  induction f using Nat.strongRecOn with
  |_ f ih=>
  match f,h with
  |0,h=>exact absurd h (by simp[walkR])
  |f+1,h=>
   obtain⟨e,he,hk,h1⟩:=zbf h
   have hmem:e∈outE l y:=by rw[he];simp
   have hml:e∈l:=(List.mem_filter.1 hmem).1
   have hfr:e.from_=y:=by simpa using (List.mem_filter.1 hmem).2
   have hlt:(remE l y).length < l.length:=by
    refine List.length_filter_lt_length_iff_exists.2 ⟨e,hml,?_⟩
    simp[hfr]
   obtain⟨n,hn⟩:∃n,l.length=n+1:=⟨l.length - 1,by omega⟩
   rw[hn]
   rcases h1 with ht|h1
   ·exact za4 he hk (.inl ht)
   ·rcases zfU (y:=y) h1 with h2|⟨f',hf,h2⟩
    ·have h3:=zfV m (remE l y) x e.to_ f (by omega) h2
     exact za4 he hk (.inr (zeo (by omega) (zcn h3)))
    ·have:=ih f' (by omega) h2
     rwa [hn]at this

structure Rs where
 vs:List Int
 ls:List (List Int)
 script:List Int
 node:Int
 left:Nat
structure En where
 kind:Int
 wrong:Int
 at_:Int
 node:Int
 edge:Int
 left:Int
 vs:List Int
 ls:List (List Int)
def Rs.stop (s:Rs) (kind wrong at_ edge:Int):En:={kind:=kind,wrong:=wrong,at_:=at_,node:=s.node,edge:=edge,left:=s.left,vs:=s.vs,ls:=s.ls}
def zbp (k:Int):Bool:= !(k==1 || k==7 || k==8)
def zaP (g:Gr) (s:Rs):Rs ⊕ En:=
 match idxE g.edges s.node g.edges.length with
 | []=> .inr (s.stop 4 0 0 0)
 |i::r=>
  match g.edges[i]? with
  |none=> .inr (s.stop 4 0 0 0)
  |some x=>
   if zbp x.kind=true∧s.left=0 then .inr (s.stop 2 0 x.at_ i)
   else
    let t:Rs:={s with left:=if zbp x.kind then s.left - 1 else s.left}
    if x.kind=7 then .inr (t.stop 5 1 x.at_ i)
    else if x.kind=8 then .inr (t.stop 4 0 x.at_ i)
    else if x.kind=5 then
     match s.script with
     | []=> .inr (t.stop 3 0 x.at_ i)
     |n::q=> .inl {t with vs:=s.vs.set x.n.toNat n,script:=q,node:=x.to_}
    else
     let f:=fltX s.vs s.ls x.args
     if f.1≠0 then .inr (t.stop 5 f.1 f.2 i)
     else
      let l:=zag s.vs s.ls x.args
      if x.kind=3 then .inl {t with vs:=s.vs.set x.n.toNat (l.getD 0 0),node:=x.to_}
      else if x.kind=4 then
       if 0≤l.getD 0 0∧l.getD 0 0 < (s.ls.getD x.n.toNat []).length then
        .inl {t with ls:=s.ls.set x.n.toNat ((s.ls.getD x.n.toNat []).set (l.getD 0 0).toNat (l.getD 1 0)),node:=x.to_}
       else .inr (t.stop 5 5 x.at_ i)
      else if x.kind=6 then
       if cmpB x.cmp (l.getD 0 0) (l.getD 1 0)then .inl {t with node:=x.to_}
       else
        match r with
        | []=> .inl {t with node:=x.to_}
        |j::_=>match g.edges[j]? with
         |some y=> .inl {t with node:=y.to_}
         |none=> .inl {t with node:=x.to_}
      else .inl {t with node:=x.to_}
inductive Ends (g:Gr):Rs→En→Prop
 |done {s:Rs} (h:s.node=g.last):Ends g s (s.stop 1 0 0 0)
 |stop {s:Rs} {en:En} (h:s.node≠g.last) (he:zaP g s= .inr en):Ends g s en
 |go {s t:Rs} {en:En} (h:s.node≠g.last) (he:zaP g s= .inl t) (hn:Ends g t en):Ends g s en
theorem Ends.at_last {g:Gr} {s:Rs} {en:En} (h:Ends g s en) (hl:s.node=g.last):en=s.stop 1 0 0 0:=by
 cases h with
 |done _=>rfl
 |stop h _=>exact absurd hl h
 |go h _ _=>exact absurd hl h
theorem Ends.stops {g:Gr} {s:Rs} {en e:En} (h:Ends g s en) (hl:s.node≠g.last) (he:zaP g s= .inr e):en=e:=by
 cases h with
 |done h=>exact absurd h hl
 |stop _ h=>rw[he]at h;cases h;rfl
 |go _ h _=>rw[he]at h;cases h
theorem Ends.goes {g:Gr} {s t:Rs} {en:En} (h:Ends g s en) (hl:s.node≠g.last) (he:zaP g s= .inl t):Ends g t en:=by
 cases h with
 |done h=>exact absurd h hl
 |stop _ h=>rw[he]at h;cases h
 |go _ h hn=>rw[he]at h;cases h;exact hn

/-! zcH alone come to an end -/
def zcH (l:List Ed):Int→Nat→Nat
 |_,0=>0
 |y,n+1=>match outE l y with
  | [e]=>if e.kind=1 then zcH l e.to_ n+1 else 0
  |_=>0
def Few (l:List Ed) (y:Int) (n:Nat):Prop:=zcH l y (n+1)≤n
theorem zaJ {l:List Ed} {y:Int} {e:Ed} (h:outE l y= [e]) (hk:e.kind=1) (n:Nat):zcH l y (n+1)=zcH l e.to_ n+1:=by
 simp only[zcH,h]
 rw[if_pos hk]
theorem zaU {l:List Ed} {y:Int} (h:∀e,outE l y= [e]→e.kind≠1) (n:Nat):zcH l y n=0:=by
 cases n with
 |zero=>rfl
 |succ n=>
  unfold zcH
  split
  ·rename_i e he
   rw[if_neg (h e he)]
  ·rfl
theorem zeV (l:List Ed) (y:Int):(∃e,outE l y= [e]∧e.kind=1)∨∀e,outE l y= [e]→e.kind≠1:=by
 by_cases h:∃e,outE l y= [e]∧e.kind=1
 ·exact .inl h
 ·exact .inr fun e he hk=>h ⟨e,he,hk⟩
theorem Few.more {l:List Ed}:∀ {n m:Nat} {y:Int},Few l y n→n≤m→zcH l y m=zcH l y n∧Few l y m
 |0,m,y,h,_=>by
  rcases zeV l y with⟨e,he,hk⟩|h0
  ·unfold Few at h
   rw[zaJ he hk]at h
   omega
  ·unfold Few
   rw[zaU h0,zaU h0,zaU h0]
   exact⟨rfl,Nat.zero_le _⟩
 |n+1,0,_,_,hm=>absurd hm (by omega)
 |n+1,m+1,y,h,hm=>by
  rcases zeV l y with⟨e,he,hk⟩|h0
  ·unfold Few at h ⊢
   rw[zaJ he hk]at h
   have ih:=Few.more (l:=l) (n:=n) (m:=m) (y:=e.to_) (by unfold Few;omega) (by omega)
   rw[zaJ he hk,zaJ he hk,zaJ he hk]
   have:=ih.2
   unfold Few at this
   exact⟨by omega,by omega⟩
  ·unfold Few
   rw[zaU h0,zaU h0,zaU h0]
   exact⟨rfl,Nat.zero_le _⟩
theorem zkq {l:List Ed} {y:Int}:∀ {n:Nat} {z:Int},Few (remE l y) z n→Few l z n∨∃f,walkR l y z f=true∨z=y
 |n,z,h=>by
  by_cases hz:z=y
  ·exact .inr ⟨0,.inr hz⟩
  ·rcases zeV l z with⟨e,he,hk⟩|h0
   ·have he':outE (remE l y) z= [e]:=(zeT hz).trans he
    cases n with
    |zero=>
     unfold Few at h
     rw[zaJ he' hk]at h
     omega
    |succ n=>
     unfold Few at h
     rw[zaJ he' hk]at h
     rcases zkq (l:=l) (y:=y) (n:=n) (z:=e.to_) (by unfold Few;omega)with h1|⟨f,h1|h1⟩
     ·left
      unfold Few at h1 ⊢
      rw[zaJ he hk]
      omega
     ·exact .inr ⟨f+1,.inl (za4 he hk (.inr h1))⟩
     ·exact .inr ⟨1,.inl (za4 he hk (.inl h1))⟩
   ·left
    unfold Few
    rw[zaU h0]
    exact Nat.zero_le _
theorem zmv:∀(m:Nat) (l:List Ed),l.length≤m→(∀x f,walkR l x x f=false)→∀y,Few l y l.length
 |m,l,hl,hno,y=>by
  rcases zeV l y with⟨e,he,hk⟩|h0
  ·have hmem:e∈outE l y:=by rw[he];simp
   have hml:e∈l:=(List.mem_filter.1 hmem).1
   have hfr:e.from_=y:=by simpa using (List.mem_filter.1 hmem).2
   have hlt:(remE l y).length < l.length:=by
    refine List.length_filter_lt_length_iff_exists.2 ⟨e,hml,?_⟩
    simp[hfr]
   cases m with
   |zero=>omega
   |succ m=>
    have ih:=zmv m (remE l y) (by omega) (fun x f=>by
     cases h:walkR (remE l y) x x f with
     |false=>rfl
     |true=>rw[←hno x f,zcn h]) e.to_
    rcases zkq ih with h1|⟨f,h1|h1⟩
    ·have h2:=(h1.more (m:=l.length - 1) (by omega)).2
     unfold Few at h2 ⊢
     rw[zaJ he hk]
     have e1:l.length - 1+1=l.length:=by omega
     rw[e1]at h2
     omega
    ·have:=hno y (f+1)
     rw[za4 he hk (.inr h1)]at this
     simp at this
    ·have:=hno y 1
     rw[za4 he hk (.inl h1)]at this
     simp at this
  ·unfold Few
   rw[zaU h0]
   exact Nat.zero_le _
theorem zhp {g:Gr} (h:mayG g=true) {e:Ed} (he:e∈g.edges):zaX g.edges g.last e.from_=true:=by
 simp only[mayG,Bool.and_eq_true]at h
 exact List.all_eq_true.1 h.2 e he
theorem zit {g:Gr} (h:mayG g=true) (x:Int) (f:Nat):walkR g.edges x x f=false:=by
 cases hw:walkR g.edges x x f with
 |false=>rfl
 |true=>
  cases f with
  |zero=>simp[walkR]at hw
  |succ f=>
   obtain⟨e,he,hk,_⟩:=zbf hw
   have hmem:e∈outE g.edges x:=by rw[he];simp
   have hml:e∈g.edges:=(List.mem_filter.1 hmem).1
   have hfr:e.from_=x:=by simpa using (List.mem_filter.1 hmem).2
   have hn:=zhp h hml
   rw[hfr]at hn
   have h2:=zfV _ g.edges x x _ (Nat.le_refl _) hw
   simp[zaX,h2]at hn
def meas (g:Gr) (s:Rs):Nat:=s.left*(g.edges.length+1)+zcH g.edges s.node g.edges.length
theorem zhq (l:List Ed):∀(n:Nat) (y:Int),zcH l y n≤n
 |0,_=>Nat.le_refl _
 |n+1,y=>by
  unfold zcH
  split
  ·split
   ·have:=zhq l n
    rename_i e _ _
    have:=this e.to_
    omega
   ·omega
  ·omega
theorem zgM {g:Gr} (h:mayG g=true) {e:Ed} (he:e∈g.edges):zbB g.vars g.arrays.length g.nodes e=false:=by
 simp only[mayG,Bool.and_eq_true,Bool.not_eq_true']at h
 have:=h.1.2
 rw[Bool.eq_false_iff]at this ⊢
 exact fun hb=>this (List.any_eq_true.2 ⟨e,he,hb⟩)
theorem zlV {g:Gr} {x:Int} {is:List Nat} (hi:idxE g.edges x g.edges.length=is):(outE g.edges x).map some=is.map fun i=>g.edges[i]?:=by
 rw[←hi];exact(zkm g.edges x).symm
theorem zdc {g:Gr} (h:mayG g=true) {x:Int} {i:Nat} {r:List Nat} (hi:idxE g.edges x g.edges.length=i::r):
  ∃e,g.edges[i]?=some e∧e∈g.edges∧e.from_=x∧x≠g.last∧
   ((r= []∧e.kind≠6∧outE g.edges x= [e])∨∃j f,r= [j]∧g.edges[j]?=some f∧f∈g.edges∧e.kind=6∧f.kind=6∧outE g.edges x= [e,f]):=by
 have ho:=zlV hi
 have hlt:=zkn g.edges x g.edges.length i (by rw[hi];simp)
 obtain⟨e,he⟩:∃e,g.edges[i]?=some e:=⟨_,List.getElem?_eq_getElem hlt⟩
 have hm:=List.mem_of_getElem? he
 have hfa:zcf g.edges x i=true:=by
  have hmem:i∈idxE g.edges x g.edges.length:=by rw[hi];simp
  exact(List.mem_filter.1 hmem).2
 have hfr:e.from_=x:=by simpa[zcf,he]using hfa
 have hn:=zhp h hm
 rw[hfr]at hn
 simp only[zaX,Bool.and_eq_true,Bool.not_eq_true',beq_eq_false_iff_ne]at hn
 refine⟨e,he,hm,hfr,hn.1.1,?_⟩
 have hr:=hn.1.2
 cases hq:outE g.edges x with
 |nil=>rw[hq]at ho;simp at ho
 |cons a q=>
  rw[hq]at ho hr
  simp only[List.map_cons,he,List.cons.injEq,Option.some.injEq]at ho
  obtain⟨rfl,ho⟩:=ho
  cases q with
  |nil=>
   left
   have:r= []:=by simpa using ho.symm
   simp[zba]at hr
   exact⟨this,hr,rfl⟩
  |cons b q=>
   cases q with
   |nil=>
    right
    cases r with
    |nil=>simp at ho
    |cons j r=>
     simp only[List.map_cons,List.map_nil,List.cons.injEq]at ho
     obtain⟨hj,hr2⟩:=ho
     have:r= []:=by simpa using hr2.symm
     subst this
     simp only[zba,Bool.and_eq_true,beq_iff_eq]at hr
     exact⟨j,b,rfl,hj.symm,List.mem_of_getElem? hj.symm,hr.1.1.1,hr.1.1.2,rfl⟩
   |cons c q=>simp[zba]at hr
set_option maxHeartbeats 3200000 in
theorem zkr {g:Gr} (h:mayG g=true) {s t:Rs} (hs:zaP g s= .inl t):
  ∃i r e,idxE g.edges s.node g.edges.length=i::r∧g.edges[i]?=some e∧e.kind≠7∧e.kind≠8∧¬(zbp e.kind=true∧s.left=0)∧t.left=(if zbp e.kind then s.left - 1 else s.left)∧(e.kind≠6→t.node=e.to_):=by
 unfold zaP at hs
 split at hs
 ·cases hs
 ·rename_i i r hi
  split at hs
  ·cases hs
  ·rename_i x hx
   refine⟨i,r,x,hi,hx,?_⟩
   split at hs
   ·cases hs
   ·rename_i hc
    simp only at hs
    split at hs
    ·cases hs
    ·rename_i h7
     split at hs
     ·cases hs
     ·rename_i h8
      refine⟨h7,h8,hc,?_⟩
      split at hs
      ·split at hs
       ·cases hs
       ·cases hs;exact⟨rfl,fun _=>rfl⟩
      ·split at hs
       ·cases hs
       ·split at hs
        ·cases hs;exact⟨rfl,fun _=>rfl⟩
        ·split at hs
         ·split at hs
          ·cases hs;exact⟨rfl,fun _=>rfl⟩
          ·cases hs
         ·split at hs
          ·rename_i h6
           have:∀n:Int,x.kind≠6→n=x.to_:=fun n h=>absurd h6 h
           split at hs
           ·cases hs;exact⟨rfl,fun _=>rfl⟩
           ·split at hs
            ·cases hs;exact⟨rfl,fun _=>rfl⟩
            ·split at hs
             ·cases hs;exact⟨rfl,fun h=>this _ h⟩
             ·cases hs;exact⟨rfl,fun _=>rfl⟩
          ·cases hs;exact⟨rfl,fun _=>rfl⟩
theorem zks {g:Gr} (h:mayG g=true) {s t:Rs} (hs:zaP g s= .inl t):meas g t < meas g s:=by
 obtain⟨i,r,e,hi,he,h7,h8,hc,hl,hto⟩:=zkr h hs
 obtain⟨e',he',hm,hfr,hnl,hcase⟩:=zdc h hi
 rw[he]at he'
 obtain rfl:=Option.some.inj he'
 unfold meas
 have hsk:=zhq g.edges g.edges.length t.node
 by_cases hcost:zbp e.kind=true
 ·have h0:s.left≠0:=fun h0=>hc ⟨hcost,h0⟩
  rw[hl,if_pos hcost]
  obtain⟨k,hk⟩:∃k,s.left=k+1:=⟨s.left - 1,by omega⟩
  rw[hk,Nat.add_sub_cancel,Nat.add_mul]
  omega
 ·have hk1:e.kind=1:=by
   simp only[zbp,Bool.not_eq_true',Bool.not_eq_false,Bool.or_eq_true,beq_iff_eq]at hcost
   rcases hcost with(h|h)|h
   ·exact h
   ·exact absurd h h7
   ·exact absurd h h8
  rw[hl,if_neg hcost]
  rcases hcase with⟨_,_,ho⟩|⟨_,_,_,_,_,h6,_⟩
  ·rw[hto (by omega)]
   have hfew:=zmv _ g.edges (Nat.le_refl _) (zit h) s.node
   have hlen:0 < g.edges.length:=List.length_pos_of_mem hm
   obtain⟨n,hn⟩:∃n,g.edges.length=n+1:=⟨g.edges.length - 1,by omega⟩
   rw[hn]at hfew ⊢
   unfold Few at hfew
   rw[zaJ ho hk1]at hfew
   have h2:Few g.edges e.to_ n:=by unfold Few;omega
   have h3:=(h2.more (m:=n+1) (by omega)).1
   rw[zaJ ho hk1,h3]
   omega
  ·omega

structure RW where
  g:Gr
  Aa:Option Addr
  ca:Nat
  Ae:Option Addr
  ce:Nat
  L:Nat
  R:Nat
  bv:Nat
  Ar:Option Addr
  cr:Nat
  bs:List Nat
def RW.T (c:RW):Nat→Prop:=fun b=>b=c.R∨b=c.bv∨b∈c.bs
def rnC (c:RW) (s:Rs) (As:Option Addr) (cs:Nat) (k wr at_ ed:Int):List Value:=
  [.int .i64 c.g.vars,.slice c.Aa c.g.arrays.length c.ca,.int .i64 c.g.nodes,.int .i64 c.g.start,.int .i64 c.g.last,.slice c.Ae c.g.edges.length c.ce,.slice As s.script.length cs,
   .int .u8 k,.int .u8 wr,.int .i64 at_,.int .i64 s.node,.int .i64 ed,.int .i64 s.left,.slice (some ⟨c.bv,0,none⟩) s.vs.length s.vs.length,.slice c.Ar s.ls.length c.cr]
theorem Same.of_fr {T:Nat→Prop} {L:Nat} {w w':World} (hf:Fr T w w') (hL:L≤w.heap.size) (hT:∀b,T b→L≤b):Same L w w':=fun p hp=>hf.cell (Nat.lt_of_lt_of_le hp hL) fun ht=>absurd hp (Nat.not_lt.2 (hT _ ht))
theorem Fr.toT {c:RW} {w w':World} {b:Nat} (h:Fr (fun x=>x=b) w w') (hb:c.T b):Fr c.T w w':=h.mono fun i _ e=>by have e:i=b:=e;exact e▸hb
theorem RW.tR (c:RW):c.T c.R:= .inl rfl

theorem zau {P:Program} {fn:Func} {p q:Tmp} {ty:TypeId} (h:fn.results= #[.cell p ty,.tmp q]) (tmps:Array Value) (w:World) (g:Nat) (t:TypeId) (cs:Array Value) (fr:Nat×Nat) (d:TypeDesc)
    (hp:tmps.getD p undef= .pointer (some ⟨g,0,none⟩)) (hg:w.heap[g]?=some (.cells cs t fr))
    (hu:P.underlying ty=some d) (hd:(match d with| .struct _| .array _ _=>true|_=>false)=true) (hi:(P.info? ty).map (·.size)=some cs.size):
    (results fn tmps).run P w= .ok (.tuple #[.agg cs,tmps.getD q undef]) w:=by
  have hp':tmps[p]?.getD undef= .pointer (some ⟨g,0,none⟩):=by simpa using hp
  simp[results,h,hp',asAddr,run_loadVar_row w g t ty cs fr d hg hu hd hi]
theorem Fr.then {T U:Nat→Prop} {a b c:World} (h:Fr T a b) (k:Fr U b c) (ht:∀i,i < a.heap.size→U i→T i):Fr T a c:=
  ⟨k.os.trans h.os,k.tape.trans h.tape,k.output.trans h.output,Nat.le_trans h.size k.size,fun i hi hn=>(k.block i (Nat.lt_of_lt_of_le hi h.size) fun hu=>hn (ht i hi hu)).trans (h.block i hi hn)⟩
end Go.Proofs.YtobegfbdedgmpaaGreatDoor

