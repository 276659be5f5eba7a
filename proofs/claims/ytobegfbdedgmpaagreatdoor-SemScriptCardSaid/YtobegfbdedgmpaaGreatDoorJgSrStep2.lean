/-
  ref14's values: what the arguments of an edge's deed have.
-/
import Derived.Test.YtobegfbdedgmpaaGreatDoorJgSrRun
import Derived.Deep.RegionHeld2
import Derived.Test.YtobegfbdedgmpaaGreatDoorJgSrB
import Derived.Test.YtobegfbdedgmpaaGreatDoorJnData
set_option linter.unusedVariables false
set_option linter.unusedSimpArgs false
namespace Go.Proofs.YtobegfbdedgmpaaGreatDoor
open Go.RowKit Go.Shelf

theorem zlW {w:World} {B:Nat} {l:List Ed} {A:Option Addr} {c:Nat} (h:EdSl w B l A c) {i:Nat} {e:Ed} (he:l[i]?=some e):∃b o,A=some ⟨b,o,none⟩∧EdAt w B l b o:=h.2.2 (by have:=(List.getElem?_eq_some_iff.1 he).1;omega)

def doE (s:Rs) (e:Ed) (i:Int):Rs ⊕ En:=
 if e.kind=7 then .inr (s.stop 5 1 e.at_ i)
 else if e.kind=8 then .inr (s.stop 4 0 e.at_ i)
 else if e.kind=5 then
  match s.script with
  | []=> .inr (s.stop 3 0 e.at_ i)
  |n::q=> .inl {s with vs:=s.vs.set e.n.toNat n,script:=q}
 else
  let f:=fltX s.vs s.ls e.args
  if f.1≠0 then .inr (s.stop 5 f.1 f.2 i)
  else
   let l:=zag s.vs s.ls e.args
   if e.kind=3 then .inl {s with vs:=s.vs.set e.n.toNat (l.getD 0 0)}
   else if e.kind=4 then
    if 0≤l.getD 0 0∧l.getD 0 0 < (s.ls.getD e.n.toNat []).length then
     .inl {s with ls:=s.ls.set e.n.toNat ((s.ls.getD e.n.toNat []).set (l.getD 0 0).toNat (l.getD 1 0))}
    else .inr (s.stop 5 5 e.at_ i)
   else .inl s
structure MayE (g:Gr) (e:Ed):Prop where
 k:1≤e.kind∧e.kind≤8
 n:0≤e.n∧(e.kind=3→e.n < g.vars)∧(e.kind=5→e.n < g.vars)∧(e.kind=4→e.n < g.arrays.length)
 l:e.args.len≤2
 x:mayX g.vars g.arrays.length e.args=true
 c:e.kind=6→3≤e.cmp∧e.cmp≤8
theorem zoS {g:Gr} (h:mayG g=true) {e:Ed} (he:e∈g.edges):MayE g e:=by
 have h1:=zgM h he
 have h2:=zfL h1
 simp only[zbB,mayD,headD,Bool.or_eq_false_iff,Bool.not_eq_false',Bool.and_eq_true,decide_eq_true_eq,beq_iff_eq]at h1
 obtain⟨_,⟨⟨⟨⟨k1,k8⟩,n0,nm⟩,hl⟩,_⟩,hx⟩:=h1
 refine⟨⟨k1,k8⟩,⟨n0,fun h=>by simpa[zh1,h]using nm,fun h=>by simpa[zh1,h]using nm,fun h=>by simpa[zh1,h]using nm⟩,?_,hx,h2⟩
 unfold zjG at hl
 repeat(split at hl)
 all_goals omega
theorem Fr.low {T:Nat→Prop} {w w':World} (h:Fr T w w') {b:Nat} (hb:b < w.heap.size):b < w'.heap.size:=Nat.lt_of_lt_of_le hb h.size
theorem zkt {w:World} {B:Nat} {x:Int} {l:List Int} {b o c:Nat} (h:IsSl w B (x::l) (some ⟨b,o,none⟩) c) {A:Option Addr} (hA:A=some ⟨b,o+1,none⟩∨l= []):IsSl w B l A (c - 1):=by
 have h1:=h.1
 simp only[List.length_cons]at h1
 refine⟨by omega,by have:=h.2.1;omega,fun hp=>?_⟩
 obtain⟨b',o',e,hh⟩:=h.2.2 (by simp)
 simp only[Option.some.injEq,Addr.mk.injEq]at e
 obtain⟨rfl,rfl,_⟩:=e
 rcases hA with hA|hA
 ·refine⟨b,o+1,hA,hh.1,fun i n hi=>?_⟩
  have:=hh.2 (i+1) n (by simpa using hi)
  rw[show o+1+i=o+(i+1)from by omega]
  exact this
 ·rw[hA]at hp;simp at hp

theorem znC {n:Int} (h:in64 n):is64 n:=by unfold in64 at h;unfold is64;omega

def Rs.pay (s:Rs) (e:Ed):Rs:={s with left:=if zbp e.kind then s.left - 1 else s.left}
def zad (g:Gr) (s:Rs) (e:Ed) (r:List Nat):Int:=
 if e.kind=6 then
  if cmpB e.cmp ((zag s.vs s.ls e.args).getD 0 0) ((zag s.vs s.ls e.args).getD 1 0)then e.to_
  else match r with
   | []=>e.to_
   |j::_=>match g.edges[j]? with
    |some y=>y.to_
    |none=>e.to_
 else e.to_
theorem zfW {g:Gr} {s:Rs} (hi:idxE g.edges s.node g.edges.length= []):zaP g s= .inr (s.stop 4 0 0 0):=by
 unfold zaP;rw[hi]
theorem zfX {g:Gr} {s:Rs} {i:Nat} {r:List Nat} {e:Ed} (hi:idxE g.edges s.node g.edges.length=i::r) (he:g.edges[i]?=some e) (hc:zbp e.kind=true) (h0:s.left=0):zaP g s= .inr (s.stop 2 0 e.at_ i):=by
 unfold zaP;rw[hi];simp only[he];rw[if_pos ⟨hc,h0⟩]
theorem zbH {g:Gr} {s:Rs} {i:Nat} {r:List Nat} {e:Ed} (hi:idxE g.edges s.node g.edges.length=i::r) (he:g.edges[i]?=some e) (hc:¬(zbp e.kind=true∧s.left=0)):
  zaP g s=match doE (s.pay e) e i with
   | .inr z=> .inr z
   | .inl t=> .inl {t with node:=zad g s e r}:=by
 unfold zaP;rw[hi];simp only[he];rw[if_neg hc]
 have ev:(s.pay e).vs =s.vs:=rfl
 have el:(s.pay e).ls =s.ls:=rfl
 have es:(s.pay e).script =s.script:=rfl
 unfold doE
 by_cases h7:e.kind=7
 ·rw[if_pos h7,if_pos h7];rfl
 rw[if_neg h7,if_neg h7]
 by_cases h8:e.kind=8
 ·rw[if_pos h8,if_pos h8];rfl
 rw[if_neg h8,if_neg h8]
 by_cases h5:e.kind=5
 ·rw[if_pos h5,if_pos h5,es]
  have h6:¬e.kind=6:=by omega
  cases s.script with
  |nil=>rfl
  |cons n q=>simp only[zad,if_neg h6];rfl
 rw[if_neg h5,if_neg h5,ev,el]
 simp only
 by_cases hf:(fltX s.vs s.ls e.args).1 ≠0
 ·rw[if_pos hf,if_pos hf];rfl
 rw[if_neg hf,if_neg hf]
 by_cases h3:e.kind=3
 ·have h6:¬e.kind=6:=by omega
  rw[if_pos h3,if_pos h3];simp only[zad,if_neg h6];rfl
 rw[if_neg h3,if_neg h3]
 by_cases h4:e.kind=4
 ·have h6:¬e.kind=6:=by omega
  rw[if_pos h4,if_pos h4]
  split
  ·simp only[zad,if_neg h6];rfl
  ·rfl
 rw[if_neg h4,if_neg h4]
 by_cases h6:e.kind=6
 ·simp only[zad,if_pos h6]
  by_cases hb:cmpB e.cmp ((zag s.vs s.ls e.args).getD 0 0) ((zag s.vs s.ls e.args).getD 1 0)=true
  ·rw[if_pos hb,if_pos hb];rfl
  ·rw[if_neg hb,if_neg hb]
   cases r with
   |nil=>rfl
   |cons j r=>
    cases hj:g.edges[j]? with
    |none=>simp only[hj];rfl
    |some y=>simp only[hj];rfl
 ·rw[if_neg h6];simp only[zad,if_neg h6];rfl

theorem zcW {g:Gr} (h:mayG g=true):g.edges.length≤2048∧g.arrays.length≤4∧0≤g.vars∧g.vars≤32:=by
 simp only[mayG,Bool.and_eq_true,Bool.not_eq_true',Bool.or_eq_false_iff,odd1,decide_eq_false_iff_not]at h
 omega
theorem zmw {w:World} {B:Nat} {is:List Nat} {A:Option Addr} {c:Nat} (h:IsSl w B (is.map fun(i:Nat)=>(i:Int)) A c) {j i:Nat} (hj:is[j]?=some i):∃b o,A=some ⟨b,o,none⟩∧b < B∧w.cell? ⟨b,o+j,none⟩=some (.int .i64 i):=by
 obtain⟨b,o,e,hb,hh⟩:=h.2.2 (by rw[List.length_map];have:=(List.getElem?_eq_some_iff.1 hj).1;omega)
 exact⟨b,o,e,hb,(hh j i (by rw[List.getElem?_map,hj];rfl)).1⟩

theorem zeW {s:Rs} {e:Ed} (h:zbp e.kind=false):s.pay e=s:=by unfold Rs.pay;rw[h];rfl
theorem zlX {s:Rs} {e:Ed} (h:zbp e.kind=true):s.pay e={s with left:=s.left - 1}:=by unfold Rs.pay;rw[h];rfl
end Go.Proofs.YtobegfbdedgmpaaGreatDoor

