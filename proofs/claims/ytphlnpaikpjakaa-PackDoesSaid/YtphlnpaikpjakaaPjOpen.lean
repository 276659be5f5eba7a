/-
  The frame of chapter 26's law: lists of numbers that came in.
-/
import Derived.Test.YtphlnpaikpjakaaPkOpen
import Derived.Test.YtphlnpaikpjakaaPkState
set_option linter.unusedVariables false
set_option linter.unusedSimpArgs false
namespace Go.Proofs.Ytphlnpaikpjakaa
open Go.RowKit Go.ChangeShapes Go.WideShapes Go.Deep

section
variable {H:Type} {enc:TypeId×Value→H} {w:World} {base:Nat} {spare:Nat→Bool} {held:Bool}

set_option maxRecDepth 100000 in
theorem open_lists (fuel:Nat) (v:Value) (x:DataW H×List MemPlace) (h:DataW.trod enc Try.prog w base spare held fuel 26 [v]=some x):∃(l:List (List Int)),LsM w w.heap.size l v:=by
 rcases DataW.trod_slice Try.underlying26 h with⟨h0,_⟩|⟨a,len,cap,elems,rest,n,hn,hcs,_,_,hlc,hcm,hel,hget,_⟩
 ·have h0:=(List.cons.inj h0).1
  exact⟨[],none,0,h0,by simp,by decide,by simp⟩
 ·have hcs:=(List.cons.inj hcs).1
  subst hcs
  have key:∀i,i < len→∃l:List Int,∃A c,w.cell? (a.add i)=some (.slice A l.length c)∧IsSl w w.heap.size l A c:=by
   intro i hi
   have h1:=hget i hi
   obtain⟨y,hy⟩:∃y,elems[i]?=some y:=⟨_,List.getElem?_eq_getElem (by omega)⟩
   rw[hy]at h1
   obtain⟨cs',hc,ht⟩:=Option.bind_eq_some_iff.1 h1
   rw[c_ints,Nat.mul_one]at hc
   obtain⟨_,hcl,hat⟩:=World.cells?_some hc
   match cs',hcl with
   | [v0],_=>
    obtain⟨l,A,c,rfl,hs⟩:=open_is _ v0 y ht
    exact⟨l,A,c,hat 0 (by omega),hs⟩
  by_cases hz:0 < len
  ·obtain⟨m0,A0,k0,h0,_⟩:=key 0 hz
   have hin:=cell_in (a:=a) h0
   have hsp:=hin.2
   have ad:∀i,a.add i=⟨a.block,a.off+i,none⟩:=fun i=>by
    unfold Addr.add
    by_cases h1:i=0<;>simp[h1,hsp]
    all_goals(cases a;simp_all)
   refine⟨(List.range len).map fun i=>if h:i < len then Classical.choose (key i h)else [],some a,cap,by simp,by simpa using hlc,by simpa[maxLen]using hcm,fun _=>⟨a.block,a.off,by cases a;simp_all,hin.1,fun i n hi=>?_⟩⟩
   rw[List.getElem?_map]at hi
   by_cases hil:i < len
   ·rw[List.getElem?_range hil]at hi
    simp only[Option.map_some,Option.some.injEq,dif_pos hil]at hi
    subst hi
    obtain⟨A,c,h1,h2⟩:=Classical.choose_spec (key i hil)
    exact⟨A,c,(congrArg w.cell? (ad i)).symm.trans h1,h2⟩
   ·rw[List.getElem?_eq_none (by simp;omega)]at hi
    exact absurd hi (by simp)
  ·have:len=0:=by omega
   subst this
   exact⟨[],some a,cap,rfl,by simp,by simpa[maxLen]using hcm,by simp⟩
end
end Go.Proofs.Ytphlnpaikpjakaa
