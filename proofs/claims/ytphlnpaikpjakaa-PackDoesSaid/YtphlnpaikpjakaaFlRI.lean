/-
  The plain law of flow.Check: a walk of so many skips as there are edges tells as much as one skip more. No program.
-/
import Derived.Test.YtphlnpaikpjakaaFlRG
namespace Go.Proofs.Ytphlnpaikpjakaa
open Go.RowKit

def remE (l:List Ed) (y:Int):List Ed:=l.filter fun e=> !(e.from_==y)
theorem outE_rem {l:List Ed} {y z:Int} (h:z≠y):outE (remE l y) z=outE l z:=by
 unfold outE remE
 rw[List.filter_filter]
 refine List.filter_congr fun e _=>?_
 cases hz:e.from_==z
 ·simp
 ·have:e.from_=z:=by simpa using hz
  simp[this,h]
theorem outE_rem_self (l:List Ed) (y:Int):outE (remE l y) y= []:=by
 unfold outE remE
 rw[List.filter_filter]
 exact List.filter_eq_nil_iff.2 fun e _=>by simp
theorem walkR_step {l:List Ed} {x y:Int} {f:Nat} (h:walkR l x y (f+1)=true):∃e,outE l y= [e]∧e.kind=1∧(e.to_=x∨walkR l x e.to_ f=true):=by
 unfold walkR at h
 split at h
 ·rename_i e he
  refine⟨e,he,?_⟩
  by_cases hk:e.kind=1
  ·rw[if_pos hk]at h
   by_cases ht:e.to_=x
   ·exact⟨hk,.inl ht⟩
   ·rw[if_neg ht]at h
    exact⟨hk,.inr h⟩
  ·rw[if_neg hk]at h
   exact absurd h (by simp)
 ·exact absurd h (by simp)
theorem walkR_of {l:List Ed} {x y:Int} {f:Nat} {e:Ed} (he:outE l y= [e]) (hk:e.kind=1) (h:e.to_=x∨walkR l x e.to_ f=true):walkR l x y (f+1)=true:=by
 rw[walkR_one he,if_pos hk]
 by_cases ht:e.to_=x
 ·rw[if_pos ht]
 ·rw[if_neg ht]
  exact h.resolve_left ht
theorem walkR_mono {l:List Ed} {x:Int}:∀ {f f':Nat} {y:Int},f≤f'→walkR l x y f=true→walkR l x y f'=true
 |0,_,_,_,h=>absurd h (by simp[walkR])
 |f+1,0,_,hf,_=>absurd hf (by omega)
 |f+1,f'+1,y,hf,h=>by
  obtain⟨e,he,hk,h1⟩:=walkR_step h
  exact walkR_of he hk (h1.imp id (walkR_mono (by omega)))
theorem walkR_rem {l:List Ed} {x y:Int}:∀ {f:Nat} {z:Int},walkR l x z f=true→walkR (remE l y) x z f=true∨∃f',f'≤f∧walkR l x y f'=true
 |0,_,h=>absurd h (by simp[walkR])
 |f+1,z,h=>by
  by_cases hz:z=y
  ·subst hz;exact .inr ⟨f+1,lrq _,h⟩
  ·obtain⟨e,he,hk,h1⟩:=walkR_step h
   have he':outE (remE l y) z= [e]:=(outE_rem hz).trans he
   rcases h1 with ht|h1
   ·exact .inl (walkR_of he' hk (.inl ht))
   ·rcases walkR_rem h1 with h2|⟨f',hf,h2⟩
    ·exact .inl (walkR_of he' hk (.inr h2))
    ·exact .inr ⟨f',by omega,h2⟩
theorem walkR_unrem {l:List Ed} {x y:Int}:∀ {f:Nat} {z:Int},walkR (remE l y) x z f=true→walkR l x z f=true
 |0,_,h=>absurd h (by simp[walkR])
 |f+1,z,h=>by
  obtain⟨e,he,hk,h1⟩:=walkR_step h
  have hz:z≠y:=fun hz=>by
   subst hz
   rw[outE_rem_self]at he
   exact absurd he (by simp)
  exact walkR_of ((outE_rem hz).symm.trans he) hk (h1.imp id walkR_unrem)
theorem walkR_len:∀(m:Nat) (l:List Ed) (x y:Int) (f:Nat),l.length≤m→walkR l x y f=true→walkR l x y l.length=true
 |0,l,x,y,f,hl,h=>by
  have:l= []:=List.length_eq_zero_iff.1 (by omega)
  subst this
  cases f with
  |zero=>exact absurd h (by simp[walkR])
  |succ f=>
   obtain⟨e,he,_⟩:=walkR_step h
   exact absurd he (by simp[outE])
 |m+1,l,x,y,f,hl,h=>by
  induction f using Nat.strongRecOn with
  |_ f ih=>
  match f,h with
  |0,h=>exact absurd h (by simp[walkR])
  |f+1,h=>
   obtain⟨e,he,hk,h1⟩:=walkR_step h
   have hmem:e∈outE l y:=by rw[he];simp
   have hml:e∈l:=(List.mem_filter.1 hmem).1
   have hfr:e.from_=y:=by simpa using (List.mem_filter.1 hmem).2
   have hlt:(remE l y).length < l.length:=by
    refine List.length_filter_lt_length_iff_exists.2 ⟨e,hml,?_⟩
    simp[hfr]
   obtain⟨n,hn⟩:∃n,l.length=n+1:=⟨l.length - 1,by omega⟩
   rw[hn]
   rcases h1 with ht|h1
   ·exact walkR_of he hk (.inl ht)
   ·rcases walkR_rem (y:=y) h1 with h2|⟨f',hf,h2⟩
    ·have h3:=walkR_len m (remE l y) x e.to_ f (by omega) h2
     exact walkR_of he hk (.inr (walkR_mono (by omega) (walkR_unrem h3)))
    ·have:=ih f' (by omega) h2
     rwa [hn]at this
theorem walkR_same (l:List Ed) (x y:Int):walkR l x y (l.length+1)=walkR l x y l.length:=by
 cases h:walkR l x y (l.length+1)with
 |true=>exact(walkR_len l.length l x y _ (lrq _) h).symm
 |false=>
  cases h2:walkR l x y l.length with
  |false=>rfl
  |true=>rw[walkR_mono (by omega) h2]at h;exact absurd h (by simp)
theorem rnodeOk_eq (l:List Ed) (last:Int) (e:Ed) (he:e∈l):rnodeOk l last e.from_=nodeOk l last e.from_:=by
 unfold rnodeOk nodeOk
 rw[walkR_same]
 have hmem:e∈outE l e.from_:=List.mem_filter.2 ⟨he,by simp⟩
 have:rightL (outE l e.from_)=rightB (outE l e.from_):=by
  cases h:outE l e.from_ with
  |nil=>rw[h]at hmem;cases hmem
  |cons a r=>rfl
 rw[this]
theorem all_congr' {α:Type} {p q:α→Bool}:∀ {l:List α},(∀a∈l,p a=q a)→l.all p=l.all q
 | [],_=>rfl
 |a::l,h=>by
  rw[List.all_cons,List.all_cons,h a (by simp),all_congr' fun b hb=>h b (by simp[hb])]
theorem rmayG_eq (g:Gr):rmayG g=mayG g:=by
 unfold rmayG mayG
 rw[all_congr' (fun e he=>rnodeOk_eq g.edges g.last e he)]
 unfold headBad odd2
 cases g.arrays.any sizeBad<;>simp
end Go.Proofs.Ytphlnpaikpjakaa
