/-
  Plain law on numerals: digits that ParseInt takes, and that FormatInt gives back. No program.
-/
import Derived.Test.YtmopichdofgndaaGreatDoorLxData
import Derived.Lib.ParseIntB
import Derived.Lib.ItoaMem
namespace Go.Proofs.YtmopichdofgndaaGreatDoor
open Go.RowKit

def allDig (l:List UInt8):Prop:=∀b∈l,isDig b=true
theorem isDig_iff (b:UInt8):isDig b=true↔48≤b.toNat∧b.toNat≤57:=by simp[isDig]
def decA (acc:Nat) (l:List UInt8):Nat:=l.foldl (fun n b=>n*10+(b.toNat - 48)) acc
theorem decV_A (l:List UInt8):decV l=decA 0 l:=rfl
theorem decA_ge:∀(l:List UInt8) (acc:Nat),acc≤decA acc l
 | [],acc=>lrq _
 |b::l,acc=>by
  have:=decA_ge l (acc*10+(b.toNat - 48))
  simp only[decA,List.foldl_cons]at this ⊢
  omega
theorem decA_cons (b:UInt8) (l:List UInt8) (acc:Nat):decA acc (b::l)=decA (acc*10+(b.toNat - 48)) l:=by simp only[decA,List.foldl_cons]
theorem decA_split:∀(l:List UInt8) (b:UInt8) (acc:Nat),decA acc (l++ [b])=decA acc l*10+(b.toNat - 48)
 | [],b,acc=>rfl
 |a::l,b,acc=>by simp only[List.cons_append,decA_cons];exact decA_split l b _
theorem decDigits_of:∀(n:Nat) (l:List UInt8),l.length=n+1→allDig l→(n=0∨l.head?≠some 48)→Lib.decDigits (decV l)=l:=by
 intro n
 induction n with
 |zero=>
  intro l hl h _
  match l,hl with
  | [b],_=>
   have hb:=(isDig_iff b).1 (h b (by simp))
   rw[decV_A,decA_cons]
   simp only[decA,List.foldl_nil]
   rw[Lib.decDigits_one (by omega)]
   congr 1
   apply UInt8.toNat.inj
   simp
   omega
 |succ n ih=>
  intro l hl h hh
  obtain⟨m,b,rfl⟩:∃m b,l=m++ [b]:=⟨l.dropLast,l.getLast (by intro e;simp[e]at hl),(List.dropLast_concat_getLast _).symm⟩
  have hb:=(isDig_iff b).1 (h b (by simp))
  have hm:m.length=n+1:=by simpa using hl
  have hmd:allDig m:=fun c hc=>h c (by simp[hc])
  have hmh:m.head?≠some 48:=by
   rcases hh with hh|hh
   ·omega
   ·cases m with
    |nil=>simp at hm
    |cons c r=>simpa using hh
  have e:=ih m hm hmd (.inr hmh)
  have hpos:0 < decV m:=by
   match m,hm with
   |c::r,_=>
    have hc:=(isDig_iff c).1 (hmd c (by simp))
    have:c≠48:=fun e=>hmh (by simp[e])
    have hc2:c.toNat≠48:=fun e=>this (UInt8.toNat.inj (by simpa using e))
    have:=decA_ge r (0*10+(c.toNat - 48))
    rw[decV_A,decA_cons]
    omega
  have hv:decV (m++ [b])=decV m*10+(b.toNat - 48):=by rw[decV_A,decA_split,decV_A]
  rw[hv,Lib.decDigits,dif_neg (by omega),show(decV m*10+(b.toNat - 48)) / 10=decV m from by omega,show(decV m*10+(b.toNat - 48)) % 10=b.toNat - 48 from by omega,e]
  congr 1
  congr 1
  apply UInt8.toNat.inj
  simp
  omega
theorem decDigits_head:∀(u:Nat),0 < u→(Lib.decDigits u).head? ≠some 48:=by
 intro u
 induction u using Nat.strongRecOn with
 |_ u ih=>
  intro hu
  rw[Lib.decDigits]
  by_cases h:u < 10
  ·rw[dif_pos h]
   simp only[List.head?_cons,ne_eq,Option.some.injEq]
   intro e
   have:=congrArg UInt8.toNat e
   simp at this
   omega
  ·rw[dif_neg h]
   have:=ih (u / 10) (by omega) (by omega)
   cases hd:Lib.decDigits (u / 10)with
   |nil=>rw[Lib.decDigits]at hd;split at hd<;>simp at hd
   |cons a r=>rw[hd]at this;simpa using this
theorem itoa_same (l:List UInt8) (h:allDig l) (hl:l≠ []):(Lib.itoa (decV l:Int)==l)=(l.length==1 || !(l.head?==some 48)):=by
 rw[Lib.itoa_nonneg,Bool.eq_iff_iff]
 simp only[beq_iff_eq,Bool.or_eq_true,Bool.not_eq_true',beq_eq_false_iff_ne]
 constructor
 ·intro e
  by_cases h0:decV l=0
  ·left
   rw[h0,Lib.decDigits_one (by omega)]at e
   rw[←e];rfl
  ·right
   rw[←e]
   exact decDigits_head _ (by omega)
 ·intro e
  have hlen:l.length=(l.length - 1)+1:=by
   have:0 < l.length:=List.length_pos_iff.2 hl
   omega
  refine decDigits_of (l.length - 1) l hlen h ?_
  rcases e with e|e
  ·exact .inl (by omega)
  ·exact .inr e
end Go.Proofs.YtmopichdofgndaaGreatDoor
