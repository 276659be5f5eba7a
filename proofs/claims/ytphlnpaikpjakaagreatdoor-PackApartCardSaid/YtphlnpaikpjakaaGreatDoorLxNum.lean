/-
  Plain law on numerals: digits that ParseInt takes, and that FormatInt gives back. No program.
-/
import Derived.Test.YtphlnpaikpjakaaGreatDoorLxData
import Derived.Lib.ParseIntB
import Derived.Lib.ItoaMem
namespace Go.Proofs.YtphlnpaikpjakaaGreatDoor
open Go.RowKit

def allDig (l:List UInt8):Prop:=∀b∈l,isDig b=true
theorem isDig_iff (b:UInt8):isDig b=true↔48≤b.toNat∧b.toNat≤57:=by simp[isDig]
def decA (acc:Nat) (l:List UInt8):Nat:=l.foldl (fun n b=>n*10+(b.toNat - 48)) acc
theorem decV_A (l:List UInt8):decV l=decA 0 l:=rfl
theorem decA_ge:∀(l:List UInt8) (acc:Nat),acc≤decA acc l
 | [],acc=>lrq _
 |b::l,acc=>by
  have:=decA_ge l (acc*10+(b.toNat - 48))
  simp only[decA,List.foldl_cons]at this ⊢
  omega
theorem decA_cons (b:UInt8) (l:List UInt8) (acc:Nat):decA acc (b::l)=decA (acc*10+(b.toNat - 48)) l:=by simp only[decA,List.foldl_cons]
theorem parseUintM_go (M acc:Nat) (c:UInt8) (r:List UInt8) (h:48≤c.toNat∧c.toNat≤57) (h1:¬1844674407370955162≤acc) (h2:¬M < acc*10+(c.toNat - 48)):Lib.parseUintM M acc (c::r)=Lib.parseUintM M (acc*10+(c.toNat - 48)) r:=by
 simp only[Lib.parseUintM,if_pos h,if_neg h1,if_neg h2]
theorem parseUintM_r1 (M acc:Nat) (c:UInt8) (r:List UInt8) (h:48≤c.toNat∧c.toNat≤57) (h1:1844674407370955162≤acc):Lib.parseUintM M acc (c::r)= .range :=by
 simp only[Lib.parseUintM,if_pos h,if_pos h1]
theorem parseUintM_r2 (M acc:Nat) (c:UInt8) (r:List UInt8) (h:48≤c.toNat∧c.toNat≤57) (h1:¬1844674407370955162≤acc) (h2:M < acc*10+(c.toNat - 48)):Lib.parseUintM M acc (c::r)= .range :=by
 simp only[Lib.parseUintM,if_pos h,if_neg h1,if_pos h2]
theorem parseUintM_dig (M:Nat) (hM:M < 18446744073709551620) (l:List UInt8):∀(acc:Nat),allDig l→Lib.parseUintM M acc l=if decA acc l≤M∨l= []then .ok (decA acc l)else .range :=by
 induction l with
 |nil=>intro acc _;rw[if_pos (.inr rfl)];rfl
 |cons b l ih0=>
  intro acc h
  have hb:=(isDig_iff b).1 (h b (by simp))
  have ih:=ih0 (acc*10+(b.toNat - 48)) (fun c hc=>h c (by simp[hc]))
  have hge:=decA_ge l (acc*10+(b.toNat - 48))
  rw[decA_cons]
  by_cases h1:1844674407370955162≤acc
  ·have h9:¬decA (acc*10+(b.toNat - 48)) l≤M:=by omega
   rw[parseUintM_r1 _ _ _ _ hb h1,if_neg (by simp only[reduceCtorEq,or_false];exact h9)]
  ·by_cases h2:M < acc*10+(b.toNat - 48)
   ·have h9:¬decA (acc*10+(b.toNat - 48)) l≤M:=by omega
    rw[parseUintM_r2 _ _ _ _ hb h1 h2,if_neg (by simp only[reduceCtorEq,or_false];exact h9)]
   ·rw[parseUintM_go _ _ _ _ hb h1 h2,ih]
    by_cases h3:l= []
    ·subst h3
     rw[if_pos (.inr rfl),if_pos (.inl (Nat.le_of_not_lt h2))]
    ·by_cases h4:decA (acc*10+(b.toNat - 48)) l≤M
     ·rw[if_pos (.inl h4),if_pos (.inl h4)]
     ·rw[if_neg (by rintro(h|h);exact h4 h;exact h3 h),if_neg (by simp only[reduceCtorEq,or_false];exact h4)]
theorem parseInt_dig (l:List UInt8) (h:allDig l) (hl:l≠ []):Lib.parseIntB 64 l=if decV l≤9223372036854775807 then .ok (decV l:Int)else .range :=by
 match l,hl with
 |b::r,_=>
  have hb:=(isDig_iff b).1 (h b (by simp))
  have hM:=parseUintM_dig 18446744073709551615 (by omega) (b::r) 0 h
  have e:¬(b.toNat=43∨b.toNat=45):=by omega
  have e2:¬b.toNat=45:=by omega
  unfold Lib.parseIntB Lib.parseUintB
  simp only[if_neg e]
  rw[if_neg (by simp),show(2 ^ 64 - 1:Nat)=18446744073709551615 from rfl,hM,decV_A]
  by_cases h1:decA 0 (b::r)≤18446744073709551615
  ·rw[if_pos (.inl h1)]
   simp only[e2,not_false_eq_true,true_and,false_and,if_false]
   by_cases h2:decA 0 (b::r)≤9223372036854775807
   ·rw[if_pos h2,if_neg (by omega)]
   ·rw[if_neg h2,if_pos (by omega)]
  ·rw[if_neg (by simp only[reduceCtorEq,or_false];exact h1)]
   simp only
   rw[if_neg (by omega)]
theorem decA_split:∀(l:List UInt8) (b:UInt8) (acc:Nat),decA acc (l++ [b])=decA acc l*10+(b.toNat - 48)
 | [],b,acc=>rfl
 |a::l,b,acc=>by simp only[List.cons_append,decA_cons];exact decA_split l b _
theorem decDigits_of:∀(n:Nat) (l:List UInt8),l.length=n+1→allDig l→(n=0∨l.head?≠some 48)→Lib.decDigits (decV l)=l:=by
 intro n
 induction n with
 |zero=>
  intro l hl h _
  match l,hl with
  | [b],_=>
   have hb:=(isDig_iff b).1 (h b (by simp))
   rw[decV_A,decA_cons]
   simp only[decA,List.foldl_nil]
   rw[Lib.decDigits_one (by omega)]
   congr 1
   apply UInt8.toNat.inj
   simp
   omega
 |succ n ih=>
  intro l hl h hh
  obtain⟨m,b,rfl⟩:∃m b,l=m++ [b]:=⟨l.dropLast,l.getLast (by intro e;simp[e]at hl),(List.dropLast_concat_getLast _).symm⟩
  have hb:=(isDig_iff b).1 (h b (by simp))
  have hm:m.length=n+1:=by simpa using hl
  have hmd:allDig m:=fun c hc=>h c (by simp[hc])
  have hmh:m.head?≠some 48:=by
   rcases hh with hh|hh
   ·omega
   ·cases m with
    |nil=>simp at hm
    |cons c r=>simpa using hh
  have e:=ih m hm hmd (.inr hmh)
  have hpos:0 < decV m:=by
   match m,hm with
   |c::r,_=>
    have hc:=(isDig_iff c).1 (hmd c (by simp))
    have:c≠48:=fun e=>hmh (by simp[e])
    have hc2:c.toNat≠48:=fun e=>this (UInt8.toNat.inj (by simpa using e))
    have:=decA_ge r (0*10+(c.toNat - 48))
    rw[decV_A,decA_cons]
    omega
  have hv:decV (m++ [b])=decV m*10+(b.toNat - 48):=by rw[decV_A,decA_split,decV_A]
  rw[hv,Lib.decDigits,dif_neg (by omega),show(decV m*10+(b.toNat - 48)) / 10=decV m from by omega,show(decV m*10+(b.toNat - 48)) % 10=b.toNat - 48 from by omega,e]
  congr 1
  congr 1
  apply UInt8.toNat.inj
  simp
  omega
theorem decDigits_head:∀(u:Nat),0 < u→(Lib.decDigits u).head? ≠some 48:=by
 intro u
 induction u using Nat.strongRecOn with
 |_ u ih=>
  intro hu
  rw[Lib.decDigits]
  by_cases h:u < 10
  ·rw[dif_pos h]
   simp only[List.head?_cons,ne_eq,Option.some.injEq]
   intro e
   have:=congrArg UInt8.toNat e
   simp at this
   omega
  ·rw[dif_neg h]
   have:=ih (u / 10) (by omega) (by omega)
   cases hd:Lib.decDigits (u / 10)with
   |nil=>rw[Lib.decDigits]at hd;split at hd<;>simp at hd
   |cons a r=>rw[hd]at this;simpa using this
theorem itoa_same (l:List UInt8) (h:allDig l) (hl:l≠ []):(Lib.itoa (decV l:Int)==l)=(l.length==1 || !(l.head?==some 48)):=by
 rw[Lib.itoa_nonneg,Bool.eq_iff_iff]
 simp only[beq_iff_eq,Bool.or_eq_true,Bool.not_eq_true',beq_eq_false_iff_ne]
 constructor
 ·intro e
  by_cases h0:decV l=0
  ·left
   rw[h0,Lib.decDigits_one (by omega)]at e
   rw[←e];rfl
  ·right
   rw[←e]
   exact decDigits_head _ (by omega)
 ·intro e
  have hlen:l.length=(l.length - 1)+1:=by
   have:0 < l.length:=List.length_pos_iff.2 hl
   omega
  refine decDigits_of (l.length - 1) l hlen h ?_
  rcases e with e|e
  ·exact .inl (by omega)
  ·exact .inr e
theorem takeWhile_dig (l:List UInt8):allDig (l.take (runB isDig l)):=by
 induction l with
 |nil=>intro b hb;simp[runB]at hb
 |cons a r ih=>
  intro b hb
  by_cases ha:isDig a=true
  ·simp only[runB,List.takeWhile,ha,List.length_cons,List.take_succ_cons,List.mem_cons]at hb
   rcases hb with rfl|hb
   ·exact ha
   ·exact ih b hb
  ·simp only[Bool.not_eq_true]at ha
   rw[runB_zero ha]at hb
   simp at hb
end Go.Proofs.YtphlnpaikpjakaaGreatDoor
