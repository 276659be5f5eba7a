/-
  Plain laws on tokens: of a text that is cut at a token, or has another end behind one; blanks ahead. No program.
-/
import Derived.Test.YtobegfbdedgmpaaGreatDoorJnLxP
set_option linter.unusedVariables false
set_option linter.unusedSimpArgs false
namespace Go.Proofs.YtobegfbdedgmpaaGreatDoor
open Go.RowKit

theorem toksF_fuel2:∀(f f':Nat) (l:List UInt8) (p:Nat),l.length < f→l.length < f'→toksF f l p=toksF f' l p
 |0,_,_,_,h,_=>absurd h (by omega)
 |_+1,0,_,_,_,h=>absurd h (by omega)
 |f+1,f'+1,l,p,h,h'=>by
  simp only[toksF]
  by_cases h0:(l.drop (runB isBlk l)).length =0
  ·rw[if_pos h0,if_pos h0]
  ·rw[if_neg h0,if_neg h0]
   by_cases h1:(firstT (l.drop (runB isBlk l))).2.2 =0
   ·rw[if_pos h1,if_pos h1]
    have hp:=firstT_pos h1
    rw[List.length_drop]at h0
    rw[toksF_fuel2 f f' ((l.drop (runB isBlk l)).drop (firstT (l.drop (runB isBlk l))).2.1) _ (by rw[List.length_drop,List.length_drop];omega) (by rw[List.length_drop,List.length_drop];omega)]
   ·rw[if_neg h1,if_neg h1]
def tokL (l:List UInt8) (p:Nat):List Tk×Nat×Int:=toksF (l.length+1) l p
theorem tokL_toks {l:List UInt8} (h:l.length≤4096):toks l=tokL l 0:=by unfold toks;rw[if_neg (by omega)];rfl
theorem tokL_nil {l:List UInt8} {p:Nat} (h:(l.drop (runB isBlk l)).length =0):tokL l p=([],0,0):=by
 unfold tokL
 simp only[toksF]
 rw[if_pos h]
theorem tokL_bad {l:List UInt8} {p:Nat} (h:¬(l.drop (runB isBlk l)).length =0) (h1:¬(firstT (l.drop (runB isBlk l))).2.2 =0):tokL l p=([],p+runB isBlk l,(firstT (l.drop (runB isBlk l))).2.2):=by
 unfold tokL
 simp only[toksF]
 rw[if_neg h,if_neg h1]
theorem tokL_go {l:List UInt8} {p:Nat} (h:¬(l.drop (runB isBlk l)).length =0) (h1:(firstT (l.drop (runB isBlk l))).2.2 =0):
  tokL l p=if(tokL ((l.drop (runB isBlk l)).drop (firstT (l.drop (runB isBlk l))).2.1) (p+runB isBlk l+(firstT (l.drop (runB isBlk l))).2.1)).2.2 =0
   then(⟨(firstT (l.drop (runB isBlk l))).1,(l.drop (runB isBlk l)).take (firstT (l.drop (runB isBlk l))).2.1,p+runB isBlk l⟩::(tokL ((l.drop (runB isBlk l)).drop (firstT (l.drop (runB isBlk l))).2.1) (p+runB isBlk l+(firstT (l.drop (runB isBlk l))).2.1)).1,0,0)
   else tokL ((l.drop (runB isBlk l)).drop (firstT (l.drop (runB isBlk l))).2.1) (p+runB isBlk l+(firstT (l.drop (runB isBlk l))).2.1):=by
 have hp:=firstT_pos h1
 have hl:=h
 rw[List.length_drop]at hl
 have e:toksF l.length ((l.drop (runB isBlk l)).drop (firstT (l.drop (runB isBlk l))).2.1) (p+runB isBlk l+(firstT (l.drop (runB isBlk l))).2.1)=tokL ((l.drop (runB isBlk l)).drop (firstT (l.drop (runB isBlk l))).2.1) (p+runB isBlk l+(firstT (l.drop (runB isBlk l))).2.1):=
  toksF_fuel2 _ _ _ _ (by rw[List.length_drop,List.length_drop];omega) (by omega)
 rw[←e]
 show toksF (l.length+1) l p=_
 simp only[toksF]
 rw[if_neg h,if_pos h1]
theorem drop_blank (B l:List UInt8) (hB:∀b∈B,isBlk b=true):(B++l).drop (runB isBlk (B++l))=l.drop (runB isBlk l):=by
 rw[runB_pre _ _ _ hB,List.drop_append,List.drop_eq_nil_of_le (by omega),List.nil_append]
 congr 1
 omega
theorem tokL_blank (B l:List UInt8) (p:Nat) (hB:∀b∈B,isBlk b=true):tokL (B++l) p=tokL l (p+B.length):=by
 have e1:=drop_blank B l hB
 have e2:=runB_pre isBlk B l hB
 have e3:p+(B.length+runB isBlk l)=p+B.length+runB isBlk l:=by omega
 by_cases h0:(l.drop (runB isBlk l)).length =0
 ·rw[tokL_nil h0,tokL_nil (by rw[e1];exact h0)]
 ·by_cases h1:(firstT (l.drop (runB isBlk l))).2.2 =0
  ·rw[tokL_go h0 h1,tokL_go (by rw[e1];exact h0) (by rw[e1];exact h1)]
   simp only[e1]
   rw[e2,e3]
  ·rw[tokL_bad h0 h1,tokL_bad (by rw[e1];exact h0) (by rw[e1];exact h1)]
   simp only[e1]
   rw[e2,e3]
/-! what a token is depends on the byte behind it alone -/
theorem pre_take2 {x l:List UInt8} (hx:x.length≤2):x.isPrefixOf l=x.isPrefixOf (l.take 2):=by
 match x,l,hx with
 | [],_,_=>simp
 | [a], [],_=>rfl
 | [a],b::l,_=>simp[List.isPrefixOf]
 | [a,b], [],_=>rfl
 | [a,b], [c],_=>rfl
 | [a,b],c::d::l,_=>simp[List.isPrefixOf]
 |_::_::_::_,_,h=>simp at h
theorem signL_le:∀s∈signL,s.length≤2∧0 < s.length:=by decide
theorem isDig_wd {b:UInt8} (h:isDig b=true):isWd b=true:=by unfold isWd;rw[h];simp
theorem find_kin {l l':List UInt8}:∀(L:List (List UInt8)),(∀x∈L,x.isPrefixOf l=x.isPrefixOf l')→L.find? (fun x=>x.isPrefixOf l)=L.find? (fun x=>x.isPrefixOf l')
 | [],_=>rfl
 |a::L,hL=>by
  simp only[List.find?_cons,hL a List.mem_cons_self,find_kin L fun s hs=>hL s (List.mem_cons_of_mem _ hs)]
/-! a text with another end -/
theorem tokL_mk {l:List UInt8} {p:Nat} {k:Int} {u v:List UInt8} {r:List Tk} (hl:l.drop (runB isBlk l)=u++v) (h:firstT (u++v)=(k,u.length,0)) (hr:tokL v (p+runB isBlk l+u.length)=(r,0,0)):tokL l p=(⟨k,u,p+runB isBlk l⟩::r,0,0):=by
 have hp:=firstT_pos (l:=u++v) (by rw[h])
 rw[h]at hp
 simp only at hp
 rw[tokL_go (by rw[hl,List.length_append];omega) (by rw[hl,h])]
 rw[hl,h]
 simp only[List.drop_left,List.take_left,hr]
 rfl
end Go.Proofs.YtobegfbdedgmpaaGreatDoor
