/-
  Plain laws on tokens: where a text's tokens lie; each one's text, by itself, is just that token; blanks more change nothing but places. No program.
-/
import Derived.Test.YtphlnpaikpjakaaGreatDoorLxNum
import Derived.Lib.AtoiAll
set_option linter.unusedVariables false
set_option linter.unusedSimpArgs false
namespace Go.Proofs.YtphlnpaikpjakaaGreatDoor
open Go.RowKit

theorem runB_take (p:UInt8→Bool) (l:List UInt8) (n:Nat):runB p (l.take n)=min n (runB p l):=by
 induction l generalizing n with
 |nil=>simp[runB]
 |cons a r ih=>
  cases n with
  |zero=>simp[runB]
  |succ n=>
   cases hp:p a with
   |false=>simp[runB,List.takeWhile,hp]
   |true=>
    have:=ih n
    simp only[runB]at this
    simp only[runB,List.take_succ_cons,List.takeWhile,hp,List.length_cons,this]
    omega
theorem runB_app (p:UInt8→Bool) (l r:List UInt8) (b:UInt8) (hb:p b=false):runB p (l++b::r)=runB p l:=by
 induction l with
 |nil=>simp[runB,List.takeWhile,hb]
 |cons a l ih=>
  cases hp:p a with
  |false=>simp[runB,List.takeWhile,hp]
  |true=>simp only[runB]at ih;simp[runB,List.takeWhile,hp,ih]
theorem fT_num {l:List UInt8} (h:0 < runB isDig l):firstT l=if(numB (l.take (runB isDig l))&& !decide (runB isDig l < runB isWd l))=true then(2,runB isDig l,0)else(0,0,81):=by
 unfold firstT
 rw[if_pos h]
theorem fT_none {l:List UInt8} (h:¬0 < runB isDig l):firstT l=if 16 < runB isWd l then((0:Int),0,(82:Int))else if 0 < runB isWd l then((1:Int),runB isWd l,(0:Int))else match signL.find? (fun x=>x.isPrefixOf l)with|some x=>((3:Int),x.length,(0:Int))|none=>((0:Int),0,(80:Int)):=by
 unfold firstT
 rw[if_neg h]
 rfl
theorem sign_self:∀s∈signL,firstT s=(3,s.length,0):=by decide+kernel
theorem sign_ext (r:List UInt8):∀s∈signL,firstT (s++32::r)=(3,s.length,0):=by
 intro s hs
 simp only[signL,List.mem_cons,List.not_mem_nil,or_false]at hs
 rcases hs with rfl|rfl|rfl|rfl|rfl|rfl|rfl|rfl|rfl|rfl|rfl|rfl|rfl|rfl|rfl|rfl|rfl|rfl|rfl|rfl|rfl|rfl|rfl|rfl|rfl<;>rfl
theorem fT_own {l:List UInt8} {k:Int} {n:Nat} (h:firstT l=(k,n,0)):firstT (l.take n)=(k,n,0)∧∀r,firstT (l.take n++32::r)=(k,n,0):=by
 have hle:=firstT_le (l:=l)
 rw[h]at hle
 simp only at hle
 have hD:=runB_take isDig l n
 have hW:=runB_take isWd l n
 have hDr:=fun r=>runB_app isDig (l.take n) r 32 (by decide)
 have hWr:=fun r=>runB_app isWd (l.take n) r 32 (by decide)
 have htk:∀r,(l.take n++32::r).take n=l.take n:=fun r=>by
  rw[List.take_append_of_le_length (by rw[List.length_take];omega),List.take_take,Nat.min_self]
 have htt:(l.take n).take n=l.take n:=by rw[List.take_take,Nat.min_self]
 by_cases hd:0 < runB isDig l
 ·rw[fT_num hd]at h
  split at h
  ·rename_i hb
   simp only[Prod.mk.injEq]at h
   obtain⟨hk,hn,_⟩:=h
   rw[hn]at hb hD hd
   rw[Nat.min_self]at hD
   simp only[Bool.and_eq_true,Bool.not_eq_true',decide_eq_false_iff_not]at hb
   have e1:decide (n < min n (runB isWd l))=false:=by simp;omega
   refine⟨?_,fun r=>?_⟩
   ·rw[fT_num (by rw[hD];exact hd),hD,hW,htt,hb.1,e1,←hk]
    rfl
   ·rw[fT_num (by rw[hDr,hD];exact hd),hDr,hD,hWr,hW,htk,hb.1,e1,←hk]
    rfl
  ·simp at h
 ·have h0:runB isDig l=0:=by omega
  rw[h0,Nat.min_zero]at hD
  rw[fT_none hd]at h
  split at h
  ·simp at h
  ·rename_i h16
   split at h
   ·rename_i hp
    simp only[Prod.mk.injEq]at h
    obtain⟨hk,hn,_⟩:=h
    rw[hn]at h16 hp hW
    rw[Nat.min_self]at hW
    refine⟨?_,fun r=>?_⟩
    ·rw[fT_none (by rw[hD];omega),hW,if_neg h16,if_pos hp,←hk]
    ·rw[fT_none (by rw[hDr,hD];omega),hWr,hW,if_neg h16,if_pos hp,←hk]
   ·split at h
    ·rename_i s hs
     simp only[Prod.mk.injEq]at h
     obtain⟨hk,hn,_⟩:=h
     have hm:=List.mem_of_find?_eq_some hs
     have hpf:=List.find?_some hs
     have hpf:=List.isPrefixOf_iff_prefix.1 hpf
     have he:l.take n=s:=by rw[←hn];exact(List.prefix_iff_eq_take.1 hpf).symm
     rw[he,←hk,←hn]
     exact⟨sign_self s hm,fun r=>sign_ext r s hm⟩
    ·simp at h
def Lies (s:List UInt8):Nat→List Tk→Prop
 |p, []=>runB isBlk (s.drop p)=(s.drop p).length ∧p≤s.length
 |p,t::r=>p≤t.at_∧t.at_+t.text.length≤s.length∧0 < t.text.length∧(s.drop t.at_).take t.text.length=t.text∧t.at_ - p≤runB isBlk (s.drop p)∧firstT t.text=(t.kind,t.text.length,0)∧Lies s (t.at_+t.text.length) r
theorem lies_of:∀(f:Nat) (s:List UInt8) (p:Nat),p≤s.length→s.length - p < f→(toksF f (s.drop p) p).2.2 =0→Lies s p (toksF f (s.drop p) p).1
 |0,_,_,_,h,_=>absurd h (by omega)
 |f+1,s,p,hp,hf,he=>by
  obtain⟨b,hb⟩:=nmq (runB isBlk (s.drop p))
  have hbl:=runB_le isBlk (s.drop p)
  rw[←hb,List.length_drop]at hbl
  rw[toksF]at he ⊢
  simp only[←hb,List.drop_drop]at he ⊢
  by_cases h0:(s.drop (p+b)).length =0
  ·rw[if_pos h0]
   rw[List.length_drop]at h0
   exact⟨by rw[←hb,List.length_drop];omega,hp⟩
  ·rw[if_neg h0]at he ⊢
   obtain⟨⟨k,n,e⟩,hq⟩:=nmq (firstT (s.drop (p+b)))
   rw[←hq]at he ⊢
   simp only at he ⊢
   by_cases h1:e=0
   ·subst h1
    rw[if_pos rfl]at he ⊢
    have hn:=firstT_pos (l:=s.drop (p+b)) (by rw[←hq])
    have hle:=firstT_le (l:=s.drop (p+b))
    rw[←hq]at hn hle
    simp only[List.length_drop]at hn hle
    have hown:=(fT_own hq.symm).1
    have hlen:((s.drop (p+b)).take n).length =n:=by rw[List.length_take,List.length_drop];omega
    by_cases h2:(toksF f (s.drop (p+b+n)) (p+b+n)).2.2 =0
    ·rw[if_pos h2]
     have ih:=lies_of f s (p+b+n) (by omega) (by omega) h2
     refine⟨by simp only;omega,by simp only[hlen];omega,by simp only[hlen];exact hn,by simp only[hlen],by simp only[←hb];omega,by simp only[hlen];exact hown,by simp only[hlen];exact ih⟩
    ·rw[if_neg h2]at he
     exact absurd he h2
   ·rw[if_neg h1]at he
    exact absurd he h1
theorem toks_lies {s:List UInt8} (h:(toks s).2.2 =0):Lies s 0 (toks s).1 ∧s.length≤4096:=by
 unfold toks at h ⊢
 by_cases hl:4096 < s.length
 ·rw[if_pos hl]at h
  simp at h
 ·rw[if_neg hl]at h ⊢
  refine⟨?_,by omega⟩
  have:=lies_of (s.length+1) s 0 (Nat.zero_le _) (by omega)
  rw[List.drop_zero]at this
  exact this h
theorem Lies.each {s:List UInt8}:∀ {ts:List Tk} {p:Nat},Lies s p ts→∀t∈ts,firstT t.text=(t.kind,t.text.length,0)
 | [],_,_,t,ht=>by simp at ht
 |a::r,p,h,t,ht=>by
  obtain⟨_,_,_,_,_,h6,h7⟩:=h
  rcases List.mem_cons.1 ht with rfl|ht
  ·exact h6
  ·exact Lies.each h7 t ht

theorem parseUint10_go (acc:Nat) (c:UInt8) (r:List UInt8) (h:48≤c.toNat∧c.toNat≤57) (h1:acc*10+(c.toNat - 48) < 18446744073709551616):Lib.parseUint10 acc (c::r)=Lib.parseUint10 (acc*10+(c.toNat - 48)) r:=by
 simp only[Lib.parseUint10,if_pos h]
 rw[if_neg (by omega),if_neg (by omega)]
theorem parseUint10_dig (l:List UInt8):∀(acc:Nat),allDig l→decA acc l≤9223372036854775807→Lib.parseUint10 acc l= .ok (decA acc l):=by
 induction l with
 |nil=>intro acc _ _;rfl
 |cons b l ih=>
  intro acc h hd
  have hb:=(isDig_iff b).1 (h b (by simp))
  rw[decA_cons]at hd ⊢
  have hge:=decA_ge l (acc*10+(b.toNat - 48))
  rw[parseUint10_go _ _ _ hb (by omega)]
  exact ih _ (fun c hc=>h c (by simp[hc])) hd
theorem atoi_dig (l:List UInt8) (h:allDig l) (hl:l≠ []) (hd:decV l≤9223372036854775807):Lib.atoiAll l= .ok (decV l:Int):=by
 match l,hl with
 |b::r,_=>
  have hb:=(isDig_iff b).1 (h b (by simp))
  have e:¬(b.toNat=43∨b.toNat=45):=by omega
  have e2:¬b.toNat=45:=by omega
  have hp:=parseUint10_dig (b::r) 0 h (by rw[←decV_A];exact hd)
  unfold Lib.atoiAll Lib.parseMag
  simp only[if_neg e]
  rw[if_neg (by simp),hp,←decV_A]
  simp only[e2,not_false_eq_true,true_and,false_and,if_false]
  rw[if_neg (by omega)]
theorem fT_number {t:List UInt8} {n:Nat} (h:firstT t=(2,n,0)) (hn:n=t.length):allDig t∧t≠ []∧decV t≤9223372036854775807:=by
 by_cases hd:0 < runB isDig t
 ·rw[fT_num hd]at h
  split at h
  ·rename_i hb
   simp only[Prod.mk.injEq]at h
   have hr:runB isDig t=t.length:=by rw[h.2.1,hn]
   simp only[Bool.and_eq_true]at hb
   have hb:=hb.1
   rw[hr,List.take_length]at hb
   simp only[numB,Bool.and_eq_true,decide_eq_true_eq]at hb
   have hall:=takeWhile_dig t
   rw[hr,List.take_length]at hall
   refine⟨hall,fun e=>?_,hb.2⟩
   ·rw[e]at hd;simp[runB]at hd
  ·simp at h
 ·rw[fT_none hd]at h
  split at h
  ·simp at h
  ·split at h
   ·simp at h
   ·split at h<;>simp at h
end Go.Proofs.YtphlnpaikpjakaaGreatDoor
