/- Plain. -/
import Derived.Test.YtfomomaomggpbaaGreatDoorLxData
import Derived.Lib.ParseIntB
import Derived.Lib.ItoaMem
set_option linter.all false
namespace Go.Proofs.YtfomomaomggpbaaGreatDoor
open Go.RowKit
def zb2 (l:List UInt8):Prop:=∀b∈l,zaD b=true
theorem zbq (b:UInt8):zaD b=true↔48<=b.toNat/\b.toNat<=57:=by simp[zaD]
def decA (acc:Nat)(l:List UInt8):Nat:=l.foldl (λn b=>n*10+(b.toNat - 48)) acc
theorem zdZ (l:List UInt8):decV l=decA 0 l:=rfl
theorem zfE:∀(l:List UInt8)(acc:Nat),acc<=decA acc l
 | [],acc=>aL _
 |b::l,acc=>by
  have:=zfE l (acc*10+(b.toNat - 48));simp only[decA,List.foldl_cons]at this ⊢;omega
theorem zb3 (b:UInt8)(l:List UInt8)(acc:Nat):decA acc (b::l)=decA (acc*10+(b.toNat - 48)) l:=by simp only[decA,List.foldl_cons]
theorem zfF (M acc:Nat)(c:UInt8)(r:List UInt8)(h:48<=c.toNat/\c.toNat<=57)(h1:¬1844674407370955162<=acc)(h2:¬M < acc*10+(c.toNat - 48)):Lib.parseUintM M acc (c::r)=Lib.parseUintM M (acc*10+(c.toNat - 48)) r:=by
 simp only[Lib.parseUintM,if_pos h,if_neg h1,if_neg h2]
theorem zfG (M acc:Nat)(c:UInt8)(r:List UInt8)(h:48<=c.toNat/\c.toNat<=57)(h1:1844674407370955162<=acc):Lib.parseUintM M acc (c::r)= .range :=by
 simp only[Lib.parseUintM,if_pos h,if_pos h1]
theorem zfH (M acc:Nat)(c:UInt8)(r:List UInt8)(h:48<=c.toNat/\c.toNat<=57)(h1:¬1844674407370955162<=acc)(h2:M < acc*10+(c.toNat - 48)):Lib.parseUintM M acc (c::r)= .range :=by
 simp only[Lib.parseUintM,if_pos h,if_neg h1,if_pos h2]
theorem zeQ (M:Nat)(hM:M < 18446744073709551620)(l:List UInt8):∀(acc:Nat),zb2 l->Lib.parseUintM M acc l=if decA acc l<=M\/l= []then .ok (decA acc l)else .range :=by
 induction l with
 |nil=>intro acc _;rw[if_pos (.inr rfl)];rfl
 |cons b l DC=>
  intro acc h;have hb:=(zbq b).1 (h b (by simp));have ih:=DC (acc*10+(b.toNat - 48)) (λc hc=>h c (by simp[hc]));have G9:=zfE l (acc*10+(b.toNat - 48));rw[zb3];by_cases h1:1844674407370955162<=acc
  ·have h9:¬decA (acc*10+(b.toNat - 48)) l<=M:=by omega
   rw[zfG _ _ _ _ hb h1,if_neg (by simp only[reduceCtorEq,or_false];exact h9)]
  ·by_cases h2:M < acc*10+(b.toNat - 48)
   ·have h9:¬decA (acc*10+(b.toNat - 48)) l<=M:=by omega
    rw[zfH _ _ _ _ hb h1 h2,if_neg (by simp only[reduceCtorEq,or_false];exact h9)]
   ·rw[zfF _ _ _ _ hb h1 h2,ih];by_cases h3:l= []
    ·subst h3;rw[if_pos (.inr rfl),if_pos (.inl (Nat.le_of_not_lt h2))]
    ·by_cases h4:decA (acc*10+(b.toNat - 48)) l<=M
     ·rw[if_pos (.inl h4),if_pos (.inl h4)]
     ·rw[if_neg (by rintro(h|h);exact h4 h;exact h3 h),if_neg (by simp only[reduceCtorEq,or_false];exact h4)]
theorem zdy (l:List UInt8)(h:zb2 l)(hl:l≠ []):Lib.parseIntB 64 l=if decV l<=9223372036854775807 then .ok (decV l:Int)else .range :=by
 match l,hl with
 |b::r,_=>
  have hb:=(zbq b).1 (h b (by simp));have hM:=zeQ 18446744073709551615 (by omega) (b::r) 0 h;have e:¬(b.toNat=43\/b.toNat=45):=by omega
  have e2:¬b.toNat=45:=by omega
  unfold Lib.parseIntB Lib.parseUintB;simp only[if_neg e];rw[if_neg (by simp),show(2 ^ 64 - 1:Nat)=18446744073709551615 from rfl,hM,zdZ];by_cases h1:decA 0 (b::r)<=18446744073709551615
  ·rw[if_pos (.inl h1)];simp only[e2,not_false_eq_true,true_and,false_and,if_false];by_cases h2:decA 0 (b::r)<=9223372036854775807
   ·rw[if_pos h2,if_neg (by omega)]
   ·rw[if_neg h2,if_pos (by omega)]
  ·rw[if_neg (by simp only[reduceCtorEq,or_false];exact h1)];simp only;rw[if_neg (by omega)]
theorem zeY:∀(l:List UInt8)(b:UInt8)(acc:Nat),decA acc (l++ [b])=decA acc l*10+(b.toNat - 48)
 | [],b,acc=>rfl
 |a::l,b,acc=>by simp only[List.cons_append,zb3];exact zeY l b _
theorem zgj:∀(n:Nat)(l:List UInt8),l.length=n+1->zb2 l->(n=0\/l.head?≠some 48)->Lib.decDigits (decV l)=l:=by
 intro n
 induction n with
 |zero=>
  intro l hl h _
  match l,hl with
  | [b],_=>
   have hb:=(zbq b).1 (h b (by simp));rw[zdZ,zb3];simp only[decA,List.foldl_nil];rw[Lib.decDigits_one (by omega)]
   congr 1
   apply UInt8.toNat.inj;simp;omega
 |succ n ih=>
  intro l hl h hh;obtain⟨m,b,rfl⟩:∃m b,l=m++ [b]:=⟨l.dropLast,l.getLast (by intro e;simp[e]at hl),(List.dropLast_concat_getLast _).symm⟩;have hb:=(zbq b).1 (h b (by simp));have hm:m.length=n+1:=by simpa using hl
  have js:zb2 m:=λc hc=>h c (by simp[hc]);have jt:m.head?≠some 48:=by
   rcases hh with hh|hh
   ·omega
   ·cases m with
    |nil=>simp at hm
    |cons c r=>simpa using hh
  have e:=ih m hm js (.inr jt);have Lb:0 < decV m:=by
   match m,hm with
   |c::r,_=>
    have hc:=(zbq c).1 (js c (by simp));have:c≠48:=λe=>jt (by simp[e]);have K4:c.toNat≠48:=λe=>this (UInt8.toNat.inj (by simpa using e));have:=zfE r (0*10+(c.toNat - 48));rw[zdZ,zb3];omega
  have hv:decV (m++ [b])=decV m*10+(b.toNat - 48):=by rw[zdZ,zeY,zdZ]
  rw[hv,Lib.decDigits,dif_neg (by omega),show(decV m*10+(b.toNat - 48)) / 10=decV m from by omega,show(decV m*10+(b.toNat - 48)) % 10=b.toNat - 48 from by omega,e]
  congr 1
  congr 1
  apply UInt8.toNat.inj;simp;omega
theorem zeR:∀(u:Nat),0 < u->(Lib.decDigits u).head? ≠some 48:=by
 intro u
 induction u using Nat.strongRecOn with
 |_ u ih=>
  intro hu;rw[Lib.decDigits];by_cases h:u < 10
  ·rw[dif_pos h];simp only[List.head?_cons,ne_eq,Option.some.injEq];intro e;have:=congrArg UInt8.toNat e;simp at this;omega
  ·rw[dif_neg h];have:=ih (u / 10) (by omega) (by omega);cases hd:Lib.decDigits (u / 10)with
   |nil=>rw[Lib.decDigits]at hd;split at hd<;>simp at hd
   |cons a r=>rw[hd]at this;simpa using this
theorem zjW (l:List UInt8)(h:zb2 l)(hl:l≠ []):(Lib.itoa (decV l:Int)==l)=(l.length==1 || !(l.head?==some 48)):=by
 rw[Lib.itoa_nonneg,Bool.eq_iff_iff];simp only[beq_iff_eq,Bool.or_eq_true,Bool.not_eq_true',beq_eq_false_iff_ne];constructor
 ·intro e;by_cases h0:decV l=0
  ·left
   rw[h0,Lib.decDigits_one (by omega)]at e;rw[<-e];rfl
  ·right
   rw[<-e];exact zeR _ (by omega)
 ·intro e;have hlen:l.length=(l.length - 1)+1:=by
   have:0 < l.length:=List.length_pos_iff.2 hl;omega
  refine zgj (l.length - 1) l hlen h ?_;rcases e with e|e
  ·exact .inl (by omega)
  ·exact .inr e
theorem zcJ (l:List UInt8):zb2 (l.take (runB zaD l)):=by
 induction l with
 |nil=>intro b hb;simp[runB]at hb
 |cons a r ih=>
  intro b hb;by_cases ha:zaD a=true
  ·simp only[runB,List.takeWhile,ha,List.length_cons,List.take_succ_cons,List.mem_cons]at hb;rcases hb with rfl|hb
   ·exact ha
   ·exact ih b hb
  ·simp only[Bool.not_eq_true]at ha;rw[zjR ha]at hb;simp at hb
theorem zgk (p:UInt8->Bool)(l:List UInt8)(n:Nat):runB p (l.take n)=min n (runB p l):=by
 induction l generalizing n with
 |nil=>simp[runB]
 |cons a r ih=>
  cases n with
  |zero=>simp[runB]
  |succ n=>
   cases hp:p a with
   |false=>simp[runB,List.takeWhile,hp]
   |true=>
    have:=ih n;simp only[runB]at this;simp only[runB,List.take_succ_cons,List.takeWhile,hp,List.length_cons,this];omega
theorem zhY (p:UInt8->Bool)(l r:List UInt8)(b:UInt8)(hb:p b=false):runB p (l++b::r)=runB p l:=by
 induction l with
 |nil=>simp[runB,List.takeWhile,hb]
 |cons a l ih=>
  cases hp:p a with
  |false=>simp[runB,List.takeWhile,hp]
  |true=>simp only[runB]at ih;simp[runB,List.takeWhile,hp,ih]
theorem zhZ {l:List UInt8}(h:0 < runB zaD l):zap l=if(numB (l.take (runB zaD l))&& !decide (runB zaD l < runB isWd l))=true then(2,runB zaD l,0)else(0,0,81):=by
 unfold zap;rw[if_pos h]
theorem zfI {l:List UInt8}(h:¬0 < runB zaD l):zap l=if 16 < runB isWd l then((0:Int),0,(82:Int))else if 0 < runB isWd l then((1:Int),runB isWd l,(0:Int))else match signL.find? (λx=>x.isPrefixOf l)with|some x=>((3:Int),x.length,(0:Int))|none=>((0:Int),0,(80:Int)):=by
 unfold zap;rw[if_neg h];rfl
theorem zjX:∀s∈signL,zap s=(3,s.length,0):=by decide+kernel
theorem zmm (r:List UInt8):∀s∈signL,zap (s++32::r)=(3,s.length,0):=by
 intro s hs;simp only[signL,List.mem_cons,List.not_mem_nil,or_false]at hs;rcases hs with rfl|rfl|rfl|rfl|rfl|rfl|rfl|rfl|rfl|rfl|rfl|rfl|rfl|rfl|rfl|rfl|rfl|rfl|rfl|rfl|rfl|rfl|rfl|rfl|rfl<;>rfl
theorem zpH {l:List UInt8}{k:Int}{n:Nat}(h:zap l=(k,n,0)):zap (l.take n)=(k,n,0)/\∀r,zap (l.take n++32::r)=(k,n,0):=by
 have hle:=zcH (l:=l);rw[h]at hle;simp only at hle;have hD:=zgk zaD l n;have hW:=zgk isWd l n;have YJ:=λr=>zhY zaD (l.take n) r 32 (by decide);have ju:=λr=>zhY isWd (l.take n) r 32 (by decide);have Mu:∀r,(l.take n++32::r).take n=l.take n:=λr=>by
  rw[List.take_append_of_le_length (by rw[List.length_take];omega),List.take_take,Nat.min_self]
 have qB:(l.take n).take n=l.take n:=by rw[List.take_take,Nat.min_self]
 by_cases hd:0 < runB zaD l
 ·rw[zhZ hd]at h;split at h
  ·rename_i hb;simp only[Prod.mk.injEq]at h;obtain⟨hk,hn,_⟩:=h;rw[hn]at hb hD hd;rw[Nat.min_self]at hD;simp only[Bool.and_eq_true,Bool.not_eq_true',decide_eq_false_iff_not]at hb;have e1:decide (n < min n (runB isWd l))=false:=by simp;omega
   refine⟨?_,λr=>?_⟩
   ·rw[zhZ (by rw[hD];exact hd),hD,hW,qB,hb.1,e1,<-hk];rfl
   ·rw[zhZ (by rw[YJ,hD];exact hd),YJ,hD,ju,hW,Mu,hb.1,e1,<-hk];rfl
  ·simp at h
 ·have h0:runB zaD l=0:=by omega
  rw[h0,Nat.min_zero]at hD;rw[zfI hd]at h;split at h
  ·simp at h
  ·rename_i YK;split at h
   ·rename_i hp;simp only[Prod.mk.injEq]at h;obtain⟨hk,hn,_⟩:=h;rw[hn]at YK hp hW;rw[Nat.min_self]at hW;refine⟨?_,λr=>?_⟩
    ·rw[zfI (by rw[hD];omega),hW,if_neg YK,if_pos hp,<-hk]
    ·rw[zfI (by rw[YJ,hD];omega),ju,hW,if_neg YK,if_pos hp,<-hk]
   ·split at h
    ·rename_i s hs;simp only[Prod.mk.injEq]at h;obtain⟨hk,hn,_⟩:=h;have hm:=List.mem_of_find?_eq_some hs;have YL:=List.find?_some hs;have YL:=List.isPrefixOf_iff_prefix.1 YL;have he:l.take n=s:=by rw[<-hn];exact(List.prefix_iff_eq_take.1 YL).symm
     rw[he,<-hk,<-hn];exact⟨zjX s hm,λr=>zmm r s hm⟩
    ·simp at h
def Lies (s:List UInt8):Nat->List Tk->Prop
 |p, []=>runB zbv (s.drop p)=(s.drop p).length /\p<=s.length
 |p,t::r=>p<=t.at_/\t.at_+t.text.length<=s.length/\0 < t.text.length/\(s.drop t.at_).take t.text.length=t.text/\t.at_ - p<=runB zbv (s.drop p)/\zap t.text=(t.kind,t.text.length,0)/\Lies s (t.at_+t.text.length) r
theorem zjY:∀(f:Nat)(s:List UInt8)(p:Nat),p<=s.length->s.length - p < f->(za8 f (s.drop p) p).2.2 =0->Lies s p (za8 f (s.drop p) p).1
 |0,_,_,_,h,_=>absurd h (by omega)
 |f+1,s,p,hp,hf,he=>by
  obtain⟨b,hb⟩:=aF (runB zbv (s.drop p));have JS:=zb0 zbv (s.drop p);rw[<-hb,List.length_drop]at JS;rw[za8]at he ⊢;simp only[<-hb,List.drop_drop]at he ⊢;by_cases h0:(s.drop (p+b)).length =0
  ·rw[if_pos h0];rw[List.length_drop]at h0;exact⟨by rw[<-hb,List.length_drop];omega,hp⟩
  ·rw[if_neg h0]at he ⊢;obtain⟨⟨k,n,e⟩,hq⟩:=aF (zap (s.drop (p+b)));rw[<-hq]at he ⊢;simp only at he ⊢;by_cases h1:e=0
   ·subst h1;rw[if_pos rfl]at he ⊢;have hn:=zcf (l:=s.drop (p+b)) (by rw[<-hq]);have hle:=zcH (l:=s.drop (p+b));rw[<-hq]at hn hle;simp only[List.length_drop]at hn hle;have Ha:=(zpH hq.symm).1;have hlen:((s.drop (p+b)).take n).length =n:=by rw[List.length_take,List.length_drop];omega
    by_cases h2:(za8 f (s.drop (p+b+n)) (p+b+n)).2.2 =0
    ·rw[if_pos h2];have ih:=zjY f s (p+b+n) (by omega) (by omega) h2;refine⟨by simp only;omega,by simp only[hlen];omega,by simp only[hlen];exact hn,by simp only[hlen],by simp only[<-hb];omega,by simp only[hlen];exact Ha,by simp only[hlen];exact ih⟩
    ·rw[if_neg h2]at he;exact absurd he h2
   ·rw[if_neg h1]at he;exact absurd he h1
theorem zgl {s:List UInt8}(h:(toks s).2.2 =0):Lies s 0 (toks s).1 /\s.length<=4096:=by
 unfold toks at h ⊢;by_cases hl:4096 < s.length
 ·rw[if_pos hl]at h;simp at h
 ·rw[if_neg hl]at h ⊢;refine⟨?_,by omega⟩;have:=zjY (s.length+1) s 0 (Nat.zero_le _) (by omega);rw[List.drop_zero]at this;exact this h
theorem Lies.each {s:List UInt8}:∀ {ts:List Tk} {p:Nat},Lies s p ts->∀t∈ts,zap t.text=(t.kind,t.text.length,0)
 | [],_,_,t,ht=>by simp at ht
 |a::r,p,h,t,ht=>by
  obtain⟨_,_,_,_,_,h6,h7⟩:=h;rcases List.mem_cons.1 ht with rfl|ht
  ·exact h6
  ·exact Lies.each h7 t ht
theorem zeS (acc:Nat)(c:UInt8)(r:List UInt8)(h:48<=c.toNat/\c.toNat<=57)(h1:acc*10+(c.toNat - 48) < 18446744073709551616):Lib.parseUint10 acc (c::r)=Lib.parseUint10 (acc*10+(c.toNat - 48)) r:=by
 simp only[Lib.parseUint10,if_pos h];rw[if_neg (by omega),if_neg (by omega)]
theorem zd0 (l:List UInt8):∀(acc:Nat),zb2 l->decA acc l<=9223372036854775807->Lib.parseUint10 acc l= .ok (decA acc l):=by
 induction l with
 |nil=>intro acc _ _;rfl
 |cons b l ih=>
  intro acc h hd;have hb:=(zbq b).1 (h b (by simp));rw[zb3]at hd ⊢;have G9:=zfE l (acc*10+(b.toNat - 48));rw[zeS _ _ _ hb (by omega)];exact ih _ (λc hc=>h c (by simp[hc])) hd
theorem zmn (l:List UInt8)(h:zb2 l)(hl:l≠ [])(hd:decV l<=9223372036854775807):Lib.atoiAll l= .ok (decV l:Int):=by
 match l,hl with
 |b::r,_=>
  have hb:=(zbq b).1 (h b (by simp));have e:¬(b.toNat=43\/b.toNat=45):=by omega
  have e2:¬b.toNat=45:=by omega
  have hp:=zd0 (b::r) 0 h (by rw[<-zdZ];exact hd);unfold Lib.atoiAll Lib.parseMag;simp only[if_neg e];rw[if_neg (by simp),hp,<-zdZ];simp only[e2,not_false_eq_true,true_and,false_and,if_false];rw[if_neg (by omega)]
theorem zgm {t:List UInt8}{n:Nat}(h:zap t=(2,n,0))(hn:n=t.length):zb2 t/\t≠ []/\decV t<=9223372036854775807:=by
 by_cases hd:0 < runB zaD t
 ·rw[zhZ hd]at h;split at h
  ·rename_i hb;simp only[Prod.mk.injEq]at h;have hr:runB zaD t=t.length:=by rw[h.2.1,hn]
   simp only[Bool.and_eq_true]at hb;have hb:=hb.1;rw[hr,List.take_length]at hb;simp only[numB,Bool.and_eq_true,decide_eq_true_eq]at hb;have Hb:=zcJ t;rw[hr,List.take_length]at Hb;refine⟨Hb,λe=>?_,hb.2⟩
   ·rw[e]at hd;simp[runB]at hd
  ·simp at h
 ·rw[zfI hd]at h;split at h
  ·simp at h
  ·split at h
   ·simp at h
   ·split at h<;>simp at h
