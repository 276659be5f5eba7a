/- Plain. -/
import Derived.Test.YtfomomaomggpbaaGreatDoorJnData
namespace Go.Proofs.YtfomomaomggpbaaGreatDoor
open Go.RowKit
structure Tk where
 kind:Int
 text:List UInt8
 at_:Nat
deriving DecidableEq
def zjP (b:UInt8):Bool:=(decide (97<=b.toNat)&&decide (b.toNat<=122)) || (decide (65<=b.toNat)&&decide (b.toNat<=90)) || b.toNat==95
def zaD (b:UInt8):Bool:=decide (48<=b.toNat)&&decide (b.toNat<=57)
def isWd (b:UInt8):Bool:=zjP b || zaD b
def zbv (b:UInt8):Bool:=b.toNat==32 || b.toNat==9 || b.toNat==10 || b.toNat==13
def runB (p:UInt8->Bool)(l:List UInt8):Nat:=(l.takeWhile p).length
def bytes (s:String):List UInt8:=s.toUTF8.data.toList
def signL:List (List UInt8):= [[60,60], [62,62], [60,61], [62,61], [61,61], [33,61], [38,38], [124,124], [40], [41], [123], [125], [91], [93], [59], [44], [61], [60], [62], [43], [45], [42], [47], [37], [33]]
def decV (l:List UInt8):Nat:=l.foldl (λn b=>n*10+(b.toNat - 48)) 0
def numB (l:List UInt8):Bool:=(l.length==1 || !(l.head?==some 48))&&decide (decV l<=9223372036854775807)
def zap (l:List UInt8):Int×Nat×Int:=
 if 0 < runB zaD l then
  if numB (l.take (runB zaD l))&& !decide (runB zaD l < runB isWd l)then(2,runB zaD l,0)else(0,0,81)
 else if 16 < runB isWd l then(0,0,82)
 else if 0 < runB isWd l then(1,runB isWd l,0)
 else match signL.find? (λs=>s.isPrefixOf l)with
  |some s=>(3,s.length,0)
  |none=>(0,0,80)
def za8:Nat->List UInt8->Nat->List Tk×Nat×Int
 |0,_,_=>([],0,0)
 |f+1,l,at_=>
  let b:=runB zbv l
  if(l.drop b).length =0 then([],0,0)
  else
   let t:=zap (l.drop b)
   if t.2.2=0 then
    let r:=za8 f ((l.drop b).drop t.2.1) (at_+b+t.2.1)
    if r.2.2=0 then({kind:=t.1,text:=(l.drop b).take t.2.1,at_:=at_+b}::r.1,0,0)else r
   else([],at_+b,t.2.2)
def toks (l:List UInt8):List Tk×Nat×Int:=if 4096 < l.length then([],0,3)else za8 (l.length+1) l 0
theorem zb0 (p:UInt8->Bool)(l:List UInt8):runB p l<=l.length:=by
 unfold runB;exact List.Sublist.length_le (List.takeWhile_sublist p)
theorem zjQ {p:UInt8->Bool}{l:List UInt8}{i:Nat}{b:UInt8}(hb:l[i]?=some b)(hp:p b=true)(h:i<=runB p l):i+1<=runB p l:=by
 induction l generalizing i with
 |nil=>simp at hb
 |cons a r ih=>
  cases i with
  |zero=>
   simp at hb;subst hb;simp[runB,List.takeWhile,hp]
  |succ i=>
   simp at hb;by_cases ha:p a=true
   ·simp only[runB,List.takeWhile,ha,List.length_cons]at h ⊢;have:=ih hb (by unfold runB;omega);unfold runB at this;omega
   ·simp[runB,List.takeWhile,ha]at h
theorem zgi {p:UInt8->Bool}{l:List UInt8}{i:Nat}{b:UInt8}(hb:l[i]?=some b)(hp:p b=false)(h:i<=runB p l):runB p l=i:=by
 induction l generalizing i with
 |nil=>simp at hb
 |cons a r ih=>
  cases i with
  |zero=>
   simp at hb;subst hb;simp[runB,List.takeWhile,hp]
  |succ i=>
   simp at hb;by_cases ha:p a=true
   ·simp only[runB,List.takeWhile,ha,List.length_cons]at h ⊢;have:=ih hb (by unfold runB;omega);unfold runB at this;omega
   ·simp[runB,List.takeWhile,ha]at h
theorem zjR {p:UInt8->Bool}{b:UInt8}{l:List UInt8}(h:p b=false):runB p (b::l)=0:=by simp[runB,List.takeWhile,h]
theorem zcf {l:List UInt8}(h:(zap l).2.2 =0):0 < (zap l).2.1 :=by
 unfold zap at h ⊢;split
 ·split
  ·assumption
  ·simp_all
 ·split
  ·simp_all
  ·split
   ·assumption
   ·split
    ·rename_i s hs;have:=List.mem_of_find?_eq_some hs;simp only[signL,List.mem_cons,List.not_mem_nil,or_false]at this;rcases this with rfl|rfl|rfl|rfl|rfl|rfl|rfl|rfl|rfl|rfl|rfl|rfl|rfl|rfl|rfl|rfl|rfl|rfl|rfl|rfl|rfl|rfl|rfl|rfl|rfl<;>simp
    ·simp_all
theorem zcH {l:List UInt8}:(zap l).2.1 <=l.length:=by
 unfold zap;split
 ·split
  ·exact zb0 _ _
  ·exact Nat.zero_le _
 ·split
  ·exact Nat.zero_le _
  ·split
   ·exact zb0 _ _
   ·split
    ·rename_i s hs;have:=List.find?_some hs;exact(List.isPrefixOf_iff_prefix.1 this).length_le
    ·exact Nat.zero_le _
theorem zeW:∀(f g:Nat)(l:List UInt8)(at_:Nat),l.length < f->l.length < g->za8 f l at_=za8 g l at_
 |0,_,_,_,h,_=>absurd h (by omega)
 |_,0,_,_,_,h=>absurd h (by omega)
 |f+1,g+1,l,at_,hf,hg=>by
  simp only[za8];by_cases h0:(l.drop (runB zbv l)).length =0
  ·rw[if_pos h0,if_pos h0]
  ·rw[if_neg h0,if_neg h0];by_cases h1:(zap (l.drop (runB zbv l))).2.2 =0
   ·rw[if_pos h1,if_pos h1];have hp:=zcf h1;have hl:((l.drop (runB zbv l)).drop (zap (l.drop (runB zbv l))).2.1).length < l.length:=by
     simp only[List.length_drop]at h0 ⊢;omega
    rw[zeW f g _ _ (by omega) (by omega)]
   ·rw[if_neg h1,if_neg h1]
theorem aD:(∀ {α:Type} {l:List α} {i:Nat},l.toArray[i]?=l[i]?)/\(∀ {α:Type} {a:α} {l:List α} {i:Nat},(a::l)[i+1]?=l[i]?)/\(∀ {α:Type} {a:α} {l:List α},(a::l)[0]?=some a):=
 ⟨List.getElem?_toArray,List.getElem?_cons_succ,List.getElem?_cons_zero⟩
theorem aB:(∀(a:Act)(v:Value),a.put none v=a)/\(∀(a:Act)(d:Nat)(v:Value),a.put (some d) v={a with tmps:=a.tmps.setIfInBounds d v})/\(∀ {α:Type} (l:List α) (i:Nat) (x:α),l.toArray.setIfInBounds i x=(l.set i x).toArray)/\(∀ {α:Type} {a b:α} {l:List α},(a::l).set 0 b=b::l)/\(∀ {α:Type} {a b:α} {l:List α} {i:Nat},(a::l).set (i+1) b=a::l.set i b):=
 ⟨λ_ _=>rfl,λ_ _ _=>rfl,λ_ _ _=>List.setIfInBounds_toArray ..,List.set_cons_zero,List.set_cons_succ⟩
theorem zbQ (s:ByteArray):s.data.toList.length=s.size:=by simp
theorem zpD {tx:ByteArray}{l:List UInt8}(h:tx.data.toList=l):tx=⟨l.toArray⟩:=by
 subst h;rfl
