/- Plain data of texts: tokens; what a text's tokens are, or the error, and where. -/
import Derived.Test.YtmopichdofgndaaGreatDoorJnData
namespace Go.Proofs.YtmopichdofgndaaGreatDoor
open Go.RowKit
structure Tk where
 kind:Int
 text:List UInt8
 at_:Nat
deriving DecidableEq
def zea (b:UInt8):Bool:=(decide (97<=b.toNat)&&decide (b.toNat<=122)) || (decide (65<=b.toNat)&&decide (b.toNat<=90)) || b.toNat==95
def zbz (b:UInt8):Bool:=decide (48<=b.toNat)&&decide (b.toNat<=57)
def isWd (b:UInt8):Bool:=zea b || zbz b
def runB (p:UInt8->Bool)(l:List UInt8):Nat:=(l.takeWhile p).length
def bytes (s:String):List UInt8:=s.toUTF8.data.toList
def signL:List (List UInt8):= [[60,60], [62,62], [60,61], [62,61], [61,61], [33,61], [38,38], [124,124], [40], [41], [123], [125], [91], [93], [59], [44], [61], [60], [62], [43], [45], [42], [47], [37], [33]]
def decV (l:List UInt8):Nat:=l.foldl (λn b=>n*10+(b.toNat - 48)) 0
def numB (l:List UInt8):Bool:=(l.length==1 || !(l.head?==some 48))&&decide (decV l<=9223372036854775807)
def ziB (l:List UInt8):Int×Nat×Int:=
 if 0 < runB zbz l then
  if numB (l.take (runB zbz l))&& !decide (runB zbz l < runB isWd l)then(2,runB zbz l,0)else(0,0,81)
 else if 16 < runB isWd l then(0,0,82)
 else if 0 < runB isWd l then(1,runB isWd l,0)
 else match signL.find? (λs=>s.isPrefixOf l)with
  |some s=>(3,s.length,0)
  |none=>(0,0,80)
theorem zgm (p:UInt8->Bool)(l:List UInt8):runB p l<=l.length:=by
 unfold runB;exact List.Sublist.length_le (List.takeWhile_sublist p)
theorem zdm {p:UInt8->Bool}{l:List UInt8}{i:Nat}{b:UInt8}(hb:l[i]?=some b)(hp:p b=true)(h:i<=runB p l):i+1<=runB p l:=by
 induction l generalizing i with
 |nil=>simp at hb
 |cons a r ih=>
  cases i with
  |zero=>
   simp at hb;subst hb;simp[runB,List.takeWhile,hp]
  |succ i=>
   simp at hb;by_cases ha:p a=true
   ·simp only[runB,List.takeWhile,ha,List.length_cons]at h ⊢;have:=ih hb (by unfold runB;omega);unfold runB at this;omega
   ·simp[runB,List.takeWhile,ha]at h
theorem zco {p:UInt8->Bool}{l:List UInt8}{i:Nat}{b:UInt8}(hb:l[i]?=some b)(hp:p b=false)(h:i<=runB p l):runB p l=i:=by
 induction l generalizing i with
 |nil=>simp at hb
 |cons a r ih=>
  cases i with
  |zero=>
   simp at hb;subst hb;simp[runB,List.takeWhile,hp]
  |succ i=>
   simp at hb;by_cases ha:p a=true
   ·simp only[runB,List.takeWhile,ha,List.length_cons]at h ⊢;have:=ih hb (by unfold runB;omega);unfold runB at this;omega
   ·simp[runB,List.takeWhile,ha]at h
theorem getsL:(∀ {α:Type} {l:List α} {i:Nat},l.toArray[i]?=l[i]?)/\(∀ {α:Type} {a:α} {l:List α} {i:Nat},(a::l)[i+1]?=l[i]?)/\(∀ {α:Type} {a:α} {l:List α},(a::l)[0]?=some a):=
 ⟨List.getElem?_toArray,List.getElem?_cons_succ,List.getElem?_cons_zero⟩
theorem putsL:(∀(a:Act)(v:Value),a.put none v=a)/\(∀(a:Act)(d:Nat)(v:Value),a.put (some d) v={a with tmps:=a.tmps.setIfInBounds d v})/\(∀ {α:Type} (l:List α) (i:Nat) (x:α),l.toArray.setIfInBounds i x=(l.set i x).toArray)/\(∀ {α:Type} {a b:α} {l:List α},(a::l).set 0 b=b::l)/\(∀ {α:Type} {a b:α} {l:List α} {i:Nat},(a::l).set (i+1) b=a::l.set i b):=
 ⟨λ_ _=>rfl,λ_ _ _=>rfl,λ_ _ _=>List.setIfInBounds_toArray ..,List.set_cons_zero,List.set_cons_succ⟩
theorem zbl (s:ByteArray):s.data.toList.length=s.size:=by simp
theorem tx_eq {tx:ByteArray}{l:List UInt8}(h:tx.data.toList=l):tx=⟨l.toArray⟩:=by
 subst h;rfl
