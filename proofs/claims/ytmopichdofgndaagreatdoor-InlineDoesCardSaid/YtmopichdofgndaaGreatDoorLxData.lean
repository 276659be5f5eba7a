/-
  Plain data of texts: tokens; what a text's tokens are, or the error, and where. No program.
-/
import Derived.Test.YtmopichdofgndaaGreatDoorJgData
namespace Go.Proofs.YtmopichdofgndaaGreatDoor
open Go.RowKit

def isLet (b:UInt8):Bool:=(decide (97≤b.toNat)&&decide (b.toNat≤122)) || (decide (65≤b.toNat)&&decide (b.toNat≤90)) || b.toNat==95
def isDig (b:UInt8):Bool:=decide (48≤b.toNat)&&decide (b.toNat≤57)
def isWd (b:UInt8):Bool:=isLet b || isDig b
def runB (p:UInt8→Bool) (l:List UInt8):Nat:=(l.takeWhile p).length
def bytes (s:String):List UInt8:=s.toUTF8.data.toList

theorem runB_le (p:UInt8→Bool) (l:List UInt8):runB p l≤l.length:=by
 unfold runB;exact List.Sublist.length_le (List.takeWhile_sublist p)
theorem runB_step {p:UInt8→Bool} {l:List UInt8} {i:Nat} {b:UInt8} (hb:l[i]?=some b) (hp:p b=true) (h:i≤runB p l):i+1≤runB p l:=by
 induction l generalizing i with
 |nil=>simp at hb
 |cons a r ih=>
  cases i with
  |zero=>
   simp at hb;subst hb
   simp[runB,List.takeWhile,hp]
  |succ i=>
   simp at hb
   by_cases ha:p a=true
   ·simp only[runB,List.takeWhile,ha,List.length_cons]at h ⊢
    have:=ih hb (by unfold runB;omega)
    unfold runB at this;omega
   ·simp[runB,List.takeWhile,ha]at h
theorem runB_stop {p:UInt8→Bool} {l:List UInt8} {i:Nat} {b:UInt8} (hb:l[i]?=some b) (hp:p b=false) (h:i≤runB p l):runB p l=i:=by
 induction l generalizing i with
 |nil=>simp at hb
 |cons a r ih=>
  cases i with
  |zero=>
   simp at hb;subst hb
   simp[runB,List.takeWhile,hp]
  |succ i=>
   simp at hb
   by_cases ha:p a=true
   ·simp only[runB,List.takeWhile,ha,List.length_cons]at h ⊢
    have:=ih hb (by unfold runB;omega)
    unfold runB at this;omega
   ·simp[runB,List.takeWhile,ha]at h
theorem getsL:(∀ {α:Type} {l:List α} {i:Nat},l.toArray[i]?=l[i]?)∧(∀ {α:Type} {a:α} {l:List α} {i:Nat},(a::l)[i+1]?=l[i]?)∧(∀ {α:Type} {a:α} {l:List α},(a::l)[0]?=some a):=
 ⟨List.getElem?_toArray,List.getElem?_cons_succ,List.getElem?_cons_zero⟩
theorem putsL:(∀(a:Act) (v:Value),a.put none v=a)∧(∀(a:Act) (d:Nat) (v:Value),a.put (some d) v={a with tmps:=a.tmps.setIfInBounds d v})∧(∀ {α:Type} (l:List α) (i:Nat) (x:α),l.toArray.setIfInBounds i x=(l.set i x).toArray)∧(∀ {α:Type} {a b:α} {l:List α},(a::l).set 0 b=b::l)∧(∀ {α:Type} {a b:α} {l:List α} {i:Nat},(a::l).set (i+1) b=a::l.set i b):=
 ⟨fun _ _=>rfl,fun _ _ _=>rfl,fun _ _ _=>List.setIfInBounds_toArray ..,List.set_cons_zero,List.set_cons_succ⟩
theorem size_len (s:ByteArray):s.data.toList.length=s.size:=by simp
theorem tx_eq {tx:ByteArray} {l:List UInt8} (h:tx.data.toList=l):tx=⟨l.toArray⟩:=by
 subst h
 rfl
end Go.Proofs.YtmopichdofgndaaGreatDoor
