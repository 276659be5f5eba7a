/-
  Plain parsing: what parse.Parse makes of tokens, of which the last one is where the text ends. No walk.
-/
import Derived.Test.YtfcegaklbicmfaaGreatDoorJnData
import Derived.Test.YtfcegaklbicmfaaGreatDoorTrItem
import Derived.Test.YtfcegaklbicmfaaGreatDoorJnTok
import Derived.Test.YtfcegaklbicmfaaGreatDoorJnLxP
set_option linter.unusedVariables false
namespace Go.Proofs.YtfcegaklbicmfaaGreatDoor
open Go.RowKit

inductive PR (α : Type) where
 | ok (a : α) (r : List Tk)
 | err (e : Int) (at_ : Int)
def PR.then {α β : Type} (x : PR α) (f : α → List Tk → PR β) : PR β := match x with | .ok a r => f a r | .err e a => .err e a
def noB : ByteArray := ⟨#[]⟩
def hdT (l : List Tk) : Tk := l.headD ⟨0, [], 0⟩
def txt (t : Tk) : ByteArray := ⟨t.text.toArray⟩
def isP (signs : List (List UInt8)) (l : List Tk) : Int := if (hdT l).kind = 2 then -1 else Lib.idxOfS (signs.map fun s => (⟨s.toArray⟩ : ByteArray)) (txt (hdT l))
def mayB (s : List UInt8) (l : List Tk) : Bool := isP [s] l == 0
theorem mk_inj {a b : List UInt8} (h : (⟨a.toArray⟩ : ByteArray) = ⟨b.toArray⟩) : a = b := by simpa using h
theorem mayB_text {s : List UInt8} {l : List Tk} (h : mayB s l = true) : (hdT l).text = s ∧ (hdT l).kind ≠ 2 := by
 unfold mayB isP at h
 split at h
 ·simp at h
 ·rename_i hk
  refine ⟨?_, hk⟩
  have h2 : 0 ≤ Lib.idxOfS ([s].map fun s => (⟨s.toArray⟩ : ByteArray)) (txt (hdT l)) := by rw [beq_iff_eq] at h; omega
  rw [Lib.idxOfS_nonneg_iff] at h2
  simp [txt] at h2
  exact h2
theorem isP_text {signs : List (List UInt8)} {l : List Tk} (h : 0 ≤ isP signs l) : (hdT l).text ∈ signs ∧ (hdT l).kind ≠ 2 := by
 unfold isP at h
 split at h
 ·omega
 ·rename_i hk
  refine ⟨?_, hk⟩
  rw [Lib.idxOfS_nonneg_iff] at h
  obtain ⟨a, ha, e⟩ := List.mem_map.1 h
  have := mk_inj e
  rw [← this]
  exact ha
def takeP (s : List UInt8) (l : List Tk) : PR Unit := if mayB s l then .ok () l.tail else .err 90 (hdT l).at_
def namedB (l : List Tk) : Bool := (hdT l).kind == 1 && nameB (hdT l).text
def withinP {α : Type} (s : List UInt8) (n : Nat) (l : List Tk) (f : Nat → List Tk → PR α) : PR α :=
 if mayB s l then (match n with | 0 => .err 91 (hdT l).at_ | n + 1 => f n l.tail) else .err 90 (hdT l).at_
def nameP (l : List Tk) : PR Va := if namedB l then .ok ⟨txt (hdT l), (hdT l).at_⟩ l.tail else .err 90 (hdT l).at_
def numberP (l : List Tk) : PR Int := if (hdT l).kind = 2 then .ok (decV (hdT l).text) l.tail else .err 90 (hdT l).at_
def chainF {α : Type} (one : List Tk → PR α) (join : Int → Int → α → α → α) (signs : List (List UInt8)) : Nat → α → List Tk → PR α
 | 0, x, l => .ok x l
 | f + 1, x, l => if isP signs l < 0 then .ok x l else (one l.tail).then fun y r => chainF one join signs f (join (isP signs l) (hdT l).at_ x y) r
def chainP {α : Type} (one : List Tk → PR α) (join : Int → Int → α → α → α) (signs : List (List UInt8)) (l : List Tk) : PR α := (one l).then fun x r => chainF one join signs r.length x r
def twoX (first : Int) (k at_ : Int) (a b : Ex) : Ex := ⟨first + k, noB, 0, a.cons (b.cons .nil), at_⟩
def mulS : List (List UInt8) := [[42], [47], [37]]
def addS : List (List UInt8) := [[43], [45]]
def shS : List (List UInt8) := [[60, 60], [62, 62]]
def exprOf (sign : List Tk → PR Ex) (l : List Tk) : PR Ex := chainP (chainP (chainP sign (twoX 7) mulS) (twoX 5) addS) (twoX 10) shS l
def signP : Nat → List Tk → PR Ex
 | n, l =>
  if mayB [45] l then (match n with
   | 0 => .err 91 (hdT l).at_
   | n + 1 => (signP n l.tail).then fun x r => .ok ⟨4, noB, 0, x.cons .nil, (hdT l).at_⟩ r)
  else if mayB [40] l then (match n with
   | 0 => .err 91 (hdT l).at_
   | n + 1 => (exprOf (signP n) l.tail).then fun x r => (takeP [41] r).then fun _ r => .ok x r)
  else if namedB l then
   if mayB [91] l.tail then (match n with
    | 0 => .err 91 (hdT l.tail).at_
    | n + 1 => (exprOf (signP n) l.tail.tail).then fun x r => (takeP [93] r).then fun _ r => .ok ⟨3, txt (hdT l), 0, x.cons .nil, (hdT l).at_⟩ r)
   else .ok ⟨2, txt (hdT l), 0, .nil, (hdT l).at_⟩ l.tail
  else (numberP l).then fun v r => .ok ⟨1, noB, v, .nil, (hdT l).at_⟩ r
def exprP (n : Nat) (l : List Tk) : PR Ex := exprOf (signP n) l
def indexP (n : Nat) (l : List Tk) : PR Ex := withinP [91] n l fun n l => (exprP n l).then fun x r => (takeP [93] r).then fun _ r => .ok x r
end Go.Proofs.YtfcegaklbicmfaaGreatDoor
