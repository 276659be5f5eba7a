/-
  Single things of programs; new memory. No program.
-/
import Derived.Test.YtfcegaklbicmfaaGreatDoorJnData
set_option linter.unusedVariables false
set_option linter.unusedSimpArgs false
namespace Go.Proofs.YtfcegaklbicmfaaGreatDoor
open Go.RowKit

structure Ex where
 k : Int
 nm : ByteArray
 n : Int
 args : Exs
 at_ : Int
def Ex.cons (x : Ex) (r : Exs) : Exs := .cons x.k x.nm x.n x.args x.at_ r
structure Cn where
 k : Int
 args : Exs
 of_ : Cds
 at_ : Int
def Cn.cons (x : Cn) (r : Cds) : Cds := .cons x.k x.args x.of_ x.at_ r
structure St where
 k : Int
 nm : ByteArray
 args : Exs
 cond : Cds
 body : Sts
 els : Sts
 at_ : Int
def St.cons (x : St) (r : Sts) : Sts := .cons x.k x.nm x.args x.cond x.body x.els x.at_ r
def stsOf : List St → Sts
 | [] => .nil
 | x :: r => x.cons (stsOf r)
theorem stsOf_len : ∀ xs, (stsOf xs).len = xs.length
 | [] => rfl
 | x :: r => by show (stsOf r).len + 1 = _; rw [stsOf_len r]; rfl
def exsOf : List Ex → Exs
 | [] => .nil
 | x :: r => x.cons (exsOf r)
theorem exsOf_len : ∀ xs, (exsOf xs).len = xs.length
 | [] => rfl
 | x :: r => by show (exsOf r).len + 1 = _; rw [exsOf_len r]; rfl
def New (L : Nat) (w : World) : Nat → Prop := fun b => L ≤ b ∧ b < w.heap.size
def NewR (L : Nat) (v : Value) (w : World) : Nat → Prop := fun b => L ≤ b ∧ b < w.heap.size ∧ v.ownBlock ≠ some b
end Go.Proofs.YtfcegaklbicmfaaGreatDoor
