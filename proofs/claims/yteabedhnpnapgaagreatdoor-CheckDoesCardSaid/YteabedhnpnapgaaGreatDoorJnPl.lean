/-
  When trees are the same, place for place or but for places. No program.
-/
import Derived.Test.YteabedhnpnapgaaGreatDoorTrBare
namespace Go.Proofs.YteabedhnpnapgaaGreatDoor
open Go.RowKit
set_option linter.unusedVariables false
set_option linter.unusedSimpArgs false

def eqX (p : Bool) : Exs → Exs → Bool
  | .nil, .nil => true
  | .cons k nm n args at_ rest, .cons k' nm' n' args' at' rest' => (k == k') && (nm.toList == nm'.toList) && (n == n') && (!p || at_ == at') && eqX p args args' && eqX p rest rest'
  | _, _ => false
def eqC (p : Bool) : Cds → Cds → Bool
  | .nil, .nil => true
  | .cons k args of_ at_ rest, .cons k' args' of' at' rest' => (k == k') && (!p || at_ == at') && eqX p args args' && eqC p of_ of' && eqC p rest rest'
  | _, _ => false
def eqS (p : Bool) : Sts → Sts → Bool
  | .nil, .nil => true
  | .cons k nm args cond body els at_ rest, .cons k' nm' args' cond' body' els' at' rest' => (k == k') && (nm.toList == nm'.toList) && (!p || at_ == at') && eqX p args args' && eqC p cond cond' && eqS p body body' && eqS p els els' && eqS p rest rest'
  | _, _ => false
def eqV (p : Bool) : List Va → List Va → Bool
  | [], [] => true
  | x :: r, y :: s => (x.nm.toList == y.nm.toList) && (!p || x.at_ == y.at_) && eqV p r s
  | _, _ => false
def eqA (p : Bool) : List Arr → List Arr → Bool
  | [], [] => true
  | x :: r, y :: s => (x.nm.toList == y.nm.toList) && (x.size == y.size) && (!p || x.at_ == y.at_) && eqA p r s
  | _, _ => false
def eqP (p : Bool) : List Prc → List Prc → Bool
  | [], [] => true
  | x :: r, y :: s => (x.nm.toList == y.nm.toList) && (!p || x.at_ == y.at_) && eqV p x.params y.params && eqS p x.body y.body && eqP p r s
  | _, _ => false
def eqT (p : Bool) (t u : Tre) : Bool := eqV p t.vars u.vars && decide (t.arrays.length = u.arrays.length) && decide (t.procs.length = u.procs.length) && eqA p t.arrays u.arrays && eqP p t.procs u.procs && eqS p t.main u.main

theorem eqX_refl (p : Bool) : ∀ xs, eqX p xs xs = true
  | .nil => rfl
  | .cons k nm n args at_ rest => by simp [eqX, eqX_refl p args, eqX_refl p rest]
theorem eqC_refl (p : Bool) : ∀ xs, eqC p xs xs = true
  | .nil => rfl
  | .cons k args of_ at_ rest => by simp [eqC, eqX_refl p args, eqC_refl p of_, eqC_refl p rest]
theorem eqS_refl (p : Bool) : ∀ xs, eqS p xs xs = true
  | .nil => rfl
  | .cons k nm args cond body els at_ rest => by simp [eqS, eqX_refl p args, eqC_refl p cond, eqS_refl p body, eqS_refl p els, eqS_refl p rest]
theorem eqV_refl (p : Bool) : ∀ xs, eqV p xs xs = true
  | [] => rfl
  | x :: r => by simp [eqV, eqV_refl p r]
theorem eqA_refl (p : Bool) : ∀ xs, eqA p xs xs = true
  | [] => rfl
  | x :: r => by simp [eqA, eqA_refl p r]
theorem eqP_refl (p : Bool) : ∀ xs, eqP p xs xs = true
  | [] => rfl
  | x :: r => by simp [eqP, eqP_refl p r, eqV_refl, eqS_refl]
theorem eqT_refl (p : Bool) (t : Tre) : eqT p t t = true := by simp [eqT, eqV_refl, eqA_refl, eqP_refl, eqS_refl]

theorem eqX_bare : ∀ xs ys, eqX false xs.bare ys.bare = eqX false xs ys
  | .nil, .nil => rfl
  | .nil, .cons .. => rfl
  | .cons .., .nil => rfl
  | .cons k nm n args at_ rest, .cons k' nm' n' args' at' rest' => by simp [eqX, Exs.bare, eqX_bare args args', eqX_bare rest rest']
theorem eqC_bare : ∀ xs ys, eqC false xs.bare ys.bare = eqC false xs ys
  | .nil, .nil => rfl
  | .nil, .cons .. => rfl
  | .cons .., .nil => rfl
  | .cons k args of_ at_ rest, .cons k' args' of' at' rest' => by simp [eqC, Cds.bare, eqX_bare args args', eqC_bare of_ of', eqC_bare rest rest']
theorem eqS_bare : ∀ xs ys, eqS false xs.bare ys.bare = eqS false xs ys
  | .nil, .nil => rfl
  | .nil, .cons .. => rfl
  | .cons .., .nil => rfl
  | .cons k nm args cond body els at_ rest, .cons k' nm' args' cond' body' els' at' rest' => by simp [eqS, Sts.bare, eqX_bare args args', eqC_bare cond cond', eqS_bare body body', eqS_bare els els', eqS_bare rest rest']
theorem eqV_bare : ∀ xs ys, eqV false (xs.map Va.bare) (ys.map Va.bare) = eqV false xs ys
  | [], [] => rfl
  | [], _ :: _ => rfl
  | _ :: _, [] => rfl
  | x :: r, y :: s => by simp [eqV, Va.bare, eqV_bare r s]
theorem eqA_bare : ∀ xs ys, eqA false (xs.map Arr.bare) (ys.map Arr.bare) = eqA false xs ys
  | [], [] => rfl
  | [], _ :: _ => rfl
  | _ :: _, [] => rfl
  | x :: r, y :: s => by simp [eqA, Arr.bare, eqA_bare r s]
theorem eqP_bare : ∀ xs ys, eqP false (xs.map Prc.bare) (ys.map Prc.bare) = eqP false xs ys
  | [], [] => rfl
  | [], _ :: _ => rfl
  | _ :: _, [] => rfl
  | x :: r, y :: s => by simp [eqP, Prc.bare, eqV_bare, eqS_bare, eqP_bare r s]
theorem eqT_bare (t u : Tre) : eqT false t.bare u.bare = eqT false t u := by simp [eqT, Tre.bare, eqV_bare, eqA_bare, eqP_bare, eqS_bare]
/-- trees that are the same but for places -/
theorem eqT_alike {t u : Tre} (h : t.bare = u.bare) : eqT false t u = true := by rw [← eqT_bare, h]; exact eqT_refl _ _

theorem eqX_len {p : Bool} : ∀ {xs ys : Exs}, xs.len ≠ ys.len → eqX p xs ys = false
  | .nil, .nil, h => absurd rfl h
  | .nil, .cons .., _ => rfl
  | .cons .., .nil, _ => rfl
  | .cons _ _ _ _ _ r, .cons _ _ _ _ _ r', h => by
    have : r.len ≠ r'.len := fun e => h (by simp [Exs.len, e])
    simp [eqX, eqX_len this]
theorem eqC_len {p : Bool} : ∀ {xs ys : Cds}, xs.len ≠ ys.len → eqC p xs ys = false
  | .nil, .nil, h => absurd rfl h
  | .nil, .cons .., _ => rfl
  | .cons .., .nil, _ => rfl
  | .cons _ _ _ _ r, .cons _ _ _ _ r', h => by
    have : r.len ≠ r'.len := fun e => h (by simp [Cds.len, e])
    simp [eqC, eqC_len this]
theorem eqS_len {p : Bool} : ∀ {xs ys : Sts}, xs.len ≠ ys.len → eqS p xs ys = false
  | .nil, .nil, h => absurd rfl h
  | .nil, .cons .., _ => rfl
  | .cons .., .nil, _ => rfl
  | .cons _ _ _ _ _ _ _ r, .cons _ _ _ _ _ _ _ r', h => by
    have : r.len ≠ r'.len := fun e => h (by simp [Sts.len, e])
    simp [eqS, eqS_len this]
theorem eqV_len {p : Bool} : ∀ {xs ys : List Va}, xs.length ≠ ys.length → eqV p xs ys = false
  | [], [], h => absurd rfl h
  | [], _ :: _, _ => rfl
  | _ :: _, [], _ => rfl
  | _ :: r, _ :: s, h => by
    have : r.length ≠ s.length := fun e => h (by simp [e])
    simp [eqV, eqV_len this]
end Go.Proofs.YteabedhnpnapgaaGreatDoor
