/-
  A region that draws its order, whose callees make memory: one walk of the text's order, in ANY world that meets a given word (Deep/Quiet.lean's theorem, at a class of my own).
-/
import Derived.Test.YtknckiblofochaaDoorBase
import Derived.BigQuiet
namespace Go.Proofs.YtknckiblofochaaDoor
open Go.RowKit

/-- a world that meets S -/
structure HeldW (S : World → Prop) where
  w : World
  h : S w
theorem wp_region_held {P : Program} {id : Nat} {Q : Exit → Act → World → Prop} {a : Act} {w : World} {l : List Oper} (S : World → Prop) (hS : S w.drew) (hm : P.follows .mixedOrders = true) (hB : Region.lexB .any l.toArray = true)
    (h : wpQuiet P l.toArray (fun w' => ∃ z : HeldW S, w' = z.w) (fun a' => ∀ w', (∃ z : HeldW S, w' = z.w) → Q .normal a' w') l a) : (Code.region id l.toArray true).wp P Q a w :=
  wp_region_quiet (C := fun w' => ∃ z : HeldW S, w' = z.w) hm hB ⟨⟨w.drew, hS⟩, rfl⟩ (by simpa using h)
theorem held_call {P : Program} {f : FuncId} {args : Array Value} {S : World → Prop} {z : HeldW S} {v : Value} (h : ∀ W, S W → Calls P f args W fun e w' => e = .returned v ∧ S w') :
    Calls P f args z.w fun e w'' => e = .returned v ∧ ∃ z' : HeldW S, w'' = z'.w :=
  (h z.w z.h).mono fun _ w'' ⟨he, hs⟩ => ⟨he, ⟨w'', hs⟩, rfl⟩
end Go.Proofs.YtknckiblofochaaDoor
