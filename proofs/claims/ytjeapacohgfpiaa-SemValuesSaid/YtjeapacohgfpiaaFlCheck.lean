/-
  flow.Check, whole: whether a graph may be.
-/
import Derived.Test.YtjeapacohgfpiaaFlNode
namespace Go.Proofs.Ytjeapacohgfpiaa
open Go.RowKit Go.Shelf Go.Maps

/-- what a graph is in memory -/
structure GrSl (w : World) (B : Nat) (g : Gr) (Aa : Option Addr) (ca : Nat) (Ae : Option Addr) (ce : Nat) : Prop where
  arrays : IsSl w B g.arrays Aa ca
  edges : EdSl w B g.edges Ae ce
theorem GrSl.keep {w w' : World} {B : Nat} {g : Gr} {Aa : Option Addr} {ca : Nat} {Ae : Option Addr} {ce : Nat} (h : Same B w w') (hg : GrSl w B g Aa ca Ae ce) : GrSl w' B g Aa ca Ae ce :=
  ⟨hg.arrays.keep h, hg.edges.keep h⟩

/-- THE CONTRACT of flow.Check -/
theorem check_any (g : Gr) (Aa Ae : Option Addr) (ca ce B : Nat) (w : World) (hB : B ≤ w.heap.size) (hg : GrSl w B g Aa ca Ae ce) :
    Calls Try.prog 12 #[grV g.vars Aa g.arrays.length ca g.nodes g.start g.last Ae g.edges.length ce] w (ErrPost (mayG g) w) := by
  have hl := Nat.le_trans hg.edges.1 hg.edges.2.1
  have hla := Nat.le_trans hg.arrays.1 hg.arrays.2.1
  cases h1 : odd1 g.vars g.nodes g.arrays.length g.edges.length
  · cases h2 : odd2 g.nodes g.start g.last (g.arrays.any sizeBad)
    · cases h3 : g.edges.any (edBad g.vars g.arrays.length g.nodes)
      · have h2048 : g.edges.length ≤ 2048 := by
          unfold odd1 at h1
          simp at h1
          omega
        have e : mayG g = g.edges.all fun e => nodeOk g.edges g.last e.from_ := by simp [mayG, h1, h2, h3]
        rw [e]
        by_cases hz : 0 < g.edges.length
        · obtain ⟨b, o, eA, hat⟩ := hg.edges.2.2 hz
          obtain ⟨rs, hrs, hr⟩ := hat.raw
          exact check_main g.vars g.nodes g.start g.last g.arrays g.edges rs hrs Aa Ae ca ce B w h1 h2 h2048 hla hB hg.arrays hg.edges hr.mem (fun _ => ⟨b, o, eA, hr⟩) h3
        · have hn : g.edges = [] := List.length_eq_zero_iff.1 (by omega)
          exact check_main g.vars g.nodes g.start g.last g.arrays g.edges [] (by rw [hn]; rfl) Aa Ae ca ce B w h1 h2 h2048 hla hB hg.arrays hg.edges (fun r hr => by cases hr) (fun h => absurd h hz) h3
      · have e : mayG g = false := by simp only [mayG, h3]; simp
        rw [e]
        exact check_edges g.vars g.nodes g.start g.last g.arrays g.edges Aa Ae ca ce B w h1 h2 hl hla hB hg.arrays hg.edges h3
    · have e : mayG g = false := by simp only [mayG, h2]; simp
      rw [e]
      exact check_odd2 g.vars g.nodes g.start g.last g.arrays g.edges.length Aa Ae ca ce B w h1 h2 hl hla hB hg.arrays
  · have e : mayG g = false := by simp only [mayG, h1]; simp
    rw [e]
    exact check_odd1 g.vars g.nodes g.start g.last g.arrays.length g.edges.length Aa Ae ca ce w h1 hl hla
end Go.Proofs.Ytjeapacohgfpiaa
