/-
  The frame of chapter 13's laws: a graph that came in as an argument.
-/
import Derived.Test.YtdflbaipbmkdgaaJnFlOp
import Derived.Lib.SmallJoins
import Derived.Test.YtdflbaipbmkdgaaJnSv
import Derived.Test.YtdflbaipbmkdgaaJnSrR
namespace Go.Proofs.Ytdflbaipbmkdgaa
open Go.RowKit Go.ChangeShapes Go.WideShapes Go.Deep

section
variable {H : Type} {enc : TypeId × Value → H} {w : World} {base : Nat} {spare : Nat → Bool} {held : Bool}

set_option maxRecDepth 100000 in
theorem open_is (fuel : Nat) (v : Value) (x : DataW H × List MemPlace) (h : DataW.trod enc Try.prog w base spare held fuel 22 [v] = some x) : ∃ (l : List Int) (A : Option Addr) (c : Nat), v = .slice A l.length c ∧ IsSl w w.heap.size l A c := by
  rcases DataW.trod_slice Try.underlying22 h with ⟨h0, _⟩ | ⟨a, len, cap, elems, rest, n, hn, hcs, _, _, hlc, hcm, hel, hget, _⟩
  · have h0 := (List.cons.inj h0).1
    exact ⟨[], none, 0, h0, by simp, by decide, by simp⟩
  · have hcs := (List.cons.inj hcs).1
    subst hcs
    have key : ∀ i, i < len → ∃ m : Int, w.cell? (a.add i) = some (.int .i64 m) ∧ in64 m := by
      intro i hi
      have h1 := hget i hi
      obtain ⟨y, hy⟩ : ∃ y, elems[i]? = some y := ⟨_, List.getElem?_eq_getElem (by omega)⟩
      rw [hy] at h1
      obtain ⟨cs', hc, ht⟩ := Option.bind_eq_some_iff.1 h1
      rw [c_int, Nat.mul_one] at hc
      obtain ⟨_, hcl, hat⟩ := World.cells?_some hc
      obtain ⟨m, hm, _, hw⟩ := DataW.trod_int Try.underlying3 ht
      have h2 := hat 0 (by omega)
      rw [hm] at h2
      exact ⟨m, h2, in64_of_wf hw⟩
    by_cases hz : 0 < len
    · obtain ⟨m0, h0, _⟩ := key 0 hz
      have hin := cell_in (a := a) h0
      have hsp := hin.2
      have ad : ∀ i, a.add i = ⟨a.block, a.off + i, none⟩ := fun i => by
        unfold Addr.add
        by_cases h1 : i = 0 <;> simp [h1]
        all_goals (cases a; simp_all)
      refine ⟨(List.range len).map fun i => if h : i < len then Classical.choose (key i h) else 0, some a, cap, by simp, by simpa using hlc, by simpa [maxLen] using hcm, fun _ => ⟨a.block, a.off, by cases a; simp_all, hin.1, fun i n hi => ?_⟩⟩
      rw [List.getElem?_map] at hi
      by_cases hil : i < len
      · rw [List.getElem?_range hil] at hi
        simp only [Option.map_some, Option.some.injEq, dif_pos hil] at hi
        subst hi
        have := Classical.choose_spec (key i hil)
        exact ⟨(congrArg w.cell? (ad i)).symm.trans this.1, this.2⟩
      · rw [List.getElem?_eq_none (by simp; omega)] at hi
        exact absurd hi (by simp)
    · have : len = 0 := by omega
      subst this
      exact ⟨[], some a, cap, rfl, by simp, by simpa [maxLen] using hcm, by simp⟩

set_option maxRecDepth 100000 in
/-- WHAT A GRAPH THAT CAME IN IS -/
theorem open_graph {r : Reach} {b0 : Nat} {v : Value} {d : DataW H} {p : List MemPlace} (hv : Value.okWide Try.prog w r b0 25 v) (h : DataW.Trod enc Try.prog w base spare held 25 v d p) :
    ∃ (g : Gr) (Aa Ae : Option Addr) (ca ce : Nat), v = grV g.vars Aa g.arrays.length ca g.nodes g.start g.last Ae g.edges.length ce ∧ GrSl w w.heap.size g Aa ca Ae ce := by
  have hs := Try.underlying25
  obtain ⟨cs, rfl, hsz⟩ := okWide_struct hs hv
  obtain ⟨l⟩ := cs
  match l, hsz.trans (show Try.prog.cellsOf 25 = 6 by kernel_rfl) with
  | [c0, c1, c2, c3, c4, c5], _ =>
    obtain ⟨fuel, hf⟩ := h
    obtain ⟨xs, n, _, hx, _, hlen, hg⟩ := DataW.trod_struct hs hf
    match xs, hlen with
    | [y0, y1, y2, y3, y4, y5], _ =>
      obtain ⟨v0, e0, _⟩ := int_field (cs := [c0, c1, c2, c3, c4, c5]) Try.underlying3 c_int (off := 0) (by simp) (hg 0 _ rfl)
      obtain ⟨v2, e2, _⟩ := int_field (cs := [c0, c1, c2, c3, c4, c5]) Try.underlying3 c_int (off := 2) (by simp) (hg 2 _ rfl)
      obtain ⟨v3, e3, _⟩ := int_field (cs := [c0, c1, c2, c3, c4, c5]) Try.underlying3 c_int (off := 3) (by simp) (hg 3 _ rfl)
      obtain ⟨v4, e4, _⟩ := int_field (cs := [c0, c1, c2, c3, c4, c5]) Try.underlying3 c_int (off := 4) (by simp) (hg 4 _ rfl)
      have h1 : DataW.trod enc Try.prog w base spare held n 22 [c1] = some y1 := by
        have h9 : (([c0, c1, c2, c3, c4, c5] : List Value).drop 1).take (Try.prog.cellsOf 22) = [c1] := by rw [c_ints]; rfl
        rw [← h9]; exact hg 1 _ rfl
      have h5 : DataW.trod enc Try.prog w base spare held n 23 [c5] = some y5 := by
        have h9 : (([c0, c1, c2, c3, c4, c5] : List Value).drop 5).take (Try.prog.cellsOf 23) = [c5] := by rw [c_eds]; rfl
        rw [← h9]; exact hg 5 _ rfl
      obtain ⟨ar, Aa, ca, rfl, ha⟩ := open_is n c1 y1 h1
      obtain ⟨ed, Ae, ce, rfl, he⟩ := open_edges n c5 y5 h5
      simp only [List.getElem?_cons_zero, List.getElem?_cons_succ, Option.some.injEq] at e0 e2 e3 e4
      subst e0 e2 e3 e4
      exact ⟨⟨v0, ar, v2, v3, v4, ed⟩, Aa, Ae, ca, ce, rfl, ⟨ha, he⟩⟩
end
end Go.Proofs.Ytdflbaipbmkdgaa

/-
  The frame of chapter 14's laws: a store and an expression that came in as arguments.
-/
namespace Go.Proofs.Ytdflbaipbmkdgaa
open Go.RowKit Go.ChangeShapes Go.WideShapes Go.Deep
set_option linter.unusedVariables false
set_option linter.unusedSimpArgs false

section
variable {H : Type} {enc : TypeId × Value → H} {w : World} {base : Nat} {spare : Nat → Bool} {held : Bool}

theorem c_iss : Try.prog.cellsOf 26 = 1 := by kernel_rfl
set_option maxRecDepth 100000 in
theorem open_iss (fuel : Nat) (v : Value) (x : DataW H × List MemPlace) (h : DataW.trod enc Try.prog w base spare held fuel 26 [v] = some x) : ∃ (l : List (List Int)) (A : Option Addr) (c : Nat), v = .slice A l.length c ∧ ArSl w w.heap.size l A c := by
  rcases DataW.trod_slice Try.underlying26 h with ⟨h0, _⟩ | ⟨a, len, cap, elems, rest, n, hn, hcs, _, _, hlc, hcm, hel, hget, _⟩
  · have h0 := (List.cons.inj h0).1
    exact ⟨[], none, 0, h0, by simp, by decide, by simp⟩
  · have hcs := (List.cons.inj hcs).1
    subst hcs
    have key : ∀ i, i < len → ∃ l : List Int, ∃ A c, w.cell? (a.add i) = some (.slice A l.length c) ∧ IsSl w w.heap.size l A c := by
      intro i hi
      have h1 := hget i hi
      obtain ⟨y, hy⟩ : ∃ y, elems[i]? = some y := ⟨_, List.getElem?_eq_getElem (by omega)⟩
      rw [hy] at h1
      obtain ⟨cs', hc, ht⟩ := Option.bind_eq_some_iff.1 h1
      rw [c_ints, Nat.mul_one] at hc
      obtain ⟨_, hcl, hat⟩ := World.cells?_some hc
      match cs', hcl with
      | [v0], _ =>
        obtain ⟨l, A, c, rfl, hs⟩ := open_is _ v0 y ht
        exact ⟨l, A, c, hat 0 (by omega), hs⟩
    by_cases hz : 0 < len
    · obtain ⟨m0, A0, k0, h0, _⟩ := key 0 hz
      have hin := cell_in (a := a) h0
      have hsp := hin.2
      have ad : ∀ i, a.add i = ⟨a.block, a.off + i, none⟩ := fun i => by
        unfold Addr.add
        by_cases h1 : i = 0 <;> simp [h1, hsp]
        all_goals (cases a; simp_all)
      refine ⟨(List.range len).map fun i => if h : i < len then Classical.choose (key i h) else [], some a, cap, by simp, by simpa using hlc, by simpa [maxLen] using hcm, fun _ => ⟨a.block, a.off, by cases a; simp_all, hin.1, fun i n hi => ?_⟩⟩
      rw [List.getElem?_map] at hi
      by_cases hil : i < len
      · rw [List.getElem?_range hil] at hi
        simp only [Option.map_some, Option.some.injEq, dif_pos hil] at hi
        subst hi
        obtain ⟨A, c, h1, h2⟩ := Classical.choose_spec (key i hil)
        exact ⟨A, c, (congrArg w.cell? (ad i)).symm.trans h1, h2⟩
      · rw [List.getElem?_eq_none (by simp; omega)] at hi
        exact absurd hi (by simp)
    · have : len = 0 := by omega
      subst this
      exact ⟨[], some a, cap, rfl, by simp, by simpa [maxLen] using hcm, by simp⟩

set_option maxRecDepth 100000 in
/-- WHAT A STORE THAT CAME IN IS -/
theorem open_store {r : Reach} {b0 : Nat} {v : Value} {d : DataW H} {p : List MemPlace} (hv : Value.okWide Try.prog w r b0 28 v) (h : DataW.Trod enc Try.prog w base spare held 28 v d p) :
    ∃ (vs : List Int) (ls : List (List Int)) (Av Al : Option Addr) (cv cl : Nat), v = stV Av vs.length cv Al ls.length cl ∧ StSl w w.heap.size vs ls Av cv Al cl := by
  have hs := Try.underlying28
  obtain ⟨cs, rfl, hsz⟩ := okWide_struct hs hv
  obtain ⟨l⟩ := cs
  match l, hsz.trans (show Try.prog.cellsOf 28 = 2 by kernel_rfl) with
  | [c0, c1], _ =>
    obtain ⟨fuel, hf⟩ := h
    obtain ⟨xs, n, _, hx, _, hlen, hg⟩ := DataW.trod_struct hs hf
    match xs, hlen with
    | [y0, y1], _ =>
      have h0 : DataW.trod enc Try.prog w base spare held n 22 [c0] = some y0 := by
        have h9 : (([c0, c1] : List Value).drop 0).take (Try.prog.cellsOf 22) = [c0] := by rw [c_ints]; rfl
        rw [← h9]; exact hg 0 _ rfl
      have h1 : DataW.trod enc Try.prog w base spare held n 26 [c1] = some y1 := by
        have h9 : (([c0, c1] : List Value).drop 1).take (Try.prog.cellsOf 26) = [c1] := by rw [c_iss]; rfl
        rw [← h9]; exact hg 1 _ rfl
      obtain ⟨vs, Av, cv, rfl, ha⟩ := open_is n c0 y0 h0
      obtain ⟨ls, Al, cl, rfl, he⟩ := open_iss n c1 y1 h1
      exact ⟨vs, ls, Av, Al, cv, cl, rfl, ⟨ha, he⟩⟩

set_option maxRecDepth 100000 in
/-- WHAT AN EXPRESSION THAT CAME IN IS -/
theorem open_expr {r : Reach} {b0 : Nat} {v : Value} {d : DataW H} {p : List MemPlace} (hv : Value.okWide Try.prog w r b0 62 v) (h : DataW.Trod enc Try.prog w base spare held 62 v d p) :
    ∃ (k : Int) (nm : ByteArray) (n : Int) (args : Exs) (at_ : Int) (A : Option Addr) (c : Nat), v = exV k nm n A args.len c at_ ∧ ExSl w w.heap.size args A c ∧ in8 k ∧ in64 n ∧ in64 at_ := by
  have hs := Try.underlying62
  obtain ⟨cs, rfl, hsz⟩ := okWide_struct hs hv
  obtain ⟨l⟩ := cs
  match l, hsz.trans (show Try.prog.cellsOf 62 = 5 by kernel_rfl) with
  | [c0, c1, c2, c3, c4], _ =>
    obtain ⟨fuel, hf⟩ := h
    obtain ⟨xs, n, _, hx, _, hlen, hg⟩ := DataW.trod_struct hs hf
    match xs, hlen with
    | [y0, y1, y2, y3, y4], _ =>
      obtain ⟨v0, e0, w0⟩ := int_field (cs := [c0, c1, c2, c3, c4]) Try.underlying5 c_u8 (off := 0) (by simp) (hg 0 _ rfl)
      obtain ⟨v1, e1⟩ := str_field (cs := [c0, c1, c2, c3, c4]) Try.underlying9 c_str (off := 1) (by simp) (hg 1 _ rfl)
      obtain ⟨v2, e2, w2⟩ := int_field (cs := [c0, c1, c2, c3, c4]) Try.underlying3 c_int (off := 2) (by simp) (hg 2 _ rfl)
      obtain ⟨v4, e4, w4⟩ := int_field (cs := [c0, c1, c2, c3, c4]) Try.underlying3 c_int (off := 4) (by simp) (hg 4 _ rfl)
      have h3 : DataW.trod enc Try.prog w base spare held n 41 [c3] = some y3 := by
        have h9 : (([c0, c1, c2, c3, c4] : List Value).drop 3).take (Try.prog.cellsOf 41) = [c3] := by rw [c_exs]; rfl
        rw [← h9]; exact hg 3 _ rfl
      obtain ⟨args, A, c, rfl, ha⟩ := open_exprs n c3 y3 h3
      simp only [List.getElem?_cons_zero, List.getElem?_cons_succ, Option.some.injEq] at e0 e1 e2 e4
      subst e0 e1 e2 e4
      exact ⟨v0, v1, v2, args, v4, A, c, rfl, ha, in8_of_wf w0, in64_of_wf w2, in64_of_wf w4⟩
end

end Go.Proofs.Ytdflbaipbmkdgaa

/-
  The frame of the law of runs: an end, and a script, that came in.
-/
namespace Go.Proofs.Ytdflbaipbmkdgaa
open Go.RowKit Go.ChangeShapes Go.WideShapes Go.Deep
set_option linter.unusedVariables false
set_option linter.unusedSimpArgs false

section
variable {H : Type} {enc : TypeId × Value → H} {w : World} {base : Nat} {spare : Nat → Bool} {held : Bool}

theorem open_script {fuel : Nat} {v : Value} {x : DataW H × List MemPlace} (h : DataW.trod enc Try.prog w base spare held fuel 22 [v] = some x) : ∃ (l : List Int) (A : Option Addr) (c : Nat), v = .slice A l.length c ∧ IsSl w w.heap.size l A c ∧ (A = none → c = 0) := by
  obtain ⟨l, A, c, hv, hs⟩ := open_is fuel v x h
  refine ⟨l, A, c, hv, hs, fun hA => ?_⟩
  rcases DataW.trod_slice Try.underlying22 h with ⟨h0, _⟩ | ⟨a, len, cap, elems, rest, n, hn, hcs, _⟩
  · have h0 := (List.cons.inj h0).1
    rw [hv] at h0
    injection h0
  · have h0 := (List.cons.inj hcs).1
    rw [hv, hA] at h0
    injection h0 with h0
    cases h0
set_option maxRecDepth 100000 in
theorem open_end {r : Reach} {b0 : Nat} {v : Value} {d : DataW H} {p : List MemPlace} (hv : Value.okWide Try.prog w r b0 30 v) (h : DataW.Trod enc Try.prog w base spare held 30 v d p) :
    ∃ en : En, EndIs w en v := by
  have hs := Try.underlying30
  obtain ⟨cs, rfl, hsz⟩ := okWide_struct hs hv
  obtain ⟨l⟩ := cs
  match l, hsz.trans (show Try.prog.cellsOf 30 = 8 by kernel_rfl) with
  | [c0, c1, c2, c3, c4, c5, c6, c7], _ =>
    obtain ⟨fuel, hf⟩ := h
    obtain ⟨xs, n, _, hx, _, hlen, hg⟩ := DataW.trod_struct hs hf
    match xs, hlen with
    | [y0, y1, y2, y3, y4, y5, y6], _ =>
      obtain ⟨v0, e0, _⟩ := int_field (cs := [c0, c1, c2, c3, c4, c5, c6, c7]) Try.underlying5 c_u8 (off := 0) (by simp) (hg 0 _ rfl)
      obtain ⟨v1, e1, _⟩ := int_field (cs := [c0, c1, c2, c3, c4, c5, c6, c7]) Try.underlying5 c_u8 (off := 1) (by simp) (hg 1 _ rfl)
      obtain ⟨v2, e2, _⟩ := int_field (cs := [c0, c1, c2, c3, c4, c5, c6, c7]) Try.underlying3 c_int (off := 2) (by simp) (hg 2 _ rfl)
      obtain ⟨v3, e3, _⟩ := int_field (cs := [c0, c1, c2, c3, c4, c5, c6, c7]) Try.underlying3 c_int (off := 3) (by simp) (hg 3 _ rfl)
      obtain ⟨v4, e4, _⟩ := int_field (cs := [c0, c1, c2, c3, c4, c5, c6, c7]) Try.underlying3 c_int (off := 4) (by simp) (hg 4 _ rfl)
      obtain ⟨v5, e5, _⟩ := int_field (cs := [c0, c1, c2, c3, c4, c5, c6, c7]) Try.underlying3 c_int (off := 5) (by simp) (hg 5 _ rfl)
      have h6 : DataW.trod enc Try.prog w base spare held n 28 [c6, c7] = some y6 := by
        have h9 : (([c0, c1, c2, c3, c4, c5, c6, c7] : List Value).drop 6).take (Try.prog.cellsOf 28) = [c6, c7] := by rw [show Try.prog.cellsOf 28 = 2 by kernel_rfl]; rfl
        rw [← h9]; exact hg 6 _ rfl
      obtain ⟨ys, m, _, hy, _, hylen, hk⟩ := DataW.trod_struct Try.underlying28 h6
      match ys, hylen with
      | [z0, z1], _ =>
        have k0 : DataW.trod enc Try.prog w base spare held m 22 [c6] = some z0 := by
          have h9 : (([c6, c7] : List Value).drop 0).take (Try.prog.cellsOf 22) = [c6] := by rw [c_ints]; rfl
          rw [← h9]; exact hk 0 _ rfl
        have k1 : DataW.trod enc Try.prog w base spare held m 26 [c7] = some z1 := by
          have h9 : (([c6, c7] : List Value).drop 1).take (Try.prog.cellsOf 26) = [c7] := by rw [c_iss]; rfl
          rw [← h9]; exact hk 1 _ rfl
        obtain ⟨vs, Av, cv, rfl, ha⟩ := open_is m c6 z0 k0
        obtain ⟨ls, Al, cl, rfl, he⟩ := open_iss m c7 z1 k1
        simp only [List.getElem?_cons_zero, List.getElem?_cons_succ, Option.some.injEq] at e0 e1 e2 e3 e4 e5
        subst e0 e1 e2 e3 e4 e5
        exact ⟨⟨v0, v1, v2, v3, v4, v5, vs, ls⟩, Av, cv, Al, cl, rfl, ⟨ha, he⟩⟩
end
end Go.Proofs.Ytdflbaipbmkdgaa
