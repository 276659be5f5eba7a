/-
  The frame of chapter 14's laws: a store and an expression that came in as arguments.
-/
import Derived.Test.YtjeapacohgfpiaaFlOpenC
import Derived.Test.YtjeapacohgfpiaaSvValA
namespace Go.Proofs.Ytjeapacohgfpiaa
open Go.RowKit Go.ChangeShapes Go.WideShapes Go.Deep
set_option linter.unusedVariables false

section
variable {H : Type} {enc : TypeId × Value → H} {w : World} {base : Nat} {spare : Nat → Bool} {held : Bool}

theorem c_iss : Try.prog.cellsOf 40 = 1 := by kernel_rfl
set_option maxRecDepth 100000 in
theorem open_iss (fuel : Nat) (v : Value) (x : DataW H × List MemPlace) (h : DataW.trod enc Try.prog w base spare held fuel 40 [v] = some x) : ∃ (l : List (List Int)) (A : Option Addr) (c : Nat), v = .slice A l.length c ∧ ArSl w w.heap.size l A c := by
  rcases DataW.trod_slice Try.underlying40 h with ⟨h0, _⟩ | ⟨a, len, cap, elems, rest, n, hn, hcs, _, _, hlc, hcm, hel, hget, _⟩
  · have h0 := (List.cons.inj h0).1
    exact ⟨[], none, 0, h0, by simp, by decide, by simp⟩
  · have hcs := (List.cons.inj hcs).1
    subst hcs
    have key : ∀ i, i < len → ∃ l : List Int, ∃ A c, w.cell? (a.add i) = some (.slice A l.length c) ∧ IsSl w w.heap.size l A c := by
      intro i hi
      have h1 := hget i hi
      obtain ⟨y, hy⟩ : ∃ y, elems[i]? = some y := ⟨_, List.getElem?_eq_getElem (by omega)⟩
      rw [hy] at h1
      obtain ⟨cs', hc, ht⟩ := Option.bind_eq_some_iff.1 h1
      rw [c_ints, Nat.mul_one] at hc
      obtain ⟨_, hcl, hat⟩ := World.cells?_some hc
      match cs', hcl with
      | [v0], _ =>
        obtain ⟨l, A, c, rfl, hs⟩ := open_is _ v0 y ht
        exact ⟨l, A, c, hat 0 (by omega), hs⟩
    by_cases hz : 0 < len
    · obtain ⟨m0, A0, k0, h0, _⟩ := key 0 hz
      have hin := cell_in (a := a) h0
      have hsp := hin.2
      have ad : ∀ i, a.add i = ⟨a.block, a.off + i, none⟩ := fun i => by
        unfold Addr.add
        by_cases h1 : i = 0 <;> simp [h1, hsp]
        all_goals (cases a; simp_all)
      refine ⟨(List.range len).map fun i => if h : i < len then Classical.choose (key i h) else [], some a, cap, by simp, by simpa using hlc, by simpa [maxLen] using hcm, fun _ => ⟨a.block, a.off, by cases a; simp_all, hin.1, fun i n hi => ?_⟩⟩
      rw [List.getElem?_map] at hi
      by_cases hil : i < len
      · rw [List.getElem?_range hil] at hi
        simp only [Option.map_some, Option.some.injEq, dif_pos hil] at hi
        subst hi
        obtain ⟨A, c, h1, h2⟩ := Classical.choose_spec (key i hil)
        exact ⟨A, c, (congrArg w.cell? (ad i)).symm.trans h1, h2⟩
      · rw [List.getElem?_eq_none (by simp; omega)] at hi
        exact absurd hi (by simp)
    · have : len = 0 := by omega
      subst this
      exact ⟨[], some a, cap, rfl, by simp, by simpa [maxLen] using hcm, by simp⟩

set_option maxRecDepth 100000 in
/-- WHAT A STORE THAT CAME IN IS -/
theorem open_store {r : Reach} {b0 : Nat} {v : Value} {d : DataW H} {p : List MemPlace} (hv : Value.okWide Try.prog w r b0 42 v) (h : DataW.Trod enc Try.prog w base spare held 42 v d p) :
    ∃ (vs : List Int) (ls : List (List Int)) (Av Al : Option Addr) (cv cl : Nat), v = stV Av vs.length cv Al ls.length cl ∧ StSl w w.heap.size vs ls Av cv Al cl := by
  have hs := Try.underlying42
  obtain ⟨cs, rfl, hsz⟩ := okWide_struct hs hv
  obtain ⟨l⟩ := cs
  match l, hsz.trans (show Try.prog.cellsOf 42 = 2 by kernel_rfl) with
  | [c0, c1], _ =>
    obtain ⟨fuel, hf⟩ := h
    obtain ⟨xs, n, _, hx, _, hlen, hg⟩ := DataW.trod_struct hs hf
    match xs, hlen with
    | [y0, y1], _ =>
      have h0 : DataW.trod enc Try.prog w base spare held n 32 [c0] = some y0 := by
        have h9 : (([c0, c1] : List Value).drop 0).take (Try.prog.cellsOf 32) = [c0] := by rw [c_ints]; rfl
        rw [← h9]; exact hg 0 _ rfl
      have h1 : DataW.trod enc Try.prog w base spare held n 40 [c1] = some y1 := by
        have h9 : (([c0, c1] : List Value).drop 1).take (Try.prog.cellsOf 40) = [c1] := by rw [c_iss]; rfl
        rw [← h9]; exact hg 1 _ rfl
      obtain ⟨vs, Av, cv, rfl, ha⟩ := open_is n c0 y0 h0
      obtain ⟨ls, Al, cl, rfl, he⟩ := open_iss n c1 y1 h1
      exact ⟨vs, ls, Av, Al, cv, cl, rfl, ⟨ha, he⟩⟩

set_option maxRecDepth 100000 in
/-- WHAT AN EXPRESSION THAT CAME IN IS -/
theorem open_expr {r : Reach} {b0 : Nat} {v : Value} {d : DataW H} {p : List MemPlace} (hv : Value.okWide Try.prog w r b0 45 v) (h : DataW.Trod enc Try.prog w base spare held 45 v d p) :
    ∃ (k : Int) (nm : ByteArray) (n : Int) (args : Exs) (at_ : Int) (A : Option Addr) (c : Nat), v = exV k nm n A args.len c at_ ∧ ExSl w w.heap.size args A c ∧ in8 k ∧ in64 n ∧ in64 at_ := by
  have hs := Try.underlying45
  obtain ⟨cs, rfl, hsz⟩ := okWide_struct hs hv
  obtain ⟨l⟩ := cs
  match l, hsz.trans (show Try.prog.cellsOf 45 = 5 by kernel_rfl) with
  | [c0, c1, c2, c3, c4], _ =>
    obtain ⟨fuel, hf⟩ := h
    obtain ⟨xs, n, _, hx, _, hlen, hg⟩ := DataW.trod_struct hs hf
    match xs, hlen with
    | [y0, y1, y2, y3, y4], _ =>
      obtain ⟨v0, e0, w0⟩ := int_field (cs := [c0, c1, c2, c3, c4]) Try.underlying5 c_u8 (off := 0) (by simp) (hg 0 _ rfl)
      obtain ⟨v1, e1⟩ := str_field (cs := [c0, c1, c2, c3, c4]) Try.underlying9 c_str (off := 1) (by simp) (hg 1 _ rfl)
      obtain ⟨v2, e2, w2⟩ := int_field (cs := [c0, c1, c2, c3, c4]) Try.underlying3 c_int (off := 2) (by simp) (hg 2 _ rfl)
      obtain ⟨v4, e4, w4⟩ := int_field (cs := [c0, c1, c2, c3, c4]) Try.underlying3 c_int (off := 4) (by simp) (hg 4 _ rfl)
      have h3 : DataW.trod enc Try.prog w base spare held n 43 [c3] = some y3 := by
        have h9 : (([c0, c1, c2, c3, c4] : List Value).drop 3).take (Try.prog.cellsOf 43) = [c3] := by rw [c_exs]; rfl
        rw [← h9]; exact hg 3 _ rfl
      obtain ⟨args, A, c, rfl, ha⟩ := open_exprs n c3 y3 h3
      simp only [List.getElem?_cons_zero, List.getElem?_cons_succ, Option.some.injEq] at e0 e1 e2 e4
      subst e0 e1 e2 e4
      exact ⟨v0, v1, v2, args, v4, A, c, rfl, ha, in8_of_wf w0, in64_of_wf w2, in64_of_wf w4⟩
end

/-- numbers that memory holds are of 64 bits -/
theorem ns64_at {w : World} {B : Nat} : ∀ {xs : Exs} {b o : Nat}, ExAt w B xs b o → Ns64 xs
  | .nil, _, _, _ => trivial
  | .cons k nm n args at_ rest, b, o, hx => by
    obtain ⟨hb, h0, h1, h2, ⟨A, c, h3, hl, hc, ha⟩, h4, r0, r1, r2, hr⟩ := hx
    refine ⟨r1, ?_, ns64_at hr⟩
    cases args with
    | nil => trivial
    | cons a b2 c2 d e f =>
      obtain ⟨b', o', e', hx'⟩ := ha (by simp [Exs.len])
      exact ns64_at hx'
theorem ns64_sl {w : World} {B : Nat} {xs : Exs} {A : Option Addr} {c : Nat} (hx : ExSl w B xs A c) : Ns64 xs := by
  cases xs with
  | nil => trivial
  | cons a b2 c2 d e f =>
    obtain ⟨b', o', e', hx'⟩ := hx.2.2 (by simp [Exs.len])
    exact ns64_at hx'
theorem is64_sl {w : World} {B : Nat} {l : List Int} {A : Option Addr} {c : Nat} (hx : IsSl w B l A c) : ∀ n ∈ l, is64 n := by
  intro n hn
  obtain ⟨i, hi, rfl⟩ := List.mem_iff_getElem.1 hn
  obtain ⟨b, o, _, hh⟩ := hx.2.2 (by omega)
  exact (hh.2 i _ (List.getElem?_eq_getElem hi)).2
theorem st64_sl {w : World} {B : Nat} {vs : List Int} {ls : List (List Int)} {Av : Option Addr} {cv : Nat} {Al : Option Addr} {cl : Nat} (h : StSl w B vs ls Av cv Al cl) : St64 vs ls := by
  refine ⟨is64_sl h.vars, fun l hl => ?_⟩
  obtain ⟨i, hi, rfl⟩ := List.mem_iff_getElem.1 hl
  obtain ⟨b, o, _, hh⟩ := h.arrs.2.2 (by omega)
  obtain ⟨A, c, _, hs⟩ := hh.2 i _ (List.getElem?_eq_getElem hi)
  exact is64_sl hs
end Go.Proofs.Ytjeapacohgfpiaa
