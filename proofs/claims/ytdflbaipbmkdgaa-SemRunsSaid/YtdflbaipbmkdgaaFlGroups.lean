/-
  A map from numbers to slices of edges that the call itself makes: which edges lie at which key, as memory has them.
-/
import Derived.Test.YtdflbaipbmkdgaaJnEdge
import Derived.Maps.OwnSet
import Derived.Maps.OwnOps
import Derived.Maps.RangeWalk
import Derived.Deep.AppendLies
namespace Go.Proofs.Ytdflbaipbmkdgaa
open Go.RowKit Go.Shelf Go.Maps
set_option linter.unusedVariables false
set_option linter.unusedSimpArgs false

/-- an edge as memory has it -/
structure EdR where
  e : Ed
  A : Option Addr
  c : Nat
def EdR.cells (r : EdR) : List Value := [.int .i64 r.e.from_, .int .i64 r.e.to_, .int .u8 r.e.kind, .int .i64 r.e.n, .int .u8 r.e.cmp, .slice r.A r.e.args.len r.c, .int .i64 r.e.at_]
/-- edges as memory has them -/
def RAt (w : World) (B : Nat) : List EdR → Nat → Nat → Prop
  | [], _, _ => True
  | r :: rs, b, o => b < B ∧ (∀ (j : Nat) (u : Value), r.cells[j]? = some u → w.cell? ⟨b, o + j, none⟩ = some u) ∧ ExSl w B r.e.args r.A r.c ∧ r.e.ok ∧ RAt w B rs b (o + 7)
theorem EdAt.raw {w : World} {B : Nat} : ∀ {l : List Ed} {b o : Nat}, EdAt w B l b o → ∃ rs : List EdR, rs.map EdR.e = l ∧ RAt w B rs b o
  | [], _, _, _ => ⟨[], rfl, trivial⟩
  | e :: l, b, o, h => by
    obtain ⟨hb, h0, h1, h2, h3, h4, ⟨A, c, h5, hs⟩, h6, hok, hr⟩ := h
    obtain ⟨rs, hm, hrs⟩ := EdAt.raw hr
    refine ⟨⟨e, A, c⟩ :: rs, by simp [hm], hb, fun j u hu => ?_, hs, hok, hrs⟩
    match j, hu with
    | 0, hu => simp [EdR.cells] at hu; subst hu; exact h0
    | 1, hu => simp [EdR.cells] at hu; subst hu; exact h1
    | 2, hu => simp [EdR.cells] at hu; subst hu; exact h2
    | 3, hu => simp [EdR.cells] at hu; subst hu; exact h3
    | 4, hu => simp [EdR.cells] at hu; subst hu; exact h4
    | 5, hu => simp [EdR.cells] at hu; subst hu; exact h5
    | 6, hu => simp [EdR.cells] at hu; subst hu; exact h6
    | j + 7, hu => simp [EdR.cells] at hu
theorem RAt.edges {w : World} {B : Nat} : ∀ {rs : List EdR} {b o : Nat}, RAt w B rs b o → EdAt w B (rs.map EdR.e) b o
  | [], _, _, _ => trivial
  | r :: rs, b, o, ⟨hb, hc, hs, hok, hr⟩ =>
    ⟨hb, hc 0 _ rfl, hc 1 _ rfl, hc 2 _ rfl, hc 3 _ rfl, hc 4 _ rfl, ⟨r.A, r.c, hc 5 _ rfl, hs⟩, hc 6 _ rfl, hok, RAt.edges hr⟩
theorem RAt.keep {w w' : World} {B : Nat} (h : Same B w w') : ∀ {rs : List EdR} {b o : Nat}, RAt w B rs b o → RAt w' B rs b o
  | [], _, _, _ => trivial
  | r :: rs, b, o, ⟨hb, hc, hs, hok, hr⟩ => ⟨hb, fun j u hu => (h _ hb).trans (hc j u hu), hs.keep h, hok, RAt.keep h hr⟩
theorem RAt.at_ {w : World} {B : Nat} : ∀ {rs : List EdR} {b o : Nat}, RAt w B rs b o → ∀ {i : Nat} {r : EdR}, rs[i]? = some r →
    b < B ∧ (∀ (j : Nat) (u : Value), r.cells[j]? = some u → w.cell? ⟨b, o + i * 7 + j, none⟩ = some u) ∧ ExSl w B r.e.args r.A r.c ∧ r.e.ok
  | [], _, _, _, i, r, hi => by simp at hi
  | r :: rs, b, o, ⟨hb, hc, hs, hok, hr⟩, i, r', hi => by
    cases i with
    | zero =>
      simp at hi; subst hi
      exact ⟨hb, fun j u hu => by simpa using hc j u hu, hs, hok⟩
    | succ i =>
      have := RAt.at_ hr (i := i) (r := r') (by simpa using hi)
      rw [show o + 7 + i * 7 = o + (i + 1) * 7 from by omega] at this
      exact this

/-- the edges of a node among some -/
def outR (rs : List EdR) (x : Int) : List EdR := rs.filter fun r => r.e.from_ == x
/-- their cells -/
def flatR (rs : List EdR) : List Value := rs.flatMap EdR.cells
theorem flatR_len (rs : List EdR) : (flatR rs).length = rs.length * 7 := by
  induction rs with
  | nil => rfl
  | cons r rs ih => simp [flatR, List.flatMap_cons] at ih ⊢; rw [ih]; simp [EdR.cells]; omega
theorem flatR_get {rs : List EdR} {i : Nat} {r : EdR} (hi : rs[i]? = some r) {j : Nat} {u : Value} (hu : r.cells[j]? = some u) : (flatR rs)[i * 7 + j]? = some u := by
  induction rs generalizing i with
  | nil => simp at hi
  | cons a rs ih =>
    have ha : a.cells.length = 7 := rfl
    cases i with
    | zero =>
      simp at hi; subst hi
      have hj : j < a.cells.length := (List.getElem?_eq_some_iff.1 hu).1
      simp only [flatR, List.flatMap_cons, Nat.zero_mul, Nat.zero_add]
      rw [List.getElem?_append_left hj]
      exact hu
    | succ i =>
      simp only [flatR, List.flatMap_cons]
      rw [List.getElem?_append_right (by rw [ha]; omega), ha, show (i + 1) * 7 + j - 7 = i * 7 + j from by omega]
      exact ih (by simpa using hi)

/-- the reader of an element: as itself -/
def heldE (v : Value) : Option (DataW Value × List MemPlace) := some (.held v, [])
theorem heldE_at {w : World} {P : Program} {k e t : TypeId} {b n : Nat} {D : DataW Value} (h : w.ownsMap P k heldE b n D) (K : Keyed P k) (ht : P.underlying t = some (.map k e)) {z : Value} (hz : (zeroValue e).run P w = .ok z w)
    {key : Value} {kl : Lit} (hkey : keyOf P k key = some kl) : ∃ v, (Instr.lookup t (.map (some b)) key false).run P w = .ok v w ∧ D.atKey kl (.held z) = .held v := by
  obtain ⟨v, ps, hrun, hv⟩ := h.lookup K ht hz (zd := .held z) (zp := []) rfl hkey
  simp only [heldE, Option.some.injEq, Prod.mk.injEq] at hv
  exact ⟨v, hrun, hv.1.symm⟩

def nilS : Value := .slice none 0 0

/-- BLOCK b IS A MAP FROM NODES TO SLICES OF EDGES: at each key the edges rs that leave it, in a row of the call's own from 'base' on; no two keys' rows are one. -/
structure GM (w : World) (b base n : Nat) (V : Int → Value) (rs : List EdR) (D : DataW Value) : Prop where
  own : w.ownsMap Try.prog 3 heldE b n D
  at_ : ∀ x, in64 x → D.atKey (.int .i64 x) (.held nilS) = .held (V x)
  has : ∀ x, in64 x → Maps.has D (.int .i64 x) = decide (0 < (outR rs x).length)
  rows : ∀ x, in64 x → w.ownsRow base 45 7 (V x) (outR rs x).length (flatR (outR rs x))
  apart : ∀ x y, in64 x → in64 y → x ≠ y → (V x).ownBlock = none ∨ (V x).ownBlock ≠ (V y).ownBlock
  lt : b < base

theorem intKey : Keyed Try.prog 3 := int_keyed Try.underlying3
theorem wf64 {x : Int} (h : in64 x) : (Lit.int .i64 x).wf = true := by unfold in64 at h; exact WalkArith.wf_i64 h
theorem keyI {x : Int} (h : in64 x) : keyOf Try.prog 3 (.int .i64 x) = some (.int .i64 x) := keyOf_int_mk Try.underlying3 (wf64 h)
theorem zeroEdges (w : World) : (zeroValue 23).run Try.prog w = .ok nilS w := by kernel_rfl

theorem GM.look {w : World} {b base n : Nat} {V : Int → Value} {rs : List EdR} {D : DataW Value} (h : GM w b base n V rs D) {x : Int} (hx : in64 x) :
    (Instr.lookup 69 (.map (some b)) (.int .i64 x) false).run Try.prog w = .ok (V x) w := by
  obtain ⟨v, hrun, hv⟩ := heldE_at h.own intKey Try.underlying69 (zeroEdges w) (keyI hx)
  rw [h.at_ x hx] at hv
  simp only [DataW.held.injEq] at hv
  rw [hv]
  exact hrun
theorem GM.look_far {w w' : World} {b base n : Nat} {V : Int → Value} {rs : List EdR} {D : DataW Value} {row : Option Nat} (h : GM w b base n V rs D) (hg : w.grownBy w' row) (hne : some b ≠ row) {x : Int} (hx : in64 x) :
    (Instr.lookup 69 (.map (some b)) (.int .i64 x) false).run Try.prog w' = .ok (V x) w' := by
  obtain ⟨v, hrun, hv⟩ := heldE_at (h.own.kept hg hne) intKey Try.underlying69 (zeroEdges w') (keyI hx)
  rw [h.at_ x hx] at hv
  simp only [DataW.held.injEq] at hv
  rw [hv]
  exact hrun
theorem GM.row_ne {w : World} {b base n : Nat} {V : Int → Value} {rs : List EdR} {D : DataW Value} (h : GM w b base n V rs D) {x : Int} (hx : in64 x) : some b ≠ (V x).ownBlock := fun e => by
  have := ((h.rows x hx).lt b e.symm).1
  have := h.lt
  omega
theorem heap_new2 (w : World) (o o' : Obj) : ((w.alloc o).alloc o').drew.heap[w.heap.size + 1]? = some o' := by
  have h := heap_alloc_new (w.alloc o) o'
  rw [World.size_alloc] at h
  exact h
theorem GM.kept {w w' : World} {b base n : Nat} {V : Int → Value} {rs : List EdR} {D : DataW Value} (h : GM w b base n V rs D) (hg : w.grownBy w' none) : GM w' b base n V rs D :=
  ⟨h.own.kept hg (by simp), h.at_, h.has, fun x hx => (h.rows x hx).kept hg (by cases (V x).ownBlock <;> simp), h.apart, h.lt⟩
theorem GM.drew {w : World} {b base n : Nat} {V : Int → Value} {rs : List EdR} {D : DataW Value} (h : GM w b base n V rs D) : GM w.drew b base n V rs D :=
  ⟨h.own, h.at_, h.has, h.rows, h.apart, h.lt⟩
theorem GM.made (w : World) : GM (w.alloc (.map #[] 0)) w.heap.size (w.heap.size + 1) 0 (fun _ => nilS) [] (.map []) :=
  ⟨World.ownsMap_made _ _ _ _, fun _ _ => rfl, fun _ _ => rfl, fun _ _ => World.ownsRow_nil _ _ _ _, fun _ _ _ _ _ => .inl rfl, Nat.lt_succ_self _⟩

/-- ONE EDGE MORE: appended at its node, and stored. -/
theorem GM.step {w w1 : World} {b base n : Nat} {V : Int → Value} {rs : List EdR} {D : DataW Value} (h : GM w b base n V rs D) (r : EdR) (hx : in64 r.e.from_) (v' : Value) (hn : n < maxLen)
    (hg : w.grownBy w1 (V r.e.from_).ownBlock) (hown : w1.ownsRow base 45 7 v' ((outR rs r.e.from_).length + 1) (flatR (outR rs r.e.from_) ++ r.cells))
    (hat : v'.ownBlock = (V r.e.from_).ownBlock ∨ ∃ g, v'.ownBlock = some g ∧ w.heap.size ≤ g) :
    ∃ w2 D2, (Instr.mapUpdate 69 (.map (some b)) (.int .i64 r.e.from_) v').run Try.prog w1 = .ok () w2 ∧ GM w2 b base (n + 1) (fun x => if x = r.e.from_ then v' else V x) (rs ++ [r]) D2 ∧ w1.grownBy w2 (some b) := by
  have hvb : (V r.e.from_).ownBlock ≠ some b := fun e => by
    have := ((h.rows _ hx).lt b e).1
    have := h.lt
    omega
  have hown1 : w1.ownsMap Try.prog 3 heldE b n D := h.own.kept hg (fun e => hvb e.symm)
  obtain ⟨w2, hrun, hown2, hg2⟩ := hown1.update intKey Try.underlying69 hn (keyI hx) (val := v') (d := .held v') (ps := []) rfl
  have kx : WideAt.IsKeyLit (.int .i64 r.e.from_) := intKey.key (keyI hx)
  have bne : ∀ {u : Value} {m : Nat} {xs : List Value}, w1.ownsRow base 45 7 u m xs → u.ownBlock = none ∨ u.ownBlock ≠ some b := fun {u m xs} ho => by
    cases hu : u.ownBlock with
    | none => exact .inl rfl
    | some g =>
      refine .inr fun e => ?_
      have := (ho.lt g hu).1
      have := h.lt
      cases e
      omega
  have oth : ∀ x, x ≠ r.e.from_ → outR (rs ++ [r]) x = outR rs x := fun x hne => by
    simp [outR, List.filter_append, Ne.symm hne]
  have same : outR (rs ++ [r]) r.e.from_ = outR rs r.e.from_ ++ [r] := by simp [outR, List.filter_append]
  refine ⟨w2, _, hrun, ⟨hown2, fun x hxx => ?_, fun x hxx => ?_, fun x hxx => ?_, fun x y hxx hyy hne => ?_, h.lt⟩, hg2⟩
  · by_cases e : x = r.e.from_
    · subst e
      rw [Maps.atKey_put_same hown1.isMap kx, if_pos rfl]
    · rw [Maps.atKey_put_other (by simpa using e), if_neg e]
      exact h.at_ x hxx
  · by_cases e : x = r.e.from_
    · subst e
      rw [Maps.has_put_same hown1.isMap kx, same]
      simp
    · rw [Maps.has_put_other (by simpa using e), oth x e]
      exact h.has x hxx
  · by_cases e : x = r.e.from_
    · subst e
      rw [if_pos rfl, same]
      have : flatR (outR rs r.e.from_ ++ [r]) = flatR (outR rs r.e.from_) ++ r.cells := by simp [flatR]
      rw [this, List.length_append]
      exact hown.kept hg2 (bne hown)
    · rw [if_neg e, oth x e]
      have h1 := (h.rows x hxx).kept hg (h.apart x r.e.from_ hxx hx e)
      exact h1.kept hg2 (bne h1)
  · have far : ∀ x, in64 x → x ≠ r.e.from_ → (V x).ownBlock = none ∨ (V x).ownBlock ≠ v'.ownBlock := fun x hxx hne => by
      rcases hat with e | ⟨g, e, hge⟩
      · rw [e]
        exact h.apart x _ hxx hx hne
      · cases hu : (V x).ownBlock with
        | none => exact .inl rfl
        | some g' =>
          refine .inr fun e' => ?_
          rw [e] at e'
          have := ((h.rows x hxx).lt g' hu).2
          cases e'
          omega
    by_cases e : x = r.e.from_
    · subst e
      have hy : y ≠ r.e.from_ := fun e => hne e.symm
      rw [if_pos rfl, if_neg hy]
      rcases far y hyy hy with h1 | h1
      · cases hv : v'.ownBlock with
        | none => exact .inl rfl
        | some g => exact .inr (by rw [h1]; simp)
      · exact .inr (fun e => h1 e.symm)
    · rw [if_neg e]
      by_cases e' : y = r.e.from_
      · rw [if_pos e']
        exact far x hxx e
      · rw [if_neg e']
        exact h.apart x y hxx hyy hne
end Go.Proofs.Ytdflbaipbmkdgaa
