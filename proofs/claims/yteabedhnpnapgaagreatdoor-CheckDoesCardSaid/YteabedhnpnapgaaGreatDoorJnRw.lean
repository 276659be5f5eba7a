/-
  Rows that grow by one thing at a time: what they hold, and what they are in the end.
-/
import Derived.Test.YteabedhnpnapgaaGreatDoorRwApp
import Derived.Deep.AppendLies
import Derived.Test.YteabedhnpnapgaaGreatDoorTrItem
import Derived.Test.YteabedhnpnapgaaGreatDoorRows
import Derived.WalkKit
import Derived.OwnWalk
namespace Go.Proofs.YteabedhnpnapgaaGreatDoor
open Go.RowKit
set_option linter.unusedVariables false
set_option linter.unusedSimpArgs false

/-- the cells of things, one behind another -/
def RowR {α : Type} (one : World → (Nat → Prop) → α → List Value → Prop) (w : World) (S : Nat → Prop) : List α → List Value → Prop
  | [], cs => cs = []
  | x :: xs, cs => ∃ ys cs', cs = ys ++ cs' ∧ one w S x ys ∧ RowR one w S xs cs'
/-- a thing's cells stay what they are -/
def OneK {α : Type} (one : World → (Nat → Prop) → α → List Value → Prop) : Prop := ∀ (w w' : World) (S S' : Nat → Prop) (x : α) (ys : List Value), SameS S w w' → (∀ b, S b → S' b) → one w S x ys → one w' S' x ys
section
variable {α : Type} {one : World → (Nat → Prop) → α → List Value → Prop}
theorem RowR.imp (ho : OneK one) {w w' : World} {S S' : Nat → Prop} (hf : SameS S w w') (hs : ∀ b, S b → S' b) : ∀ {xs : List α} {cs : List Value}, RowR one w S xs cs → RowR one w' S' xs cs
  | [], _, h => h
  | x :: xs, cs, h => by
    obtain ⟨ys, cs', e, h1, h2⟩ := h
    exact ⟨ys, cs', e, ho _ _ _ _ _ _ hf hs h1, RowR.imp ho hf hs h2⟩
theorem RowR.snoc {w : World} {S : Nat → Prop} {y : α} {zs : List Value} (hy : one w S y zs) : ∀ {xs : List α} {cs : List Value}, RowR one w S xs cs → RowR one w S (xs ++ [y]) (cs ++ zs)
  | [], cs, h => by
    have h : cs = [] := h
    subst h
    exact ⟨zs, [], by simp, hy, rfl⟩
  | x :: xs, cs, h => by
    obtain ⟨ys, cs', e, h1, h2⟩ := h
    exact ⟨ys, cs' ++ zs, by rw [e, List.append_assoc], h1, RowR.snoc hy h2⟩
/-- one more: wr is the loop's head, w7 the world ahead of the append, w9 behind it -/
theorem RowR.step (ho : OneK one) {L size : Nat} {t : TypeId} {wr w7 w9 : World} {v v' : Value} {acc : List α} {cs zs : List Value} {y : α}
    (hrow : wr.ownsRow L t size v acc.length cs) (hL : L ≤ wr.heap.size) (hrows : RowR one wr (NewR L v wr) acc cs) (hf : Fr NoT wr w7) (hy : one w7 (fun b => wr.heap.size ≤ b ∧ b < w7.heap.size) y zs)
    (hg : w7.grownBy w9 v.ownBlock) (hsp : v'.ownBlock = v.ownBlock ∨ v'.ownBlock = some w7.heap.size) :
    RowR one w9 (NewR L v' w9) (acc ++ [y]) (cs ++ zs) ∧ Fr (fun b => L ≤ b) wr w9 := by
  have hlt := hrow.lt
  have hsf := hf.size
  have hsg := hg.size
  have hgf : Fr (fun b => v.ownBlock = some b) w7 w9 := Fr.grown hg fun g e _ => e
  have hrf : Fr (fun b => v.ownBlock = some b) wr w9 := hf.any.trans hgf
  have hnew : ∀ b, b < w7.heap.size → v.ownBlock ≠ some b → v'.ownBlock ≠ some b := fun b hb hn e => by
    rcases hsp with h | h
    · exact hn (h ▸ e)
    · rw [h] at e
      have := Option.some.inj e
      omega
  refine ⟨RowR.snoc (ho _ _ _ _ _ _ (hgf.same fun b hb => ⟨hb.2, fun e => ?_⟩) (fun b hb => ?_) hy) (RowR.imp ho (hrf.same fun b hb => ⟨hb.2.1, hb.2.2⟩) (fun b hb => ⟨hb.1, by have := hb.2.1; omega, hnew b (by have := hb.2.1; omega) hb.2.2⟩) hrows), hrf.mono fun b _ e => (hlt _ e).1⟩
  · have := hb.1
    have := (hlt _ e).2
    omega
  · have h1 := hb.1
    have h2 := hb.2
    refine ⟨by omega, by omega, hnew b h2 fun e => ?_⟩
    have := (hlt _ e).2
    omega
/-- in the end -/
theorem RowR.slice (ho : OneK one) {L size sz : Nat} {t : TypeId} {w : World} {v : Value} {acc : List α} {cs : List Value} {P : Nat → Nat → Prop}
    (hr : w.ownsRow L t size v acc.length cs) (hx : RowR one w (NewR L v w) acc cs) (hsz : acc.length * sz ≤ 140737488355328)
    (hP : ∀ g, New L w g → RowR one w (New L w) acc cs → (∀ j u, cs[j]? = some u → w.cell? ⟨g, j, none⟩ = some u) → P g 0) : ∃ A c, v = .slice A acc.length c ∧ SlR P acc.length sz A c := by
  rcases hr.2 with ⟨rfl, h0⟩ | ⟨g, cap, cur, rfl, hb, hg, hn, hc, hcs, ht⟩
  · exact ⟨none, 0, by rw [h0], by rw [h0]; exact ⟨Nat.le_refl _, ⟨by decide, by omega⟩, fun h => absurd h (Nat.lt_irrefl 0)⟩⟩
  · have hl : g < w.heap.size := (Array.getElem?_eq_some_iff.1 hg).1
    refine ⟨some ⟨g, 0, none⟩, cap, rfl, ⟨hn, ⟨by unfold maxLen at hc; omega, hsz⟩, fun _ => ⟨g, 0, rfl, hP g ⟨hb, hl⟩ (RowR.imp ho (SameS.refl _ _) (fun b hb => ⟨hb.1, hb.2.1⟩) hx) fun j u hj => ?_⟩⟩⟩
    have := hr.cells (g := g) rfl j u hj
    have hadd : (⟨g, 0, none⟩ : Addr).add j = ⟨g, j, none⟩ := by
      unfold Addr.add; split <;> simp_all
    rw [hadd] at this
    exact this
end
/-! expressions -/
def oneX (w : World) (S : Nat → Prop) (x : Ex) (ys : List Value) : Prop := ∃ A c, ys = [.int .u8 x.k, .string x.nm, .int .i64 x.n, .slice A x.args.len c, .int .i64 x.at_] ∧ in8 x.k ∧ in64 x.n ∧ in64 x.at_ ∧ SlR (ExR w S False x.args) x.args.len 64 A c
theorem oneX_keep : OneK oneX := fun w w' S S' x ys hf hs h => by
  obtain ⟨A, c, e, h1, h2, h3, h4⟩ := h
  exact ⟨A, c, e, h1, h2, h3, h4.imp fun _ _ h => ExR.more hs (ExR.keep hf h)⟩
theorem rowX {w : World} {S : Nat → Prop} {g : Nat} (hg : S g) : ∀ {xs : List Ex} {cs : List Value} {o : Nat}, RowR oneX w S xs cs → (∀ j u, cs[j]? = some u → w.cell? ⟨g, o + j, none⟩ = some u) → ExR w S False (exsOf xs) g o
  | [], _, _, _, _ => trivial
  | x :: xs, cs, o, h, hc => by
    obtain ⟨ys, cs', e, ⟨A, c, e2, h1, h2, h3, h4⟩, h5⟩ := h
    subst e2
    subst e
    refine ⟨⟨hg, fun h => absurd h id, h1, h2, h3, hc 0 _ rfl, hc 1 _ rfl, hc 2 _ rfl, hc 4 _ rfl⟩, ⟨A, c, hc 3 _ rfl, h4⟩, rowX hg h5 fun j u hj => ?_⟩
    have := hc (5 + j) u (by rw [List.getElem?_append_right (by simp)]; simpa using hj)
    rw [Nat.add_assoc]
    exact this
/-! conditions -/
def cdsOf' : List Cn → Cds
  | [] => .nil
  | x :: r => x.cons (cdsOf' r)
theorem cdsOf'_len : ∀ xs, (cdsOf' xs).len = xs.length
  | [] => rfl
  | x :: r => by show (cdsOf' r).len + 1 = _; rw [cdsOf'_len r]; rfl
def oneC (w : World) (S : Nat → Prop) (x : Cn) (ys : List Value) : Prop := ∃ A c B e, ys = [.int .u8 x.k, .slice A x.args.len c, .slice B x.of_.len e, .int .i64 x.at_] ∧ in8 x.k ∧ in64 x.at_ ∧ SlR (ExR w S False x.args) x.args.len 64 A c ∧ SlR (CdR w S False x.of_) x.of_.len 64 B e
theorem oneC_keep : OneK oneC := fun w w' S S' x ys hf hs h => by
  obtain ⟨A, c, B, e, he, h1, h2, h3, h4⟩ := h
  exact ⟨A, c, B, e, he, h1, h2, h3.imp fun _ _ h => ExR.more hs (ExR.keep hf h), h4.imp fun _ _ h => CdR.more hs (CdR.keep hf h)⟩
theorem rowC {w : World} {S : Nat → Prop} {g : Nat} (hg : S g) : ∀ {xs : List Cn} {cs : List Value} {o : Nat}, RowR oneC w S xs cs → (∀ j u, cs[j]? = some u → w.cell? ⟨g, o + j, none⟩ = some u) → CdR w S False (cdsOf' xs) g o
  | [], _, _, _, _ => trivial
  | x :: xs, cs, o, h, hc => by
    obtain ⟨ys, cs', e, ⟨A, c, B, e', e2, h1, h2, h3, h4⟩, h5⟩ := h
    subst e2
    subst e
    refine ⟨⟨hg, fun h => absurd h id, h1, h2, hc 0 _ rfl, hc 3 _ rfl⟩, ⟨A, c, hc 1 _ rfl, h3⟩, ⟨B, e', hc 2 _ rfl, h4⟩, rowC hg h5 fun j u hj => ?_⟩
    have := hc (4 + j) u (by rw [List.getElem?_append_right (by simp)]; simpa using hj)
    rw [Nat.add_assoc]
    exact this
/-! statements -/
def oneS (w : World) (S : Nat → Prop) (x : St) (ys : List Value) : Prop := ∃ A2 c2 A3 c3 A4 c4 A5 c5, ys = [.int .u8 x.k, .string x.nm, .slice A2 x.args.len c2, .slice A3 x.cond.len c3, .slice A4 x.body.len c4, .slice A5 x.els.len c5, .int .i64 x.at_] ∧ in8 x.k ∧ in64 x.at_ ∧
  SlR (ExR w S False x.args) x.args.len 64 A2 c2 ∧ SlR (CdR w S False x.cond) x.cond.len 64 A3 c3 ∧ SlR (StR w S False x.body) x.body.len 128 A4 c4 ∧ SlR (StR w S False x.els) x.els.len 128 A5 c5
theorem oneS_keep : OneK oneS := fun w w' S S' x ys hf hs h => by
  obtain ⟨A2, c2, A3, c3, A4, c4, A5, c5, he, h1, h2, h3, h4, h5, h6⟩ := h
  exact ⟨A2, c2, A3, c3, A4, c4, A5, c5, he, h1, h2, h3.imp fun _ _ h => ExR.more hs (ExR.keep hf h), h4.imp fun _ _ h => CdR.more hs (CdR.keep hf h), h5.imp fun _ _ h => StR.more hs (StR.keep hf h), h6.imp fun _ _ h => StR.more hs (StR.keep hf h)⟩
theorem rowS {w : World} {S : Nat → Prop} {g : Nat} (hg : S g) : ∀ {xs : List St} {cs : List Value} {o : Nat}, RowR oneS w S xs cs → (∀ j u, cs[j]? = some u → w.cell? ⟨g, o + j, none⟩ = some u) → StR w S False (stsOf xs) g o
  | [], _, _, _, _ => trivial
  | x :: xs, cs, o, h, hc => by
    obtain ⟨ys, cs', e, ⟨A2, c2, A3, c3, A4, c4, A5, c5, e2, h1, h2, h3, h4, h6, h7⟩, h5⟩ := h
    subst e2
    subst e
    refine ⟨⟨hg, fun h => absurd h id, h1, h2, hc 0 _ rfl, hc 1 _ rfl, hc 6 _ rfl⟩, ⟨_, _, hc 2 _ rfl, h3⟩, ⟨_, _, hc 3 _ rfl, h4⟩, ⟨_, _, hc 4 _ rfl, h6⟩, ⟨_, _, hc 5 _ rfl, h7⟩, rowS hg h5 fun j u hj => ?_⟩
    have := hc (7 + j) u (by rw [List.getElem?_append_right (by simp)]; simpa using hj)
    rw [Nat.add_assoc]
    exact this
/-! names, arrays, procedures -/
def oneV (w : World) (S : Nat → Prop) (x : Va) (ys : List Value) : Prop := ys = [.string x.nm, .int .i64 x.at_] ∧ in64 x.at_
theorem oneV_keep : OneK oneV := fun w w' S S' x ys hf hs h => h
theorem rowV {w : World} {S : Nat → Prop} {g : Nat} (hg : S g) : ∀ {xs : List Va} {cs : List Value} {o : Nat}, RowR oneV w S xs cs → (∀ j u, cs[j]? = some u → w.cell? ⟨g, o + j, none⟩ = some u) → VaR w S False xs g o
  | [], _, _, _, _ => trivial
  | x :: xs, cs, o, h, hc => by
    obtain ⟨ys, cs', e, ⟨e2, h1⟩, h5⟩ := h
    subst e2
    subst e
    refine ⟨⟨hg, fun h => absurd h id, h1, hc 0 _ rfl, hc 1 _ rfl⟩, rowV hg h5 fun j u hj => ?_⟩
    have := hc (2 + j) u (by rw [List.getElem?_append_right (by simp)]; simpa using hj)
    rw [Nat.add_assoc]
    exact this
def oneA (w : World) (S : Nat → Prop) (x : Arr) (ys : List Value) : Prop := ys = [.string x.nm, .int .i64 x.size, .int .i64 x.at_] ∧ in64 x.size ∧ in64 x.at_
theorem oneA_keep : OneK oneA := fun w w' S S' x ys hf hs h => h
theorem rowA {w : World} {S : Nat → Prop} {g : Nat} (hg : S g) : ∀ {xs : List Arr} {cs : List Value} {o : Nat}, RowR oneA w S xs cs → (∀ j u, cs[j]? = some u → w.cell? ⟨g, o + j, none⟩ = some u) → ArR w S False xs g o
  | [], _, _, _, _ => trivial
  | x :: xs, cs, o, h, hc => by
    obtain ⟨ys, cs', e, ⟨e2, h0, h1⟩, h5⟩ := h
    subst e2
    subst e
    refine ⟨⟨hg, fun h => absurd h id, h0, h1, hc 0 _ rfl, hc 1 _ rfl, hc 2 _ rfl⟩, rowA hg h5 fun j u hj => ?_⟩
    have := hc (3 + j) u (by rw [List.getElem?_append_right (by simp)]; simpa using hj)
    rw [Nat.add_assoc]
    exact this
def oneP (w : World) (S : Nat → Prop) (x : Prc) (ys : List Value) : Prop := ∃ A c B e, ys = [.string x.nm, .slice A x.params.length c, .slice B x.body.len e, .int .i64 x.at_] ∧ in64 x.at_ ∧ SlR (VaR w S False x.params) x.params.length 24 A c ∧ SlR (StR w S False x.body) x.body.len 128 B e
theorem oneP_keep : OneK oneP := fun w w' S S' x ys hf hs h => by
  obtain ⟨A, c, B, e, he, h1, h2, h3⟩ := h
  exact ⟨A, c, B, e, he, h1, h2.imp fun _ _ h => VaR.more hs (VaR.keep hf h), h3.imp fun _ _ h => StR.more hs (StR.keep hf h)⟩
theorem rowP {w : World} {S : Nat → Prop} {g : Nat} (hg : S g) : ∀ {xs : List Prc} {cs : List Value} {o : Nat}, RowR oneP w S xs cs → (∀ j u, cs[j]? = some u → w.cell? ⟨g, o + j, none⟩ = some u) → PrR w S False xs g o
  | [], _, _, _, _ => trivial
  | x :: xs, cs, o, h, hc => by
    obtain ⟨ys, cs', e, ⟨A, c, B, e', e2, h1, h2, h3⟩, h5⟩ := h
    subst e2
    subst e
    refine ⟨⟨hg, fun h => absurd h id, h1, hc 0 _ rfl, hc 3 _ rfl⟩, ⟨_, _, hc 1 _ rfl, h2⟩, ⟨_, _, hc 2 _ rfl, h3⟩, rowP hg h5 fun j u hj => ?_⟩
    have := hc (4 + j) u (by rw [List.getElem?_append_right (by simp)]; simpa using hj)
    rw [Nat.add_assoc]
    exact this
end Go.Proofs.YteabedhnpnapgaaGreatDoor

/-
  What the types of programs' things are.
-/
namespace Go.Proofs.YteabedhnpnapgaaGreatDoor
open Go.RowKit
set_option linter.unusedVariables false
set_option linter.unusedSimpArgs false

theorem infoEx : (Tryz.prog.info? 101).map (fun i => (i.zero, i.size, i.bytes)) = some (some (.agg #[.int .u8 0, .string ⟨#[]⟩, .int .i64 0, .slice none 0 0, .int .i64 0]), 5, 64) := by kernel_rfl
theorem infoCd : (Tryz.prog.info? 103).map (fun i => (i.zero, i.size, i.bytes)) = some (some (.agg #[.int .u8 0, .slice none 0 0, .slice none 0 0, .int .i64 0]), 4, 64) := by kernel_rfl
theorem infoVa : (Tryz.prog.info? 50).map (fun i => (i.zero, i.size, i.bytes)) = some (some (.agg #[.string ⟨#[]⟩, .int .i64 0]), 2, 24) := by kernel_rfl
theorem infoAr : (Tryz.prog.info? 39).map (fun i => (i.zero, i.size, i.bytes)) = some (some (.agg #[.string ⟨#[]⟩, .int .i64 0, .int .i64 0]), 3, 32) := by kernel_rfl
def zeroSt : Array Value := #[.int .u8 0, .string ⟨#[]⟩, .slice none 0 0, .slice none 0 0, .slice none 0 0, .slice none 0 0, .int .i64 0]
theorem infoSt : (Tryz.prog.info? 72).map (fun i => (i.zero, i.size, i.bytes)) = some (some (.agg zeroSt), 7, 128) := by kernel_rfl
theorem infoPc : (Tryz.prog.info? 41).map (fun i => (i.zero, i.size, i.bytes)) = some (some (.agg #[.string ⟨#[]⟩, .slice none 0 0, .slice none 0 0, .int .i64 0]), 4, 72) := by kernel_rfl
end Go.Proofs.YteabedhnpnapgaaGreatDoor
