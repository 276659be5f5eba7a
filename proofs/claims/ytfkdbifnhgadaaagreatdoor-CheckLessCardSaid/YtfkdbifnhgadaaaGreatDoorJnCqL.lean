/-
  Statements as raw cells: out of memory, and into a new row; beginnings of lists. No walk.
-/
import Derived.Test.YtfkdbifnhgadaaaGreatDoorJnCq
import Derived.Test.YtfkdbifnhgadaaaGreatDoorTrOpen
import Derived.Test.YtfkdbifnhgadaaaGreatDoorJnSt
import Derived.IntWalk
namespace Go.Proofs.YtfkdbifnhgadaaaGreatDoor
open Go.RowKit Go.Shelf
set_option linter.unusedVariables false
set_option linter.unusedSimpArgs false

/-- an append that is known to run so -/
theorem wpList_append_run {P : Program} {w w' : World} {ops : Array Oper} {rest : List Oper} {o : Oper} {a : Act} {Q : Exit → Act → World → Prop} (hgd : o.guard = none) (s x : Operand) (t : TypeId)
    (ho : o.op = .call { callee := .builtin .append, args := #[s, x], argTypes := #[t, t] }) (sv xv v' : Value) (hs : a.eval s = sv) (hx : a.eval x = xv)
    (hr : (Builtin.append_ #[t, t] o.type #[sv, xv]).run P w = .ok v' w') (h : wpList P ops Q rest (a.put o.dst v') w') : wpList P ops Q (o :: rest) a w := by
  refine wpList_plain hgd fun K hK => ?_
  unfold Oper.wp execOp
  simp only [ho, resolve, invoke, builtin, Sem.run_bind, Sem.run_pure, Result.andThen_ok, List.map_toArray, List.map_cons, List.map_nil, hs, hx, hr]
  exact hK _ _ h
def stRaw (k : Int) (nm : ByteArray) (A2 : Option Addr) (l2 q2 : Nat) (A3 : Option Addr) (l3 q3 : Nat) (A4 : Option Addr) (l4 q4 : Nat) (A5 : Option Addr) (l5 q5 : Nat) (at_ : Int) : List Value :=
  [.int .u8 k, .string nm, .slice A2 l2 q2, .slice A3 l3 q3, .slice A4 l4 q4, .slice A5 l5 q5, .int .i64 at_]
theorem StR.raw {w : World} {S : Nat → Prop} : ∀ {xs : Sts} {b o : Nat}, StR w S False xs b o → ∃ vs : List Value, vs.length = xs.len * 7 ∧ (∀ u ∈ vs, u.oneCell' = true) ∧ (∀ j u, vs[j]? = some u → w.cell? ⟨b, o + j, none⟩ = some u) ∧
    ∀ (w' : World) (S' : Nat → Prop) (g p : Nat), S' g → SameS S w w' → (∀ x, S x → S' x) → (∀ j u, vs[j]? = some u → w'.cell? ⟨g, p + j, none⟩ = some u) → StR w' S' False xs g p
  | .nil, _, _, _ => ⟨[], rfl, fun u hu => by simp at hu, fun j u hj => by simp at hj, fun _ _ _ _ _ _ _ _ => trivial⟩
  | .cons k nm args cond body els at_ r, b, o, ⟨⟨hb, hf, r0, r1, c0, c1, c6⟩, ⟨A2, q2, c2, s2⟩, ⟨A3, q3, c3, s3⟩, ⟨A4, q4, c4, s4⟩, ⟨A5, q5, c5, s5⟩, hr⟩ => by
    obtain ⟨vs, h1, h2, h3, h4⟩ := StR.raw hr
    refine ⟨stRaw k nm A2 args.len q2 A3 cond.len q3 A4 body.len q4 A5 els.len q5 at_ ++ vs, by simp [stRaw, Sts.len, h1]; omega, fun u hu => ?_, fun j u hj => ?_, fun w' S' g p hg hs hss hc => ?_⟩
    · rcases List.mem_append.1 hu with hu | hu
      · simp only [stRaw, List.mem_cons, List.not_mem_nil, or_false] at hu
        rcases hu with rfl | rfl | rfl | rfl | rfl | rfl | rfl <;> rfl
      · exact h2 u hu
    · match j, hj with
      | 0, hj => simp [stRaw] at hj; rw [← hj]; exact c0
      | 1, hj => simp [stRaw] at hj; rw [← hj]; exact c1
      | 2, hj => simp [stRaw] at hj; rw [← hj]; exact c2
      | 3, hj => simp [stRaw] at hj; rw [← hj]; exact c3
      | 4, hj => simp [stRaw] at hj; rw [← hj]; exact c4
      | 5, hj => simp [stRaw] at hj; rw [← hj]; exact c5
      | 6, hj => simp [stRaw] at hj; rw [← hj]; exact c6
      | j + 7, hj =>
        have hj2 : vs[j]? = some u := by simpa [stRaw] using hj
        have := h3 j u hj2
        rw [show o + (j + 7) = o + 7 + j from by omega]
        exact this
    · have e : ∀ j u, (stRaw k nm A2 args.len q2 A3 cond.len q3 A4 body.len q4 A5 els.len q5 at_)[j]? = some u → w'.cell? ⟨g, p + j, none⟩ = some u := fun j u hj => hc j u (by
        rw [List.getElem?_append_left (by have := (List.getElem?_eq_some_iff.1 hj).1; exact this)]
        exact hj)
      refine ⟨⟨hg, fun h => h.elim, r0, r1, e 0 _ rfl, e 1 _ rfl, e 6 _ rfl⟩, ⟨A2, q2, e 2 _ rfl, s2.imp fun _ _ hx => (ExR.more hss (ExR.keep hs hx))⟩, ⟨A3, q3, e 3 _ rfl, s3.imp fun _ _ hx => (CdR.more hss (CdR.keep hs hx))⟩, ⟨A4, q4, e 4 _ rfl, s4.imp fun _ _ hx => (StR.more hss (StR.keep hs hx))⟩, ⟨A5, q5, e 5 _ rfl, s5.imp fun _ _ hx => (StR.more hss (StR.keep hs hx))⟩, ?_⟩
      refine h4 w' S' g (p + 7) hg hs hss fun j u hj => ?_
      have := hc (j + 7) u (by rw [List.getElem?_append_right (by simp [stRaw])]; simpa [stRaw] using hj)
      rw [show p + 7 + j = p + (j + 7) from by omega]
      exact this
theorem StR.app {w : World} {S : Nat → Prop} {Z : Prop} {ys : Sts} : ∀ {xs : Sts} {b o : Nat}, StR w S Z xs b o → StR w S Z ys b (o + xs.len * 7) → StR w S Z (Sts.app xs ys) b o
  | .nil, b, o, _, h => by simpa [Sts.len, Sts.app] using h
  | .cons k nm args cond body els at_ r, b, o, ⟨h1, h2, h3, h4, h5, hr⟩, h => ⟨h1, h2, h3, h4, h5, StR.app hr (by
      rw [show o + 7 + r.len * 7 = o + (Sts.cons k nm args cond body els at_ r).len * 7 from by simp only [Sts.len]; omega]
      exact h)⟩
theorem StR.take {w : World} {S : Nat → Prop} {Z : Prop} : ∀ (i : Nat) {xs : Sts} {b o : Nat}, StR w S Z xs b o → StR w S Z (Sts.take i xs) b o
  | 0, _, _, _, _ => trivial
  | _ + 1, .nil, _, _, _ => trivial
  | i + 1, .cons _ _ _ _ _ _ _ _, _, _, ⟨h1, h2, h3, h4, h5, hr⟩ => ⟨h1, h2, h3, h4, h5, StR.take i hr⟩
theorem PrR.take {w : World} {S : Nat → Prop} {Z : Prop} : ∀ (i : Nat) {xs : List Prc} {b o : Nat}, PrR w S Z xs b o → PrR w S Z (xs.take i) b o
  | 0, _, _, _, _ => trivial
  | _ + 1, [], _, _, _ => trivial
  | i + 1, _ :: _, _, _, ⟨h1, h2, h3, hr⟩ => ⟨h1, h2, h3, PrR.take i hr⟩
theorem szS_take : ∀ (i : Nat) {xs : Sts}, szS xs → szS (Sts.take i xs)
  | 0, _, _ => trivial
  | _ + 1, .nil, _ => trivial
  | i + 1, .cons _ _ _ _ _ _ _ _, ⟨h0, h1, h2, h3, h4, hr⟩ => ⟨h0, h1, h2, h3, h4, szS_take i hr⟩
theorem szS_app : ∀ {xs ys : Sts}, szS xs → szS ys → szS (Sts.app xs ys)
  | .nil, _, _, h => h
  | .cons _ _ _ _ _ _ _ _, _, ⟨h0, h1, h2, h3, h4, hr⟩, h => ⟨h0, h1, h2, h3, h4, szS_app hr h⟩
/-- main put behind nothing -/
theorem app_main {w : World} {S : Nat → Prop} {xs : Sts} {A : Option Addr} {c : Nat} (hx : SlR (fun b o => StR w S False xs b o) xs.len 128 A c) (base : Nat) (hbase : base ≤ w.heap.size) (ty : TypeId) :
    ∃ v' w' vs, (Builtin.append_ #[25, 25] ty #[.slice none 0 0, .slice A xs.len c]).run Tryz.prog w = .ok v' w' ∧ w'.ownsRow base 46 7 v' xs.len vs ∧ Fr NoT w w' ∧ vs.length = xs.len * 7 ∧
      ∀ (w2 : World) (S' : Nat → Prop) (g p : Nat), S' g → SameS S w w2 → (∀ x, S x → S' x) → (∀ j u, vs[j]? = some u → w2.cell? ⟨g, p + j, none⟩ = some u) → StR w2 S' False xs g p := by
  obtain ⟨i0, hi, hz0, hz1, hz2⟩ := info_parts infoSt
  have hm : xs.len ≤ 9223372036854775807 := Nat.le_trans hx.1 hx.2.1.1
  by_cases h0 : 0 < xs.len
  · obtain ⟨b, o, rfl, hat⟩ := hx.2.2 h0
    obtain ⟨vs, h1, h2, h3, h4⟩ := StR.raw hat
    obtain ⟨v', w', hr, ho, hg, _⟩ := run_append_own (P := Tryz.prog) w base 25 ty 46 i0 (.agg zeroSt) 7 128 Tryz.underlying25 hi hz0 hz1 hz2 rfl (by decide) (.slice none 0 0) 0 [] (World.ownsRow_nil _ _ _ _) ⟨b, o, none⟩ xs.len c vs h1
      (fun j u hj => by
        have := h3 j u hj
        have e : (⟨b, o, none⟩ : Addr).add j = ⟨b, o + j, none⟩ := by unfold Addr.add; split <;> simp_all
        rw [e]; exact this) h2 (by unfold maxLen; omega) (by have := hx.2.1.2; omega) hbase
    refine ⟨v', w', vs, hr, by simpa using ho, Fr.grown hg fun g e _ => by simp [Value.ownBlock] at e, h1, h4⟩
  · have hl : xs.len = 0 := by omega
    have hxn : xs = .nil := by cases xs with | nil => rfl | cons => simp [Sts.len] at hl
    subst hxn
    cases A with
    | some a =>
      obtain ⟨v', w', hr, ho, hg, _⟩ := run_append_own (P := Tryz.prog) w base 25 ty 46 i0 (.agg zeroSt) 7 128 Tryz.underlying25 hi hz0 hz1 hz2 rfl (by decide) (.slice none 0 0) 0 [] (World.ownsRow_nil _ _ _ _) a 0 c [] rfl (fun j u hj => by simp at hj) (fun u hu => by simp at hu) (by decide) (by decide) hbase
      exact ⟨v', w', [], hr, ho, Fr.grown hg fun g e _ => by simp [Value.ownBlock] at e, rfl, fun _ _ _ _ _ _ _ _ => trivial⟩
    | none =>
      refine ⟨.slice none 0 0, w, [], ?_, World.ownsRow_nil _ _ _ _, Fr.refl _ _, rfl, fun _ _ _ _ _ _ _ _ => trivial⟩
      have hty := hz1
      simp [Builtin.append_, run_underlying Tryz.underlying25, sizeOf, typeInfo, hi, Builtin.lenOf, Builtin.firstCells, Sts.len]
/-- .. and a skip behind it -/
theorem app_skip {w : World} {base n : Nat} {v : Value} {vs : List Value} (ho : w.ownsRow base 46 7 v n vs) (hn : n * 128 ≤ 140737488351232) (hbase : base ≤ w.heap.size) {a : Nat} (hb : Bk w a 46 (stRaw 1 ⟨#[]⟩ none 0 0 none 0 0 none 0 0 none 0 0 0).toArray) (ty : TypeId) :
    ∃ g cap w', (Builtin.append_ #[25, 25] ty #[v, .slice (some ⟨a, 0, none⟩) 1 1]).run Tryz.prog w = .ok (.slice (some ⟨g, 0, none⟩) (n + 1) cap) w' ∧ n + 1 ≤ cap ∧ cap ≤ 9223372036854775807 ∧ base ≤ g ∧ g < w'.heap.size ∧ Fr (fun b => base ≤ b) w w' ∧
      ∀ j u, (vs ++ stRaw 1 ⟨#[]⟩ none 0 0 none 0 0 none 0 0 none 0 0 0)[j]? = some u → w'.cell? ⟨g, j, none⟩ = some u := by
  obtain ⟨i0, hi, hz0, hz1, hz2⟩ := info_parts infoSt
  obtain ⟨v', w', hr, ho2, hg, _⟩ := run_append_own (P := Tryz.prog) w base 25 ty 46 i0 (.agg zeroSt) 7 128 Tryz.underlying25 hi hz0 hz1 hz2 rfl (by decide) v n vs ho ⟨a, 0, none⟩ 1 1 (stRaw 1 ⟨#[]⟩ none 0 0 none 0 0 none 0 0 none 0 0 0) rfl
    (fun j u hj => by
      have := hb.cell j
      have e : (⟨a, 0, none⟩ : Addr).add j = ⟨a, j, none⟩ := by unfold Addr.add; split <;> simp_all
      rw [e, this]; simpa using hj) (fun u hu => by
        simp only [stRaw, List.mem_cons, List.not_mem_nil, or_false] at hu
        rcases hu with rfl | rfl | rfl | rfl | rfl | rfl | rfl <;> rfl) (by unfold maxLen; omega) (by omega) hbase
  obtain ⟨g, cap, rfl, hg1, hg2⟩ := ho2.form (by omega)
  have hcap : n + 1 ≤ cap ∧ cap ≤ 9223372036854775807 := by
    rcases ho2.2 with ⟨h, _⟩ | ⟨g', cap', cur, h, _, _, h3, h4, _⟩
    · simp at h
    · simp only [Value.slice.injEq, Option.some.injEq] at h
      obtain ⟨_, _, rfl⟩ := h
      exact ⟨h3, by simpa [maxLen] using h4⟩
  refine ⟨g, cap, w', hr, hcap.1, hcap.2, hg1, hg2, Fr.grown hg fun g' e _ => (ho.lt g' e).1, fun j u hj => ?_⟩
  have hj2 : j < (n + 1) * 7 := by
    have h1 := (List.getElem?_eq_some_iff.1 hj).1
    have h2 := ho2.1
    omega
  rw [ho2.cellAt j hj2]
  exact hj
end Go.Proofs.YtfkdbifnhgadaaaGreatDoor

/-
  law11.CheckLess.
-/
namespace Go.Proofs.YtfkdbifnhgadaaaGreatDoor
open Go.RowKit Go.Shelf
set_option linter.unusedVariables false
set_option linter.unusedSimpArgs false

/-- what came in, in whatever world behind it -/
structure LessC (t : Tre) (w : World) (S : Nat → Prop) (Av Aa Ap Am : Option Addr) (cv ca cp cm : Nat) : Prop where
  env : NameEnv w
  low : ∀ b, S b → b < w.heap.size
  size : SzT t
  tree : TrR w S False t Av Aa Ap Am cv ca cp cm
  bound : BdT t
theorem LessC.at_ {t : Tre} {w W : World} {S : Nat → Prop} {Av Aa Ap Am : Option Addr} {cv ca cp cm : Nat} (h : LessC t w S Av Aa Ap Am cv ca cp cm) (hf : Fr NoT w W) : LessC t W S Av Aa Ap Am cv ca cp cm :=
  ⟨h.env.keep hf.plain, fun b hb => Nat.lt_of_lt_of_le (h.low b hb) hf.size, h.size, h.tree.keep (hf.same fun b hb => ⟨h.low b hb, id⟩), h.bound⟩
theorem LessC.check {t : Tre} {w : World} {S : Nat → Prop} {Av Aa Ap Am : Option Addr} {cv ca cp cm : Nat} (h : LessC t w S Av Aa Ap Am cv ca cp cm) : Calls Tryz.prog 10 #[trV t Av Aa Ap Am cv ca cp cm] w (AtE (treeC t) w) := ctree_any t w S False Av Aa Ap Am cv ca cp cm h.env h.low h.size h.tree
theorem Fr.back {a b c : World} (h : Fr NoT a b) (k : Fr (fun x => a.heap.size ≤ x) b c) : Fr NoT a c :=
  ⟨k.os.trans h.os, k.tape.trans h.tape, k.output.trans h.output, Nat.le_trans h.size k.size, fun i hi _ => (k.block i (Nat.lt_of_lt_of_le hi h.size) (by omega)).trans (h.block i hi id)⟩
/-- a tree with a skip more: the row, what is in it -/
theorem less_more {t : Tre} {w1 w5 : World} {S : Nat → Prop} {Av Aa Ap Am : Option Addr} {cv ca cp cm : Nat} (h5 : LessC t w5 S Av Aa Ap Am cv ca cp cm) (hs : SameS S w1 w5) {vs : List Value} {g cap : Nat}
    (hraw : ∀ (w2 : World) (S' : Nat → Prop) (g p : Nat), S' g → SameS S w1 w2 → (∀ x, S x → S' x) → (∀ j u, vs[j]? = some u → w2.cell? ⟨g, p + j, none⟩ = some u) → StR w2 S' False t.main g p) (hvs : vs.length = t.main.len * 7)
    (hg : g < w5.heap.size) (hcap : t.main.len + 1 ≤ cap ∧ cap ≤ 9223372036854775807)
    (hc : ∀ j u, (vs ++ stRaw 1 ⟨#[]⟩ none 0 0 none 0 0 none 0 0 none 0 0 0)[j]? = some u → w5.cell? ⟨g, j, none⟩ = some u) :
    Calls Tryz.prog 10 #[.agg #[.slice Av t.vars.length cv, .slice Aa t.arrays.length ca, .slice Ap t.procs.length cp, .slice (some ⟨g, 0, none⟩) (t.main.len + 1) cap]] w5 (AtE (treeC t) w5) := by
  have hl : (Sts.app t.main skipS).len = t.main.len + 1 := by rw [Sts.len_app]; rfl
  have hm : StR w5 (fun x => S x ∨ x = g) False (Sts.app t.main skipS) g 0 := by
    refine StR.app (hraw w5 _ g 0 (.inr rfl) hs (fun x hx => .inl hx) fun j u hj => ?_) ?_
    · rw [Nat.zero_add]
      exact hc j u (by rw [List.getElem?_append_left (List.getElem?_eq_some_iff.1 hj).1]; exact hj)
    · have e : ∀ j u, (stRaw 1 ⟨#[]⟩ none 0 0 none 0 0 none 0 0 none 0 0 0)[j]? = some u → w5.cell? ⟨g, 0 + t.main.len * 7 + j, none⟩ = some u := fun j u hj => by
        rw [Nat.zero_add]
        refine hc _ u ?_
        rw [← hvs, List.getElem?_append_right (by omega), Nat.add_sub_cancel_left]
        exact hj
      exact ⟨⟨.inr rfl, fun h => h.elim, by unfold in8; omega, by unfold in64; omega, e 0 _ rfl, e 1 _ rfl, e 6 _ rfl⟩, ⟨none, 0, e 2 _ rfl, ⟨by simp [Exs.len], ⟨by decide, by decide⟩, by simp [Exs.len]⟩⟩, ⟨none, 0, e 3 _ rfl, ⟨by simp [Cds.len], ⟨by decide, by decide⟩, by simp [Cds.len]⟩⟩, ⟨none, 0, e 4 _ rfl, ⟨by simp [Sts.len], ⟨by decide, by decide⟩, by simp [Sts.len]⟩⟩, ⟨none, 0, e 5 _ rfl, ⟨by simp [Sts.len], ⟨by decide, by decide⟩, by simp [Sts.len]⟩⟩, trivial⟩
  have hup : ∀ x, S x → S x ∨ x = g := fun x hx => .inl hx
  have key := ctree_any ⟨t.vars, t.arrays, t.procs, Sts.app t.main skipS⟩ w5 (fun x => S x ∨ x = g) False Av Aa Ap (some ⟨g, 0, none⟩) cv ca cp cap h5.env (fun b hb => hb.elim (h5.low b) fun e => by rw [e]; exact hg)
    ⟨h5.size.vars, h5.size.arrays, h5.size.procs, szS_app h5.size.main ⟨by decide, trivial, trivial, trivial, trivial, trivial⟩⟩
    ⟨h5.tree.vars.imp fun _ _ hx => VaR.more hup hx, h5.tree.arrays.imp fun _ _ hx => ArR.more hup hx, h5.tree.procs.imp fun _ _ hx => PrR.more hup hx, ⟨by rw [hl]; exact hcap.1, ⟨hcap.2, by rw [hl]; have := h5.bound.main; omega⟩, fun _ => ⟨g, 0, rfl, hm⟩⟩⟩
  unfold trV at key
  rw [hl, more_main] at key
  exact key
set_option maxRecDepth 100000 in
set_option maxHeartbeats 3200000 in
/-- up to what is wrong with a skip more -/
theorem cless_any (t : Tre) (w : World) (S : Nat → Prop) (Z : Prop) (Av Aa Ap Am : Option Addr) (cv ca cp cm : Nat) (he : NameEnv w) (hS : ∀ b, S b → b < w.heap.size) (hsz : SzT t) (hx : TrR w S False t Av Aa Ap Am cv ca cp cm) (hbd : BdT t) :
    Calls Tryz.prog 6 #[trV t Av Aa Ap Am cv ca cp cm] w (TruePost w) := by
  have hL : LessC t w S Av Aa Ap Am cv ca cp cm := ⟨he, hS, hsz, hx, hbd⟩
  have H1 := Lib.hid (fun W (h : Fr NoT w W) => calive_any W (he.keep h.plain))
  have H2 := Lib.hid (fun W (h : Fr NoT w W) => tgreat_any t W S False Av Aa Ap Am cv ca cp cm (hL.at_ h).low (hL.at_ h).tree)
  have h3 := fun W (h : Fr NoT w W) => (hL.at_ h).check
  have h4 := fun (w1 w5 : World) (vs : List Value) (g cap : Nat) (h : Fr NoT w w5) (hs : SameS S w1 w5) => less_more (hL.at_ h) hs (vs := vs) (g := g) (cap := cap)
  have HOK := Lib.hid (fun (h : (treeC t).2 = 0) => treeC_no h)
  obtain ⟨⟨a, e⟩, hp⟩ : ∃ q, q = treeC t := ⟨_, rfl⟩
  rw [← hp] at h3 h4 HOK
  have H3 := Lib.hid h3
  have HL := Lib.hid hL
  unfold trV at H2 H3 ⊢
  obtain ⟨n1, hn1⟩ : ∃ n, n = t.vars.length := ⟨_, rfl⟩
  obtain ⟨n2, hn2⟩ : ∃ n, n = t.arrays.length := ⟨_, rfl⟩
  obtain ⟨n3, hn3⟩ : ∃ n, n = t.procs.length := ⟨_, rfl⟩
  obtain ⟨n4, hn4⟩ : ∃ n, n = t.main.len := ⟨_, rfl⟩
  have l3 : n3 ≤ 9223372036854775807 := by rw [hn3]; exact Nat.le_trans hx.procs.1 hx.procs.2.1.1
  have l4 : n4 ≤ 9223372036854775807 := by rw [hn4]; exact Nat.le_trans hx.main.1 hx.main.2.1.1
  have k3 : n3 ≤ cp := by rw [hn3]; exact hx.procs.1
  have k4 : n4 ≤ cm := by rw [hn4]; exact hx.main.1
  have k5 : cp ≤ 9223372036854775807 := hx.procs.2.1.1
  have k6 : cm ≤ 9223372036854775807 := hx.main.2.1.1
  rw [← hn1, ← hn2, ← hn3] at h4
  rw [← hn1, ← hn2, ← hn3, ← hn4] at H2 H3 ⊢
  have H4 := Lib.hid h4
  have HN3 := Lib.hid hn3
  have HN4 := Lib.hid hn4
  have hf1 : Fr NoT w (w.alloc (.cells #[.slice Av n1 cv, .slice Aa n2 ca, .slice Ap n3 cp, .slice Am n4 cm] 27)) := (Fr.refl _ _).alloc _
  have HF1 := Lib.hid hf1
  have HK1 := Lib.hid (Bk.new w 27 #[.slice Av n1 cv, .slice Aa n2 ca, .slice Ap n3 cp, .slice Am n4 cm])
  have ef : (e != e) = false := by simp
  have HN1 := Lib.hid hn1
  have HN2 := Lib.hid hn2
  clear hL h3 h4 hp hf1 hx hsz hS he hbd hn1 hn2 hn3 hn4
  go_enter Tryz.func6, Tryz.ntmps6
  go_wp2_with fail
  refine (H1.out _ HF1.out).mono ?_
  rintro _ w1 ⟨rfl, hb1⟩
  have hk1 := HK1.out.fr0 (Fr.below hb1)
  obtain ⟨x0, x1, x2, x3, hl1⟩ := bk4 hk1
  have HF2 := Lib.hid (HF1.out.trans (Fr.below hb1))
  have HK2 := Lib.hid hk1
  clear hb1 hk1 H1
  go_wp2_with fail
  refine (H2.out _ HF2.out).mono ?_
  rintro _ w2 ⟨g0, rfl, hf2⟩
  have HF3 := Lib.hid (HF2.out.trans hf2)
  have hk2 := HK2.out.fr0 hf2
  clear x0 x1 x2 x3 hl1
  obtain ⟨x0, x1, x2, x3, hl1⟩ := bk4 hk2
  have HK3 := Lib.hid hk2
  clear hf2 hk2 H2
  cases g0
  rotate_left
  · go_wp2_with fail
    go_ret
    exact ⟨rfl, HF3.out.plain⟩
  go_wp2_with fail
  refine (H3.out _ HF3.out).mono ?_
  rintro _ w3 ⟨rfl, hf3⟩
  have hk4 := HK3.out.fr0 hf3
  clear x0 x1 x2 x3 hl1
  obtain ⟨x0, x1, x2, x3, hl1⟩ := bk4 hk4
  obtain ⟨wm, hwm⟩ : ∃ y, y = w3.alloc (.cells #[.slice Av n1 cv, .slice Aa n2 ca, .slice Ap n3 cp, .slice Am n4 cm] 27) := ⟨_, rfl⟩
  have hfm : Fr NoT w3 wm := by rw [hwm]; exact (Fr.refl _ _).alloc _
  have hkm : Bk wm w3.heap.size 27 #[.slice Av n1 cv, .slice Aa n2 ca, .slice Ap n3 cp, .slice Am n4 cm] := by rw [hwm]; exact Bk.new _ _ _
  have hLm := HL.out.at_ ((HF3.out.trans hf3).trans hfm)
  obtain ⟨v1, w4, vs, hrun1, hown1, hf4, hvs, hraw⟩ := app_main hLm.tree.main wm.heap.size (Nat.le_refl _) 25
  have hbm := HL.out.bound.main
  rw [← HN4.out] at hrun1 hown1 hvs hbm
  have hk5 := Bk.new w4 46 (stRaw 1 ⟨#[]⟩ none 0 0 none 0 0 none 0 0 none 0 0 0).toArray
  have hf5 : Fr NoT w4 (w4.alloc (.cells (stRaw 1 ⟨#[]⟩ none 0 0 none 0 0 none 0 0 none 0 0 0).toArray 46)) := (Fr.refl _ _).alloc _
  obtain ⟨g, cap, w6, hrun2, hcap1, hcap2, hg1, hg2, hf6, hc6⟩ := app_skip (hown1.alloc _) hbm (Nat.le_trans hf4.size hf5.size) hk5 25
  have hf46 : Fr NoT wm w6 := Fr.back (hf4.trans hf5) hf6
  have hk6 := hkm.fr0 hf46
  have hk7 := hk6.set_ 3 (.slice (some ⟨g, 0, none⟩) (n4 + 1) cap)
  simp only [List.setIfInBounds_toArray, List.set_cons_zero, List.set_cons_succ] at hk7
  obtain ⟨y0, y1, y2, y3, yl⟩ := bk4 hk6
  have yf := hk6.frozen 3
  have hgm : w3.heap.size < wm.heap.size := hkm.lt
  have hf67 : Fr NoT w3 (w6.setCell ⟨w3.heap.size, 3, none⟩ (.slice (some ⟨g, 0, none⟩) (n4 + 1) cap)) := Fr.high (hfm.trans hf46) (Nat.le_refl _) 3 _
  have hsame : SameS S wm (w6.setCell ⟨w3.heap.size, 3, none⟩ (.slice (some ⟨g, 0, none⟩) (n4 + 1) cap)) := fun p hp => by
    have h1 := (HL.out.at_ (HF3.out.trans hf3)).low _ hp
    have h2 := hfm.same (fun b hb => ⟨(HL.out.at_ (HF3.out.trans hf3)).low b hb, id⟩) p hp
    have h3 := hf67.same (fun b hb => ⟨(HL.out.at_ (HF3.out.trans hf3)).low b hb, id⟩) p hp
    exact ⟨h3.1.trans h2.1.symm, h3.2.trans h2.2.symm⟩
  have hgM : g ≠ w3.heap.size := by omega
  have hck := H4.out wm (w6.setCell ⟨w3.heap.size, 3, none⟩ (.slice (some ⟨g, 0, none⟩) (n4 + 1) cap)) vs g cap ((HF3.out.trans hf3).trans hf67) hsame hraw (by rw [hvs, HN4.out]) (by simpa using hg2) (by rw [← HN4.out]; exact ⟨hcap1, hcap2⟩)
    (fun j u hj => (Fr.cell (T := fun x => x = w3.heap.size) (Fr.own (Fr.refl _ w6) 3 _) (p := ⟨g, j, none⟩) hg2 hgM).trans (hc6 j u hj))
  rw [← HN4.out] at hck
  have hwF : Fr NoT w (w6.setCell ⟨w3.heap.size, 3, none⟩ (.slice (some ⟨g, 0, none⟩) (n4 + 1) cap)) := (HF3.out.trans hf3).trans hf67
  have hkT := hk4.fr0 hf67
  have HCK := Lib.hid hck
  have HWF := Lib.hid hwF
  have HKT := Lib.hid hkT
  rw [hwm] at hrun1
  unfold stRaw at hrun2
  have HR1 := Lib.hid hrun1
  have HR2 := Lib.hid hrun2
  clear hck hwF hkT hsame hc6 hraw hvs hrun1 hrun2 hown1 hf4 hk5 hf5 hf6 hf46 hk6 hk7 hf67 hLm hkm hfm hwm hf3 hk4 hbm
  go_wp2_with (at_builtin; first | (refine wpList_append_run rfl _ _ 25 rfl (.slice none 0 0) (.slice Am n4 cm) v1 rfl rfl HR1.out ?_) | (refine wpList_append_run rfl _ _ 25 rfl v1 _ _ rfl rfl HR2.out ?_))
  refine HCK.out.mono ?_
  rintro _ w7 ⟨rfl, hf7⟩
  have HF7 := Lib.hid (HWF.out.trans hf7)
  have hk7 := HKT.out.fr0 hf7
  have HK7 := Lib.hid hk7
  clear hf7 x0 x1 x2 x3 hl1 y0 y1 y2 y3 yl yf hgm hgM hcap1 hcap2 hg1 hg2 HR1 HR2 HCK H4 H3
  obtain ⟨x0, x1, x2, x3, hl1⟩ := bk4 hk7
  clear hk7
  by_cases hz : e = 0
  rotate_left
  · have e1 : (e != 0) = true := by simpa using hz
    clear hz HOK
    go_wp2_with fail
    go_ret
    exact ⟨rfl, HF7.out.plain⟩
  subst hz
  have HOK2 := Lib.hid (HOK.out rfl)
  clear HOK
  have hcase : n4 = 0 ∨ ∃ l, n4 = l + 1 := by cases n4 <;> simp
  rcases hcase with rfl | ⟨l, rfl⟩
  · clear x0 x1 x2 x3 hl1
    obtain ⟨w8, rfl⟩ : ∃ y : World, y = w7 := ⟨_, rfl⟩
    have HF8 := HF7
    have HK8 := HK7
    clear HF7 HK7
    obtain ⟨x0, x1, x2, x3, hl1⟩ := bk4 HK8.out
    have hcase3 : n3 = 0 ∨ ∃ j, n3 = j + 1 := by cases n3 <;> simp
    rcases hcase3 with rfl | ⟨j, rfl⟩
    · go_wp2_with fail
      go_quiet (fail)
      go_wp2_with fail
      go_ret
      exact ⟨rfl, (HF8.out.drewN _).plain⟩
    · obtain ⟨⟨a0, a1, a2, a3⟩, ar, hd⟩ := drop_head1 (show j < t.procs.length from by rw [← HN3.out]; omega)
      have hW := HL.out.at_ HF8.out
      obtain ⟨B, o, hAp, hat⟩ := hW.tree.procs.2.2 (by rw [← HN3.out]; omega)
      subst hAp
      have hat1 := hat.drop j
      rw [hd.1] at hat1
      obtain ⟨⟨hbS, _, _, c0, c3⟩, _, _, _⟩ := hat1
      have hxr : B < w8.heap.size := hW.low _ hbS
      simp only at c0 c3
      obtain ⟨bb, hbb⟩ : ∃ bb, bb = callsB a0 t.main := ⟨_, rfl⟩
      have hca := fun (n : Nat) => calls_any a0 t.main (w8.drewN n) S False Am cm (hW.low) (hW.tree.main.imp fun _ _ hx => StR.keep (Dr.same ⟨n, rfl⟩) hx)
      rw [← hbb, ← HN4.out] at hca
      have HCA := Lib.hid hca
      have hpr : t.procs = t.procs.take j ++ [⟨a0, a1, a2, a3⟩] := by
        have h1 : ar = [] := by rw [← hd.2]; exact List.drop_eq_nil_of_le (by rw [← HN3.out]; omega)
        have h2 := List.take_append_drop j t.procs
        rw [hd.1, h1] at h2
        exact h2.symm
      have h6 : bb = false → ∀ W, Fr NoT w W → Calls Tryz.prog 10 #[.agg #[.slice Av n1 cv, .slice Aa n2 ca, .slice (some ⟨B, o, none⟩) j cp, .slice Am 0 cm]] W (AtE (0, 0) W) := fun hb W h => by
        have hW := HL.out.at_ h
        have hlen : (t.procs.take j).length = j := by rw [List.length_take, ← HN3.out]; omega
        have := ctree_any ⟨t.vars, t.arrays, t.procs.take j, t.main⟩ W S False Av Aa (some ⟨B, o, none⟩) Am cv ca cp cm hW.env hW.low ⟨hW.size.vars, hW.size.arrays, fun x hx => hW.size.procs x (List.mem_of_mem_take hx), hW.size.main⟩
          ⟨hW.tree.vars, hW.tree.arrays, ⟨by rw [hlen]; omega, ⟨hW.tree.procs.2.1.1, by rw [hlen]; have := hW.tree.procs.2.1.2; rw [← HN3.out] at this; omega⟩, fun _ => by
            obtain ⟨b, o', e, hh⟩ := hW.tree.procs.2.2 (by rw [← HN3.out]; omega)
            exact ⟨b, o', e, PrR.take j hh⟩⟩, hW.tree.main⟩
        unfold trV at this
        have hok := less_procs HOK2.out hpr (by rw [← hbb, hb])
        rw [hlen, treeC_ok hok, ← HN1.out, ← HN2.out, ← HN4.out] at this
        exact this
      have H6 := Lib.hid h6
      have e1 : (((j + 1 : Nat) : Int) == 0) = false := by simp; omega
      have e2 : ((j : Int) + 1 == 0) = false := by simp; omega
      have e3 : IntKind.i64.wrap (j : Int) = j := IntWalk.i64_in _ (by omega)
      have e4 : (0 : Int) ≤ (j : Int) := by omega
      clear hd hW hat hbS hbb hca hpr h6 c3
      cases bb
      · have H7 := Lib.hid (H6.out rfl)
        clear H6
        go_wp2_with fail
        go_quiet ((go_at_call 15; exact quiet_left (HCA.out _)))
        obtain ⟨wd, hwd⟩ : ∃ y, y = w8.drewN nq := ⟨_, rfl⟩
        rw [← hwd]
        have hdd : Dr w8 wd := ⟨nq, hwd⟩
        have hk9 := HK8.out.fr0 hdd.fr
        have HFD := Lib.hid (HF8.out.trans hdd.fr)
        clear x0 x1 x2 x3 hl1 c0 hxr
        obtain ⟨x0, x1, x2, x3, hl1⟩ := bk4 hk9
        clear hk9 hwd hdd
        go_wp2_with fail
        refine (H7.out _ (HFD.out.alloc _)).mono ?_
        rintro _ w9 ⟨rfl, hf9⟩
        have HF9 := Lib.hid ((HFD.out.alloc _).trans hf9)
        clear hf9
        go_wp2_with fail
        go_ret
        exact ⟨rfl, HF9.out.plain⟩
      · go_wp2_with fail
        go_quiet ((go_at_call 15; exact quiet_left (HCA.out _)))
        go_wp2_with fail
        go_ret
        exact ⟨rfl, (HF8.out.drewN _).plain⟩
  · have h5 : ∀ W, Fr NoT w W → Calls Tryz.prog 10 #[.agg #[.slice Av n1 cv, .slice Aa n2 ca, .slice Ap n3 cp, .slice Am l cm]] W (AtE (0, 0) W) := fun W h => by
      have hW := HL.out.at_ h
      have hlen : (Sts.take l t.main).len = l := by rw [Sts.len_take, ← HN4.out]; omega
      have := ctree_any ⟨t.vars, t.arrays, t.procs, Sts.take l t.main⟩ W S False Av Aa Ap Am cv ca cp cm hW.env hW.low ⟨hW.size.vars, hW.size.arrays, hW.size.procs, szS_take l hW.size.main⟩
        ⟨hW.tree.vars, hW.tree.arrays, hW.tree.procs, ⟨by rw [hlen]; omega, ⟨hW.tree.main.2.1.1, by rw [hlen]; have := hW.tree.main.2.1.2; rw [← HN4.out] at this; omega⟩, fun _ => by
          obtain ⟨b, o, e, hh⟩ := hW.tree.main.2.2 (by rw [← HN4.out]; omega)
          exact ⟨b, o, e, StR.take l hh⟩⟩⟩
      unfold trV at this
      rw [hlen, treeC_ok (less_main HOK2.out l), ← HN1.out, ← HN2.out, ← HN3.out] at this
      exact this
    have H5 := Lib.hid h5
    clear h5
    go_wp2_with fail
    refine (H5.out _ (HF7.out.alloc _)).mono ?_
    rintro _ w8 ⟨rfl, hf8⟩
    have HF8 := Lib.hid ((HF7.out.alloc _).trans hf8)
    have HK8 := Lib.hid ((HK7.out.alloc _).fr0 hf8)
    clear hf8 x0 x1 x2 x3 hl1 HF7 HK7 H5
    obtain ⟨x0, x1, x2, x3, hl1⟩ := bk4 HK8.out
    have hcase3 : n3 = 0 ∨ ∃ j, n3 = j + 1 := by cases n3 <;> simp
    rcases hcase3 with rfl | ⟨j, rfl⟩
    · go_wp2_with fail
      go_quiet (fail)
      go_wp2_with fail
      go_ret
      exact ⟨rfl, (HF8.out.drewN _).plain⟩
    · obtain ⟨⟨a0, a1, a2, a3⟩, ar, hd⟩ := drop_head1 (show j < t.procs.length from by rw [← HN3.out]; omega)
      have hW := HL.out.at_ HF8.out
      obtain ⟨B, o, hAp, hat⟩ := hW.tree.procs.2.2 (by rw [← HN3.out]; omega)
      subst hAp
      have hat1 := hat.drop j
      rw [hd.1] at hat1
      obtain ⟨⟨hbS, _, _, c0, c3⟩, _, _, _⟩ := hat1
      have hxr : B < w8.heap.size := hW.low _ hbS
      simp only at c0 c3
      obtain ⟨bb, hbb⟩ : ∃ bb, bb = callsB a0 t.main := ⟨_, rfl⟩
      have hca := fun (n : Nat) => calls_any a0 t.main (w8.drewN n) S False Am cm (hW.low) (hW.tree.main.imp fun _ _ hx => StR.keep (Dr.same ⟨n, rfl⟩) hx)
      rw [← hbb, ← HN4.out] at hca
      have HCA := Lib.hid hca
      have hpr : t.procs = t.procs.take j ++ [⟨a0, a1, a2, a3⟩] := by
        have h1 : ar = [] := by rw [← hd.2]; exact List.drop_eq_nil_of_le (by rw [← HN3.out]; omega)
        have h2 := List.take_append_drop j t.procs
        rw [hd.1, h1] at h2
        exact h2.symm
      have h6 : bb = false → ∀ W, Fr NoT w W → Calls Tryz.prog 10 #[.agg #[.slice Av n1 cv, .slice Aa n2 ca, .slice (some ⟨B, o, none⟩) j cp, .slice Am (l + 1) cm]] W (AtE (0, 0) W) := fun hb W h => by
        have hW := HL.out.at_ h
        have hlen : (t.procs.take j).length = j := by rw [List.length_take, ← HN3.out]; omega
        have := ctree_any ⟨t.vars, t.arrays, t.procs.take j, t.main⟩ W S False Av Aa (some ⟨B, o, none⟩) Am cv ca cp cm hW.env hW.low ⟨hW.size.vars, hW.size.arrays, fun x hx => hW.size.procs x (List.mem_of_mem_take hx), hW.size.main⟩
          ⟨hW.tree.vars, hW.tree.arrays, ⟨by rw [hlen]; omega, ⟨hW.tree.procs.2.1.1, by rw [hlen]; have := hW.tree.procs.2.1.2; rw [← HN3.out] at this; omega⟩, fun _ => by
            obtain ⟨b, o', e, hh⟩ := hW.tree.procs.2.2 (by rw [← HN3.out]; omega)
            exact ⟨b, o', e, PrR.take j hh⟩⟩, hW.tree.main⟩
        unfold trV at this
        have hok := less_procs HOK2.out hpr (by rw [← hbb, hb])
        rw [hlen, treeC_ok hok, ← HN1.out, ← HN2.out, ← HN4.out] at this
        exact this
      have H6 := Lib.hid h6
      have e1 : (((j + 1 : Nat) : Int) == 0) = false := by simp; omega
      have e2 : ((j : Int) + 1 == 0) = false := by simp; omega
      have e3 : IntKind.i64.wrap (j : Int) = j := IntWalk.i64_in _ (by omega)
      have e4 : (0 : Int) ≤ (j : Int) := by omega
      clear hd hW hat hbS hbb hca hpr h6 c3
      cases bb
      · have H7 := Lib.hid (H6.out rfl)
        clear H6
        go_wp2_with fail
        go_quiet ((go_at_call 15; exact quiet_left (HCA.out _)))
        obtain ⟨wd, hwd⟩ : ∃ y, y = w8.drewN nq := ⟨_, rfl⟩
        rw [← hwd]
        have hdd : Dr w8 wd := ⟨nq, hwd⟩
        have hk9 := HK8.out.fr0 hdd.fr
        have HFD := Lib.hid (HF8.out.trans hdd.fr)
        clear x0 x1 x2 x3 hl1 c0 hxr
        obtain ⟨x0, x1, x2, x3, hl1⟩ := bk4 hk9
        clear hk9 hwd hdd
        go_wp2_with fail
        refine (H7.out _ (HFD.out.alloc _)).mono ?_
        rintro _ w9 ⟨rfl, hf9⟩
        have HF9 := Lib.hid ((HFD.out.alloc _).trans hf9)
        clear hf9
        go_wp2_with fail
        go_ret
        exact ⟨rfl, HF9.out.plain⟩
      · go_wp2_with fail
        go_quiet ((go_at_call 15; exact quiet_left (HCA.out _)))
        go_wp2_with fail
        go_ret
        exact ⟨rfl, (HF8.out.drewN _).plain⟩
end Go.Proofs.YtfkdbifnhgadaaaGreatDoor
