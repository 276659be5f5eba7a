/-
  A map from nodes to slices of numbers that the call itself makes: which edges lead out of each node. No walk.
-/
import Derived.Test.YtdflbaipbmkdgaaJnSrR
import Derived.Test.YtdflbaipbmkdgaaFlGroups
namespace Go.Proofs.Ytdflbaipbmkdgaa
open Go.RowKit Go.Shelf Go.Maps
set_option linter.unusedVariables false
set_option linter.unusedSimpArgs false

theorem ownsRow_fr {w w' : World} {T : Nat → Prop} {base n k : Nat} {e : TypeId} {v : Value} {xs : List Value} (h : w.ownsRow base e k v n xs) (hf : Fr T w w') (hr : ∀ b, v.ownBlock = some b → ¬ T b) : w'.ownsRow base e k v n xs := by
  obtain ⟨h1, h2⟩ := h
  refine ⟨h1, ?_⟩
  rcases h2 with h2 | ⟨g, cap, cur, hv', hg, hh, r⟩
  · exact .inl h2
  · refine .inr ⟨g, cap, cur, hv', hg, ?_, r⟩
    have hlt : g < w.heap.size := (Array.getElem?_eq_some_iff.1 hh).1
    rw [hf.block g hlt (hr g (by rw [hv']; rfl))]
    exact hh
theorem ownsMap_fr {w w' : World} {T : Nat → Prop} {P : Program} {k : TypeId} {R : Value → Option (DataW Value × List MemPlace)} {b n : Nat} {D : DataW Value} (h : w.ownsMap P k R b n D) (hf : Fr T w w') (hb : ¬ T b) : w'.ownsMap P k R b n D := by
  have hlt := h.lt
  obtain ⟨es, clock, hb', F, hs, hD⟩ := h
  exact ⟨es, clock, (hf.block b hlt hb).trans hb', F, hs, hD⟩
/-- BLOCK b IS A MAP FROM NODES TO SLICES OF NUMBERS: at each key the edges that leave it, of the first k ones, in a row of the call's own from 'base' on; no two keys' rows are one. -/
structure GI (w : World) (b base n : Nat) (V : Int → Value) (l : List Ed) (k : Nat) (D : DataW Value) : Prop where
  own : w.ownsMap Try.prog 3 heldE b n D
  at_ : ∀ x, in64 x → D.atKey (.int .i64 x) (.held nilS) = .held (V x)
  rows : ∀ x, in64 x → w.ownsRow base 3 1 (V x) (idxE l x k).length (intsV (idxE l x k))
  apart : ∀ x y, in64 x → in64 y → x ≠ y → (V x).ownBlock = none ∨ (V x).ownBlock ≠ (V y).ownBlock
theorem zeroInts (w : World) : (zeroValue 22).run Try.prog w = .ok nilS w := by kernel_rfl
theorem GI.look {w : World} {b base n : Nat} {V : Int → Value} {l : List Ed} {k : Nat} {D : DataW Value} (h : GI w b base n V l k D) {x : Int} (hx : in64 x) :
    (Instr.lookup 48 (.map (some b)) (.int .i64 x) false).run Try.prog w = .ok (V x) w := by
  obtain ⟨v, hrun, hv⟩ := heldE_at h.own intKey Try.underlying48 (zeroInts w) (keyI hx)
  rw [h.at_ x hx] at hv
  simp only [DataW.held.injEq] at hv
  rw [hv]
  exact hrun
theorem GI.fr {w w' : World} {T : Nat → Prop} {b base n : Nat} {V : Int → Value} {l : List Ed} {k : Nat} {D : DataW Value} (h : GI w b base n V l k D) (hf : Fr T w w') (hb : ¬ T b) (hr : ∀ x, in64 x → ∀ g, (V x).ownBlock = some g → ¬ T g) : GI w' b base n V l k D :=
  ⟨ownsMap_fr h.own hf hb, h.at_, fun x hx => ownsRow_fr (h.rows x hx) hf (hr x hx), h.apart⟩
theorem GI.fr0 {w w' : World} {b base n : Nat} {V : Int → Value} {l : List Ed} {k : Nat} {D : DataW Value} (h : GI w b base n V l k D) (hf : Fr NoT w w') : GI w' b base n V l k D := h.fr hf id fun _ _ _ _ => id
theorem GI.made (w : World) (base : Nat) (l : List Ed) : GI (w.alloc (.map #[] 0)) w.heap.size base 0 (fun _ => nilS) l 0 (.map []) :=
  ⟨World.ownsMap_made _ _ _ _, fun _ _ => rfl, fun x _ => by show World.ownsRow _ _ _ _ _ (idxE l x 0).length (intsV (idxE l x 0)); exact World.ownsRow_nil _ _ _ _, fun _ _ _ _ _ => .inl rfl⟩
/-- what it leaves at a key, as a slice of numbers -/
theorem GI.sl {w : World} {b base n : Nat} {V : Int → Value} {l : List Ed} {D : DataW Value} (h : GI w b base n V l l.length D) {x : Int} (hx : in64 x) (hl : l.length ≤ 2048) :
    ∃ A c, V x = .slice A (idxE l x l.length).length c ∧ IsSl w w.heap.size ((idxE l x l.length).map fun (i : Nat) => (i : Int)) A c ∧ ∀ b o, A = some ⟨b, o, none⟩ → base ≤ b ∧ (V x).ownBlock = some b := by
  have hr := h.rows x hx
  obtain ⟨A, c, e, hs⟩ := isSl_of_owns hr (fun i hi => by have := idxE_lt l x l.length i hi; omega)
  refine ⟨A, c, e, hs, fun b o hA => ?_⟩
  have : (V x).ownBlock = some b := by rw [e, hA]; simp [Value.ownBlock]
  exact ⟨(hr.lt b this).1, this⟩
/-- ONE EDGE MORE: appended at its node, and stored. -/
theorem GI.step {w w1 : World} {b base n : Nat} {V : Int → Value} {l : List Ed} {k : Nat} {D : DataW Value} (h : GI w b base n V l k D) {e : Ed} (he : l[k]? = some e) (hx : in64 e.from_) (v' : Value) (hn : n < maxLen)
    (hbr : ∀ x, in64 x → (V x).ownBlock ≠ some b) (hbv : v'.ownBlock ≠ some b)
    (hg : w.grownBy w1 (V e.from_).ownBlock) (hown : w1.ownsRow base 3 1 v' ((idxE l e.from_ k).length + 1) (intsV (idxE l e.from_ k) ++ [.int .i64 (k : Int)]))
    (hat : v'.ownBlock = (V e.from_).ownBlock ∨ ∃ g, v'.ownBlock = some g ∧ w.heap.size ≤ g) :
    ∃ w2 D2, (Instr.mapUpdate 48 (.map (some b)) (.int .i64 e.from_) v').run Try.prog w1 = .ok () w2 ∧ GI w2 b base (n + 1) (fun x => if x = e.from_ then v' else V x) l (k + 1) D2 ∧ w1.grownBy w2 (some b) := by
  have hvb : (V e.from_).ownBlock ≠ some b := hbr _ hx
  have hown1 : w1.ownsMap Try.prog 3 heldE b n D := h.own.kept hg (fun e => hvb e.symm)
  obtain ⟨w2, hrun, hown2, hg2⟩ := hown1.update intKey Try.underlying48 hn (keyI hx) (val := v') (d := .held v') (ps := []) rfl
  have kx : WideAt.IsKeyLit (.int .i64 e.from_) := intKey.key (keyI hx)
  have oth : ∀ x, x ≠ e.from_ → idxE l x (k + 1) = idxE l x k := fun x hne => by
    rw [idxE_succ, if_neg]
    simp [fromAt, he, Ne.symm hne]
  have same : idxE l e.from_ (k + 1) = idxE l e.from_ k ++ [k] := by
    rw [idxE_succ, if_pos]
    simp [fromAt, he]
  refine ⟨w2, _, hrun, ⟨hown2, fun x hxx => ?_, fun x hxx => ?_, fun x y hxx hyy hne => ?_⟩, hg2⟩
  · by_cases e' : x = e.from_
    · subst e'
      rw [Maps.atKey_put_same hown1.isMap kx, if_pos rfl]
    · rw [Maps.atKey_put_other (by simpa using e'), if_neg e']
      exact h.at_ x hxx
  · by_cases e' : x = e.from_
    · subst e'
      rw [if_pos rfl, same]
      have : intsV (idxE l e.from_ k ++ [k]) = intsV (idxE l e.from_ k) ++ [.int .i64 (k : Int)] := by simp [intsV]
      rw [this, List.length_append]
      exact hown.kept hg2 (.inr hbv)
    · rw [if_neg e', oth x e']
      have h1 := (h.rows x hxx).kept hg (h.apart x e.from_ hxx hx e')
      exact h1.kept hg2 (.inr (hbr x hxx))
  · have far : ∀ x, in64 x → x ≠ e.from_ → (V x).ownBlock = none ∨ (V x).ownBlock ≠ v'.ownBlock := fun x hxx hne => by
      rcases hat with e1 | ⟨g, e1, hge⟩
      · rw [e1]
        exact h.apart x _ hxx hx hne
      · cases hu : (V x).ownBlock with
        | none => exact .inl rfl
        | some g' =>
          refine .inr fun e' => ?_
          rw [e1] at e'
          have := ((h.rows x hxx).lt g' hu).2
          cases e'
          omega
    by_cases e1 : x = e.from_
    · subst e1
      have hy : y ≠ e.from_ := fun e2 => hne e2.symm
      rw [if_pos rfl, if_neg hy]
      rcases far y hyy hy with h1 | h1
      · cases hv : v'.ownBlock with
        | none => exact .inl rfl
        | some g => exact .inr (by rw [h1]; simp)
      · exact .inr (fun e2 => h1 e2.symm)
    · rw [if_neg e1]
      by_cases e' : y = e.from_
      · rw [if_pos e']
        exact far x hxx e1
      · rw [if_neg e']
        exact h.apart x y hxx hyy hne
end Go.Proofs.Ytdflbaipbmkdgaa

/-
  A machine of sem in memory. No walk.
-/
namespace Go.Proofs.Ytdflbaipbmkdgaa
open Go.RowKit Go.Shelf Go.Maps
set_option linter.unusedVariables false
set_option linter.unusedSimpArgs false

/-- where a machine lies besides: its map -/
structure MW where
  c : RW
  b : Nat
  n : Nat
  V : Int → Value
  D : DataW Value
/-- what its block holds -/
def mnC (m : MW) (s : Rs) (As : Option Addr) (cs : Nat) (k wr at_ ed : Int) : List Value := .map (some m.b) :: rnC m.c s As cs k wr at_ ed
/-- A MACHINE IN MEMORY -/
structure MnR (m : MW) (w : World) (s : Rs) (As : Option Addr) (cs : Nat) (k wr at_ ed : Int) : Prop where
  blk : Bk w m.c.R 50 (mnC m s As cs k wr at_ ed).toArray
  sto : Sto w m.c.L s.vs s.ls m.c.bv m.c.Ar m.c.cr m.c.bs
  gr : GrSl w m.c.L m.c.g m.c.Aa m.c.ca m.c.Ae m.c.ce
  sc : IsSl w m.c.L s.script As cs
  rl : m.c.L ≤ m.c.R
  rv : m.c.R ≠ m.c.bv
  rb : m.c.R ∉ m.c.bs
  rr : (Value.slice m.c.Ar s.ls.length m.c.cr).ownBlock ≠ some m.c.R
  nv : (s.vs.length : Int) = m.c.g.vars
  na : s.ls.length = m.c.g.arrays.length
  map : GI w m.b m.c.L m.n m.V m.c.g.edges m.c.g.edges.length m.D
  mb : ¬ m.c.T m.b ∧ m.c.L ≤ m.b
  mv : ∀ x, in64 x → ∀ g, (m.V x).ownBlock = some g → ¬ m.c.T g
theorem MnR.lt {m : MW} {w : World} {s : Rs} {As : Option Addr} {cs : Nat} {k wr at_ ed : Int} (h : MnR m w s As cs k wr at_ ed) : m.c.L ≤ w.heap.size := Nat.le_trans h.rl (Nat.le_of_lt h.blk.lt)
theorem MnR.low {m : MW} {w : World} {s : Rs} {As : Option Addr} {cs : Nat} {k wr at_ ed : Int} (h : MnR m w s As cs k wr at_ ed) : ∀ b, m.c.T b → m.c.L ≤ b := by
  rintro b (rfl | rfl | hb)
  · exact h.rl
  · exact h.sto.vl
  · obtain ⟨i, hi⟩ := List.getElem?_of_mem hb
    have hil := (List.getElem?_eq_some_iff.1 hi).1
    rw [h.sto.len] at hil
    exact (h.sto.each i b _ hi (List.getElem?_eq_getElem hil)).1
theorem MnR.below {m : MW} {w : World} {s : Rs} {As : Option Addr} {cs : Nat} {k wr at_ ed : Int} (h : MnR m w s As cs k wr at_ ed) : ∀ b, m.c.T b → b < w.heap.size := by
  rintro b (rfl | rfl | hb)
  · exact h.blk.lt
  · exact h.sto.v.lt
  · obtain ⟨i, hi⟩ := List.getElem?_of_mem hb
    have hil := (List.getElem?_eq_some_iff.1 hi).1
    rw [h.sto.len] at hil
    exact (h.sto.each i b _ hi (List.getElem?_eq_getElem hil)).2.lt
/-- what turns no block of it -/
theorem MnR.fr0 {m : MW} {w w' : World} {s : Rs} {As : Option Addr} {cs : Nat} {k wr at_ ed : Int} (h : MnR m w s As cs k wr at_ ed) (hf : Fr NoT w w') : MnR m w' s As cs k wr at_ ed :=
  ⟨h.blk.fr0 hf, h.sto.fr0 hf, h.gr.keep (Same.of_fr hf h.lt fun _ h => h.elim), h.sc.keep (Same.of_fr hf h.lt fun _ h => h.elim), h.rl, h.rv, h.rb, h.rr, h.nv, h.na, h.map.fr0 hf, h.mb, h.mv⟩
/-- its own block turns -/
theorem MnR.own {m : MW} {w w' : World} {s : Rs} {As : Option Addr} {cs : Nat} {k wr at_ ed : Int} (h : MnR m w s As cs k wr at_ ed) (hf : Fr (fun b => b = m.c.R) w w')
    {s' : Rs} {As' : Option Addr} {cs' : Nat} {k' wr' at' ed' : Int} (hv : s'.vs = s.vs) (hl : s'.ls = s.ls) (hs : IsSl w m.c.L s'.script As' cs') (hb : Bk w' m.c.R 50 (mnC m s' As' cs' k' wr' at' ed').toArray) : MnR m w' s' As' cs' k' wr' at' ed' := by
  have hlow : ∀ b, b = m.c.R → m.c.L ≤ b := fun b e => e ▸ h.rl
  have hT : ∀ b, b = m.c.R → m.c.T b := fun b e => .inl e
  refine ⟨hb, ?_, h.gr.keep (Same.of_fr hf h.lt hlow), hs.keep (Same.of_fr hf h.lt hlow), h.rl, h.rv, h.rb, by rw [hl]; exact h.rr, by rw [hv]; exact h.nv, by rw [hl]; exact h.na, h.map.fr hf (fun e => h.mb.1 (hT _ e)) (fun x hx g hg e => h.mv x hx g hg (hT _ e)), h.mb, h.mv⟩
  rw [hv, hl]
  exact h.sto.fr hf (fun e => h.rv (by have e : m.c.bv = m.c.R := e; exact e.symm)) (fun b hb e => h.rb (by have e : b = m.c.R := e; exact e ▸ hb)) fun b e e' => h.rr (by have e' : b = m.c.R := e'; rw [e, e'])
/-- its store turns -/
theorem MnR.store {m : MW} {w w' : World} {s : Rs} {As : Option Addr} {cs : Nat} {k wr at_ ed : Int} (h : MnR m w s As cs k wr at_ ed) {b : Nat} (hbT : b = m.c.bv ∨ b ∈ m.c.bs) (hf : Fr (fun x => x = b) w w')
    {s' : Rs} (hn : s'.node = s.node) (hsc : s'.script = s.script) (hlf : s'.left = s.left) (hv : s'.vs.length = s.vs.length) (hl : s'.ls.length = s.ls.length) (hs : Sto w' m.c.L s'.vs s'.ls m.c.bv m.c.Ar m.c.cr m.c.bs) : MnR m w' s' As cs k wr at_ ed := by
  have hbL : m.c.L ≤ b := h.low b (.inr hbT)
  have hlow : ∀ x, x = b → m.c.L ≤ x := fun x e => e ▸ hbL
  have hT : ∀ x, x = b → m.c.T x := fun x e => e ▸ .inr hbT
  have hne : ¬ m.c.R = b := fun e => hbT.elim (fun e' => h.rv (e.trans e')) fun hm => h.rb (e ▸ hm)
  refine ⟨?_, hs, h.gr.keep (Same.of_fr hf h.lt hlow), ?_, h.rl, h.rv, h.rb, by rw [hl]; exact h.rr, by rw [hv]; exact h.nv, by rw [hl]; exact h.na, h.map.fr hf (fun e => h.mb.1 (hT _ e)) (fun x hx g hg e => h.mv x hx g hg (hT _ e)), h.mb, h.mv⟩
  · have := h.blk.fr hf hne
    unfold mnC rnC at this ⊢
    rw [hn, hsc, hlf, hv, hl]
    exact this
  · rw [hsc]; exact h.sc.keep (Same.of_fr hf h.lt hlow)
/-- what turns only blocks that a world did not have in which it was a machine already -/
theorem MnR.far {m : MW} {w0 w w' : World} {s0 s : Rs} {As0 As : Option Addr} {cs0 cs : Nat} {a0 b0 d0 e0 k wr at_ ed : Int} (h0 : MnR m w0 s0 As0 cs0 a0 b0 d0 e0) (h : MnR m w s As cs k wr at_ ed)
    (hf : Fr (fun x => w0.heap.size ≤ x) w w') : MnR m w' s As cs k wr at_ ed := by
  have hT := h0.below
  have hlow : ∀ x, w0.heap.size ≤ x → m.c.L ≤ x := fun x hx => Nat.le_trans h0.lt hx
  refine ⟨h.blk.fr hf (Nat.not_le.2 (hT _ (.inl rfl))), h.sto.fr hf (Nat.not_le.2 (hT _ (.inr (.inl rfl)))) (fun b hb => Nat.not_le.2 (hT _ (.inr (.inr hb)))) (fun b hb => ?_), h.gr.keep (Same.of_fr hf h.lt hlow), h.sc.keep (Same.of_fr hf h.lt hlow), h.rl, h.rv, h.rb, h.rr, h.nv, h.na,
    h.map.fr hf (Nat.not_le.2 h0.map.own.lt) (fun x hx g hg => Nat.not_le.2 ((h0.map.rows x hx).lt g hg).2), h.mb, h.mv⟩
  have hl : s.ls.length = s0.ls.length := h.na.trans h0.na.symm
  rw [hl] at hb
  exact Nat.not_le.2 (h0.sto.row.lt b hb).2
/-- a scalar is set -/
theorem MnR.setV {m : MW} {w : World} {s : Rs} {As : Option Addr} {cs : Nat} {k wr at_ ed : Int} (h : MnR m w s As cs k wr at_ ed) (n : Nat) {x : Int} (hx : is64 x) :
    MnR m (w.setCell ⟨m.c.bv, n, none⟩ (.int .i64 x)) { s with vs := s.vs.set n x } As cs k wr at_ ed ∧ Fr m.c.T w (w.setCell ⟨m.c.bv, n, none⟩ (.int .i64 x)) := by
  obtain ⟨h1, h2⟩ := h.sto.setV n hx
  exact ⟨h.store (.inl rfl) h2 rfl rfl rfl (by simp) rfl h1, h2.toT (.inr (.inl rfl))⟩
/-- an array's element is set -/
theorem MnR.setA {m : MW} {w : World} {s : Rs} {As : Option Addr} {cs : Nat} {k wr at_ ed : Int} (h : MnR m w s As cs k wr at_ ed) {n b : Nat} {l : List Int} (hb : m.c.bs[n]? = some b) (hl : s.ls[n]? = some l) (j : Nat) {x : Int} (hx : is64 x) :
    MnR m (w.setCell ⟨b, j, none⟩ (.int .i64 x)) { s with ls := s.ls.set n (l.set j x) } As cs k wr at_ ed ∧ Fr m.c.T w (w.setCell ⟨b, j, none⟩ (.int .i64 x)) := by
  obtain ⟨h1, h2⟩ := h.sto.setA hb hl j hx
  exact ⟨h.store (.inr (List.mem_of_getElem? hb)) h2 rfl rfl rfl rfl (by simp) h1, h2.toT (.inr (.inr (List.mem_of_getElem? hb)))⟩
/-- an input is taken -/
theorem MnR.input {m : MW} {w : World} {s : Rs} {cs b6 o6 : Nat} {k wr at_ ed : Int} (h : MnR m w s (some ⟨b6, o6, none⟩) cs k wr at_ ed) {x : Int} {q : List Int} (hq : s.script = x :: q) (n : Nat) {A : Option Addr} (hA : A = some ⟨b6, o6 + 1, none⟩ ∨ q = []) {l : Nat} (hm : l = q.length) :
    MnR m ((w.setCell ⟨m.c.bv, n, none⟩ (.int .i64 x)).setCell ⟨m.c.R, 7, none⟩ (.slice A l (cs - 1))) { s with vs := s.vs.set n x, script := q } A (cs - 1) k wr at_ ed ∧ Fr m.c.T w ((w.setCell ⟨m.c.bv, n, none⟩ (.int .i64 x)).setCell ⟨m.c.R, 7, none⟩ (.slice A l (cs - 1))) := by
  have hsl := h.sc
  rw [hq] at hsl
  have hx : is64 x := in_is64 (by obtain ⟨b, o, _, hh⟩ := hsl.2.2 (by simp); exact (hh.2 0 x rfl).2)
  obtain ⟨h1, h2⟩ := h.setV n hx
  have hsl1 := h1.sc
  simp only [hq] at hsl1
  have hf : Fr (fun b => b = m.c.R) (w.setCell ⟨m.c.bv, n, none⟩ (.int .i64 x)) ((w.setCell ⟨m.c.bv, n, none⟩ (.int .i64 x)).setCell ⟨m.c.R, 7, none⟩ (.slice A l (cs - 1))) := Fr.own (Fr.refl _ _) _ _
  refine ⟨h1.own hf rfl rfl (isSl_tail hsl1 hA) ?_, h2.trans (hf.toT m.c.tR)⟩
  have := h1.blk.set_ 7 (.slice A l (cs - 1))
  rw [hm] at this ⊢
  simpa [mnC, rnC] using this
end Go.Proofs.Ytdflbaipbmkdgaa
