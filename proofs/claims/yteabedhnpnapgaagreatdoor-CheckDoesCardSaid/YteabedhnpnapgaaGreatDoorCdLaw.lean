/-
  law11: CheckDoes.
-/
import Derived.Test.YteabedhnpnapgaaGreatDoorJnCkF
import Derived.Test.YteabedhnpnapgaaGreatDoorRtTree
import Derived.Test.YteabedhnpnapgaaGreatDoorBaTr
import Derived.Test.YteabedhnpnapgaaGreatDoorJnCq
import Derived.Test.YteabedhnpnapgaaGreatDoorRqSameT
import Derived.Test.YteabedhnpnapgaaGreatDoorJnSc
namespace Go.Proofs.YteabedhnpnapgaaGreatDoor
open Go.RowKit Go.Shelf
set_option linter.unusedVariables false
set_option linter.unusedSimpArgs false

def TruePost (W : World) (e : Ending) (w' : World) : Prop := e = .returned (.bool true) ∧ Below W.heap.size W w'
theorem szX_bare : ∀ xs : Exs, szX xs → szX xs.bare
  | .nil, _ => trivial
  | .cons _ _ _ args _ r, ⟨h0, h1, h2⟩ => ⟨h0, szX_bare args h1, szX_bare r h2⟩
theorem szC_bare : ∀ xs : Cds, szC xs → szC xs.bare
  | .nil, _ => trivial
  | .cons _ args of_ _ r, ⟨h1, h2, h3⟩ => ⟨szX_bare args h1, szC_bare of_ h2, szC_bare r h3⟩
theorem szS_bare : ∀ xs : Sts, szS xs → szS xs.bare
  | .nil, _ => trivial
  | .cons _ _ args cond body els _ r, ⟨h0, h1, h2, h3, h4, h5⟩ => ⟨h0, szX_bare args h1, szC_bare cond h2, szS_bare body h3, szS_bare els h4, szS_bare r h5⟩
theorem bareX_bare : ∀ xs : Exs, xs.bare.bare = xs.bare
  | .nil => rfl
  | .cons _ _ _ args _ r => by simp only [Exs.bare, bareX_bare args, bareX_bare r]
theorem bareC_bare : ∀ xs : Cds, xs.bare.bare = xs.bare
  | .nil => rfl
  | .cons _ args of_ _ r => by simp only [Cds.bare, bareX_bare args, bareC_bare of_, bareC_bare r]
theorem bareS_bare : ∀ xs : Sts, xs.bare.bare = xs.bare
  | .nil => rfl
  | .cons _ _ args cond body els _ r => by simp only [Sts.bare, bareX_bare args, bareC_bare cond, bareS_bare body, bareS_bare els, bareS_bare r]
theorem bareT_bare (t : Tre) : t.bare.bare = t.bare := by
  simp only [Tre.bare, List.map_map, bareS_bare]
  congr 1
  · refine List.map_congr_left fun x _ => ?_
    simp only [Function.comp, Prc.bare, List.map_map, bareS_bare]
    congr 1
theorem sz_bare {t : Tre} (h : SzT t) : SzT t.bare := by
  refine ⟨fun x hx => ?_, fun x hx => ?_, fun x hx => ?_, szS_bare _ h.main⟩
  · obtain ⟨y, hy, rfl⟩ := List.mem_map.1 hx
    exact h.vars y hy
  · obtain ⟨y, hy, rfl⟩ := List.mem_map.1 hx
    exact h.arrays y hy
  · obtain ⟨y, hy, rfl⟩ := List.mem_map.1 hx
    obtain ⟨h1, h2, h3⟩ := h.procs y hy
    refine ⟨h1, fun z hz => ?_, szS_bare _ h3⟩
    obtain ⟨v, hv, rfl⟩ := List.mem_map.1 hz
    exact h2 v hv
set_option maxRecDepth 100000 in
set_option maxHeartbeats 3200000 in
theorem cdoes_any (t : Tre) (w : World) (S : Nat → Prop) (Z : Prop) (Av Aa Ap Am : Option Addr) (cv ca cp cm : Nat) (he : SpEnv w) (hS : ∀ b, S b → b < w.heap.size) (hsz : SzT t) (hx : TrR w S Z t Av Aa Ap Am cv ca cp cm) :
    Calls Tryz.prog 3 #[trV t Av Aa Ap Am cv ca cp cm] w (TruePost w) := by
  have hX := fun (W : World) (hf : Fr NoT w W) => hx.keep (hf.same fun b hb => ⟨hS b hb, id⟩)
  have hSW := fun (W : World) (hf : Fr NoT w W) b (hb : S b) => Nat.lt_of_lt_of_le (hS b hb) hf.size
  have h1 := fun (W : World) (hf : Fr NoT w W) => tgreat_any t W S Z Av Aa Ap Am cv ca cp cm (hSW W hf) (hX W hf)
  have h2 := fun (W : World) (hf : Fr NoT w W) => bare_any t W S Z Av Aa Ap Am cv ca cp cm (hSW W hf) (hX W hf)
  have h3 := fun (W : World) (hf : Fr NoT w W) => ctree_any t W S Z Av Aa Ap Am cv ca cp cm (he.keep hf.plain) (hSW W hf) hsz (hX W hf)
  have h4 := fun (W : World) (hf : Fr NoT w W) => rtree_any t W S Z Av Aa Ap Am cv ca cp cm (hSW W hf) hsz (hX W hf)
  have h5 := fun (W : World) (hf : Fr NoT w W) (S' : Nat → Prop) (Bv Ba Bp Bm : Option Addr) (dv da dp dm : Nat) (hs : ∀ b, S' b → b < W.heap.size) (hb : TrR W S' False t.bare Bv Ba Bp Bm dv da dp dm) => ctree_any t.bare W S' False Bv Ba Bp Bm dv da dp dm (he.keep hf.plain) hs (sz_bare hsz) hb
  have h6 := fun (W : World) (hf : Fr NoT w W) (S' : Nat → Prop) (Bv Ba Bp Bm : Option Addr) (dv da dp dm : Nat) (hs : ∀ b, S' b → b < W.heap.size) (hb : TrR W S' False t.bare Bv Ba Bp Bm dv da dp dm) => ralikeT_any t.bare t W S' S False Z Bv Ba Bp Bm Av Aa Ap Am dv da dp dm cv ca cp cm hs (hSW W hf) hb (hX W hf)
  rw [eqT_alike (bareT_bare t)] at h6
  have hb := treeC_b t
  obtain ⟨⟨a, e⟩, hp⟩ : ∃ q, q = treeC t := ⟨_, rfl⟩
  obtain ⟨⟨a', e'⟩, hp'⟩ : ∃ q, q = treeC t.bare := ⟨_, rfl⟩
  rw [← hp, ← hp'] at hb
  rw [← hp] at h3 h4
  rw [← hp'] at h5
  have hb : e = e' := hb
  subst hb
  unfold trV at h1 h2 h3 h4 h6 ⊢
  obtain ⟨n1, hn1⟩ : ∃ n, n = t.vars.length := ⟨_, rfl⟩
  obtain ⟨n2, hn2⟩ : ∃ n, n = t.arrays.length := ⟨_, rfl⟩
  obtain ⟨n3, hn3⟩ : ∃ n, n = t.procs.length := ⟨_, rfl⟩
  obtain ⟨n4, hn4⟩ : ∃ n, n = t.main.len := ⟨_, rfl⟩
  rw [← hn1, ← hn2, ← hn3, ← hn4] at h1 h2 h3 h4 h6 ⊢
  have HF1 := Lib.hid (show Fr NoT w (w.alloc (.cells #[.slice Av n1 cv, .slice Aa n2 ca, .slice Ap n3 cp, .slice Am n4 cm] 27)) from (Fr.refl _ _).alloc _)
  have HK1 := Lib.hid (Bk.new w 27 #[.slice Av n1 cv, .slice Aa n2 ca, .slice Ap n3 cp, .slice Am n4 cm])
  have H1 := Lib.hid h1
  have H2 := Lib.hid h2
  have H3 := Lib.hid h3
  have H4 := Lib.hid h4
  have H5 := Lib.hid h5
  have H6 := Lib.hid h6
  clear hX hSW h1 h2 h3 h4 h5 h6 hx hsz hS he hp hp' hn1 hn2 hn3 hn4
  go_enter Tryz.func3, Tryz.ntmps3
  go_wp2_with fail
  refine (H1.out _ HF1.out).mono ?_
  rintro _ w2 ⟨g0, rfl, hf2⟩
  have HF2 := Lib.hid (HF1.out.trans hf2)
  have HK2 := Lib.hid (HK1.out.fr0 hf2)
  obtain ⟨x0, x1, x2, x3, hl1⟩ := bk4 HK2.out
  clear hf2
  cases g0
  rotate_left
  · go_wp2_with fail
    go_ret
    exact ⟨rfl, HF2.out.plain⟩
  go_wp2_with fail
  refine (H2.out _ HF2.out).mono ?_
  rintro _ w3 ⟨Bv, Ba, Bp, Bm, dv, da, dp, dm, rfl, htr, hf3⟩
  unfold trV
  obtain ⟨m1, hm1⟩ : ∃ n, n = t.bare.vars.length := ⟨_, rfl⟩
  obtain ⟨m2, hm2⟩ : ∃ n, n = t.bare.arrays.length := ⟨_, rfl⟩
  obtain ⟨m3, hm3⟩ : ∃ n, n = t.bare.procs.length := ⟨_, rfl⟩
  obtain ⟨m4, hm4⟩ : ∃ n, n = t.bare.main.len := ⟨_, rfl⟩
  rw [← hm1, ← hm2, ← hm3, ← hm4]
  obtain ⟨w4, hw4⟩ : ∃ w4, w4 = w3.alloc (.cells #[.slice Bv m1 dv, .slice Ba m2 da, .slice Bp m3 dp, .slice Bm m4 dm] 27) := ⟨_, rfl⟩
  have hk5 : Bk w4 w3.heap.size 27 #[.slice Bv m1 dv, .slice Ba m2 da, .slice Bp m3 dp, .slice Bm m4 dm] := by rw [hw4]; exact Bk.new _ _ _
  have hf4 : Fr NoT w3 w4 := by rw [hw4]; exact (Fr.refl _ _).alloc _
  have hT := fun (W : World) (hf : Fr NoT w4 W) => htr.keep ((hf4.trans hf).same fun b hb => ⟨hb.2, id⟩)
  have hTS := fun (W : World) (hf : Fr NoT w4 W) b (hb : New w2.heap.size w3 b) => Nat.lt_of_lt_of_le hb.2 (hf4.trans hf).size
  have h5 := fun (W : World) (hf : Fr NoT w4 W) => H5.out W ((HF2.out.trans hf3).trans (hf4.trans hf)) _ Bv Ba Bp Bm dv da dp dm (hTS W hf) (hT W hf)
  have h6 := fun (W : World) (hf : Fr NoT w4 W) => H6.out W ((HF2.out.trans hf3).trans (hf4.trans hf)) _ Bv Ba Bp Bm dv da dp dm (hTS W hf) (hT W hf)
  unfold trV at h5
  rw [← hm1, ← hm2, ← hm3, ← hm4] at h5 h6
  have G5 := Lib.hid h5
  have G6 := Lib.hid h6
  have HK5 := Lib.hid hk5
  have HK4 := Lib.hid (HK2.out.fr0 (hf3.trans hf4))
  have HK3 := Lib.hid (HK2.out.fr0 hf3)
  have HF4 := Lib.hid ((HF2.out.trans hf3).trans hf4)
  have HW4 := Lib.hid hw4
  clear H5 H6 H1 H2 htr hf3 hm1 hm2 hm3 hm4 hk5 hf4 hT hTS h5 h6 hw4 x0 x1 x2 x3 hl1
  obtain ⟨x0, x1, x2, x3, hl1⟩ := bk4 HK3.out
  go_wp2_with fail
  rw [← HW4.out]
  refine (H3.out _ HF4.out).mono ?_
  rintro _ w5 ⟨rfl, hf5⟩
  have HF5 := Lib.hid hf5
  clear x0 x1 x2 x3 hl1 hf5
  obtain ⟨x0, x1, x2, x3, hl1⟩ := bk4 (HK4.out.fr0 HF5.out)
  go_wp2_with fail
  refine (H4.out _ (HF4.out.trans HF5.out)).mono ?_
  rintro _ w6 ⟨rfl, hf6⟩
  have HF6 := Lib.hid (HF5.out.trans hf6)
  clear x0 x1 x2 x3 hl1 hf6
  obtain ⟨x0, x1, x2, x3, hl1⟩ := bk4 (HK4.out.fr0 HF6.out)
  obtain ⟨y0, y1, y2, y3, hl2⟩ := bk4 (HK5.out.fr0 HF6.out)
  go_wp2_with fail
  refine (G5.out _ HF6.out).mono ?_
  rintro _ w7 ⟨rfl, hf7⟩
  have HF7 := Lib.hid (HF6.out.trans hf7)
  clear x0 x1 x2 x3 hl1 y0 y1 y2 y3 hl2 hf7
  obtain ⟨x0, x1, x2, x3, hl1⟩ := bk4 (HK4.out.fr0 HF7.out)
  obtain ⟨y0, y1, y2, y3, hl2⟩ := bk4 (HK5.out.fr0 HF7.out)
  go_wp2_with fail
  refine (G6.out _ HF7.out).mono ?_
  rintro _ w8 ⟨rfl, hf8⟩
  go_wp2_with fail
  go_ret
  exact ⟨rfl, (HF4.out.trans (HF7.out.trans hf8)).plain⟩
end Go.Proofs.YteabedhnpnapgaaGreatDoor
