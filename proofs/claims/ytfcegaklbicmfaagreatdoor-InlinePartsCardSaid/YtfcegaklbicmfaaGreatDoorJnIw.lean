/-
  Plain laws of inlining: a program that calls nothing is as it was; statements are put in place one after another. No walk.
-/
import Derived.Test.YtfcegaklbicmfaaGreatDoorJnNo
import Derived.Test.YtfcegaklbicmfaaGreatDoorJnPq
import Derived.Test.YtfcegaklbicmfaaGreatDoorJnCq
set_option linter.unusedVariables false
set_option linter.unusedSimpArgs false
set_option maxHeartbeats 3200000
set_option maxRecDepth 100000
namespace Go.Proofs.YtfcegaklbicmfaaGreatDoor
open Go.RowKit Go.Shelf Go.Maps

abbrev noNms : Nms := fun _ => none
theorem inlS_full {call : ByteArray → Exs → Nms → Int → Ist → Sts × Ist} {n : Nms} {s : Ist} (h : fullB s = true) : ∀ xs, inlS call xs n s = (.nil, s)
 | .nil => rfl
 | .cons .. => by unfold inlS; rw [if_pos h]
theorem inlS_fine {call : ByteArray → Exs → Nms → Int → Ist → Sts × Ist} {n : Nms} {s : Ist} {xs : Sts} (h : fullB (inlS call xs n s).2 = false) : fullB s = false := by
 cases hf : fullB s
 ·rfl
 ·rw [inlS_full hf] at h
  exact h.symm.trans hf |>.symm
/-! ### one after another -/
theorem stsA_assoc : ∀ (a b c : Sts), Sts.app (Sts.app a b) c = Sts.app a (Sts.app b c)
 | .nil, _, _ => rfl
 | .cons _ _ _ _ _ _ _ r, b, c => by simp only [Sts.app, stsA_assoc r b c]
theorem inlS_cons {call : ByteArray → Exs → Nms → Int → Ist → Sts × Ist} {n : Nms} {s : Ist} (hf : fullB s = false) (k : Int) (nm : ByteArray) (args : Exs) (cond : Cds) (body els : Sts) (at_ : Int) (r : Sts) :
  inlS call (.cons k nm args cond body els at_ r) n s = if k = 9 then (Sts.app (call nm args n at_ s).1 (inlS call r n (call nm args n at_ s).2).1, (inlS call r n (call nm args n at_ s).2).2)
   else (.cons k (if k = 3 then nm else ofN n nm) (exprN n args) (condN n cond) (inlS call body n ⟨s.calls, s.vars, s.many + 1⟩).1 (inlS call els n (inlS call body n ⟨s.calls, s.vars, s.many + 1⟩).2).1 at_
    (inlS call r n (inlS call els n (inlS call body n ⟨s.calls, s.vars, s.many + 1⟩).2).2).1, (inlS call r n (inlS call els n (inlS call body n ⟨s.calls, s.vars, s.many + 1⟩).2).2).2) := by
 rw [inlS, hf]
 simp only [Bool.false_eq_true, if_false]
theorem inlS_app {call : ByteArray → Exs → Nms → Int → Ist → Sts × Ist} : ∀ (xs ys : Sts) (n : Nms) (s : Ist),
  inlS call (Sts.app xs ys) n s = (Sts.app (inlS call xs n s).1 (inlS call ys n (inlS call xs n s).2).1, (inlS call ys n (inlS call xs n s).2).2)
 | .nil, ys, n, s => rfl
 | .cons k nm args cond body els at_ r, ys, n, s => by
  cases hf : fullB s
  ·have e1 : inlS call (Sts.app (.cons k nm args cond body els at_ r) ys) n s = _ := inlS_cons hf k nm args cond body els at_ (Sts.app r ys)
   rw [e1, inlS_cons hf]
   by_cases h9 : k = 9
   ·simp only [if_pos h9, inlS_app r ys, stsA_assoc]
   ·simp only [if_neg h9, inlS_app r ys, Sts.app]
  ·rw [inlS_full hf, inlS_full hf, inlS_full hf]
   rfl
theorem inlF_app (procs : List UInt8 → Option Prc) : ∀ (f : Nat) (xs ys : Sts) (n : Nms) (s : Ist),
  inlF procs f (Sts.app xs ys) n s = (Sts.app (inlF procs f xs n s).1 (inlF procs f ys n (inlF procs f xs n s).2).1, (inlF procs f ys n (inlF procs f xs n s).2).2)
 | 0, xs, ys, n, s => inlS_app xs ys n s
 | f + 1, xs, ys, n, s => inlS_app xs ys n s
theorem inlF_fine {procs : List UInt8 → Option Prc} : ∀ {f : Nat} {xs : Sts} {n : Nms} {s : Ist}, fullB (inlF procs f xs n s).2 = false → fullB s = false
 | 0, _, _, _, h => inlS_fine h
 | f + 1, _, _, _, h => inlS_fine h
theorem take_app : ∀ (i : Nat) (xs : Sts), ∃ ys, xs = Sts.app (Sts.take i xs) ys
 | 0, xs => ⟨xs, rfl⟩
 | _ + 1, .nil => ⟨.nil, rfl⟩
 | i + 1, .cons k nm args cond body els at_ r => by
  obtain ⟨ys, h⟩ := take_app i r
  exact ⟨ys, by simp only [Sts.take, Sts.app, ← h]⟩
theorem take_of_app : ∀ (xs ys : Sts), Sts.take xs.len (Sts.app xs ys) = xs
 | .nil, ys => by cases ys <;> rfl
 | .cons k nm args cond body els at_ r, ys => by
  have h := take_of_app r ys
  have e : (Sts.cons k nm args cond body els at_ r).len = r.len + 1 := by simp only [Sts.len]
  rw [e]
  simp only [Sts.app, Sts.take, h]
theorem inl_parts {t : Tre} (h : OkT t) (hf : fullB (inlQ t).2 = false) (i : Nat) :
  ∃ (M : Sts) (V : List Va), inlT ⟨t.vars, t.arrays, t.procs, Sts.take i t.main⟩ = (⟨V, t.arrays, [], M⟩, 0) ∧ M.len ≤ (inlQ t).1.len ∧ Sts.take M.len (inlQ t).1 = M ∧ V.length ≤ (inlQ t).2.vars.length ∧ (inlQ t).2.vars.take V.length = V := by
 obtain ⟨ys, hy⟩ := take_app i t.main
 have hl := less_main h i
 have h1 := treeC_ok hl
 obtain ⟨q, hq⟩ : ∃ q, q = inlQ ⟨t.vars, t.arrays, t.procs, Sts.take i t.main⟩ := ⟨_, rfl⟩
 have e : inlQ t = (Sts.app q.1 (inlF (procsOf t.procs) t.procs.length ys noNms q.2).1, (inlF (procsOf t.procs) t.procs.length ys noNms q.2).2) := by
  rw [hq]
  unfold inlQ
  conv => lhs; rw [hy]
  exact inlF_app _ _ _ _ _ _
 obtain ⟨r, hr⟩ : ∃ r, r = inlF (procsOf t.procs) t.procs.length ys noNms q.2 := ⟨_, rfl⟩
 obtain ⟨_, _, news, hn, _⟩ := inlF_news (procs_ok h) t.procs.length ys noNms q.2
 rw [e] at hf ⊢
 have hf2 : fullB q.2 = false := inlF_fine hf
 refine ⟨q.1, q.2.vars, ?_, ?_, take_of_app _ _, ?_, ?_⟩
 ·unfold inlT
  rw [h1, if_pos rfl, ← hq, hf2]
  rfl
 ·rw [Sts.len_app]; omega
 ·simp only; rw [hn, List.length_append]; omega
 ·simp only; rw [hn, List.take_left]

open Go.RowKit Go.Shelf

theorem inlT_of (t : Tre) : (∃ e, e ≠ 0 ∧ inlT t = (noTre, e)) ∨ (OkT t ∧ fullB (inlQ t).2 = false ∧ inlT t = (⟨(inlQ t).2.vars, t.arrays, [], (inlQ t).1⟩, 0)) := by
 unfold inlT
 by_cases h : (treeC t).2 = 0
 ·rw [if_pos h]
  cases hf : fullB (inlQ t).2
  ·exact .inr ⟨treeC_no h, rfl, rfl⟩
  ·exact .inl ⟨9, by decide, rfl⟩
 ·rw [if_neg h]
  exact .inl ⟨_, h, rfl⟩
theorem vaR_take {w : World} {S : Nat → Prop} {Z : Prop} : ∀ (i : Nat) {xs : List Va} {b o : Nat}, VaR w S Z xs b o → VaR w S Z (xs.take i) b o
 | 0, _, _, _, _ => trivial
 | _ + 1, [], _, _, _ => trivial
 | i + 1, _ :: _, _, _, ⟨h1, h2⟩ => ⟨h1, vaR_take i h2⟩
theorem stR_take {w : World} {S : Nat → Prop} {Z : Prop} : ∀ (i : Nat) {xs : Sts} {b o : Nat}, StR w S Z xs b o → StR w S Z (Sts.take i xs) b o
 | 0, _, _, _, _ => trivial
 | _ + 1, .nil, _, _, _ => trivial
 | i + 1, .cons _ _ _ _ _ _ _ _, _, _, ⟨h1, h2, h3, h4, h5, hr⟩ => ⟨h1, h2, h3, h4, h5, stR_take i hr⟩
theorem szS_tk : ∀ (i : Nat) {xs : Sts}, szS xs → szS (Sts.take i xs)
 | 0, _, _ => trivial
 | _ + 1, .nil, _ => trivial
 | i + 1, .cons _ _ _ _ _ _ _ _, ⟨h0, h1, h2, h3, h4, hr⟩ => ⟨h0, h1, h2, h3, h4, szS_tk i hr⟩
theorem slS_take {w : World} {S : Nat → Prop} {Z : Prop} {xs : Sts} {A : Option Addr} {c : Nat} (i : Nat) (hi : i ≤ xs.len) (h : SlR (fun b o => StR w S Z xs b o) xs.len 128 A c) : SlR (fun b o => StR w S Z (Sts.take i xs) b o) (Sts.take i xs).len 128 A c := by
 have e : (Sts.take i xs).len = i := by rw [Sts.len_take]; omega
 rw [e]
 refine ⟨Nat.le_trans hi h.1, ⟨h.2.1.1, by have := h.2.1.2; omega⟩, fun hp => ?_⟩
 obtain ⟨b, o, e, hh⟩ := h.2.2 (by omega)
 exact ⟨b, o, e, stR_take i hh⟩
theorem slV_take {w : World} {S : Nat → Prop} {Z : Prop} {xs : List Va} {A : Option Addr} {c : Nat} (i : Nat) (hi : i ≤ xs.length) (h : SlR (VaR w S Z xs) xs.length 24 A c) : SlR (VaR w S Z (xs.take i)) (xs.take i).length 24 A c := by
 have e : (xs.take i).length = i := by rw [List.length_take]; omega
 rw [e]
 refine ⟨Nat.le_trans hi h.1, ⟨h.2.1.1, by have := h.2.1.2; omega⟩, fun hp => ?_⟩
 obtain ⟨b, o, e, hh⟩ := h.2.2 (by omega)
 exact ⟨b, o, e, vaR_take i hh⟩
theorem iparts_out (t : Tre) (w : World) (S : Nat → Prop) (Z : Prop) (Av Aa Ap Am : Option Addr) (cv ca cp cm : Nat) (i : Int) (he : NameEnv w) (hS : ∀ b, S b → b < w.heap.size) (hsz : SzT t) (hx : TrR w S Z t Av Aa Ap Am cv ca cp cm) (hi : i < 0 ∨ (t.main.len : Int) < i) :
  Calls Tryz.prog 7 #[trV t Av Aa Ap Am cv ca cp cm, .int .i64 i] w (TruePost w) := by
 have hsw : ∀ W, Fr NoT w W → ∀ b, S b → b < W.heap.size := fun W h b hb => Nat.lt_of_lt_of_le (hS b hb) h.size
 have hxw : ∀ W, Fr NoT w W → TrR W S Z t Av Aa Ap Am cv ca cp cm := fun W h => hx.keep (h.same fun b hb => ⟨hS b hb, id⟩)
 have H1 := Lib.hid (fun W (h : Fr NoT w W) => ialive_any W (he.keep h.plain))
 have H2 := Lib.hid (fun W (h : Fr NoT w W) => tgreat_any t W S Z Av Aa Ap Am cv ca cp cm (hsw W h) (hxw W h))
 obtain ⟨n1, hn1⟩ : ∃ n, n = t.vars.length := ⟨_, rfl⟩
 obtain ⟨n2, hn2⟩ : ∃ n, n = t.arrays.length := ⟨_, rfl⟩
 obtain ⟨n3, hn3⟩ : ∃ n, n = t.procs.length := ⟨_, rfl⟩
 obtain ⟨n4, hn4⟩ : ∃ n, n = t.main.len := ⟨_, rfl⟩
 unfold trV at H2 ⊢
 rw [← hn1, ← hn2, ← hn3, ← hn4] at H2 ⊢
 rw [← hn4] at hi
 have e1 : decide (i < 0) = true ∨ (decide (i < 0) = false ∧ decide ((n4 : Int) < i) = true) := by
  by_cases h : i < 0
  ·exact .inl (by simpa using h)
  ·exact .inr ⟨by simpa using h, by simpa using hi.resolve_left h⟩
 have hf1 : Fr NoT w (w.alloc (.cells #[.slice Av n1 cv, .slice Aa n2 ca, .slice Ap n3 cp, .slice Am n4 cm] 27)) := (Fr.refl _ _).alloc _
 have HF1 := Lib.hid hf1
 have HK1 := Lib.hid (Bk.new w 27 #[.slice Av n1 cv, .slice Aa n2 ca, .slice Ap n3 cp, .slice Am n4 cm])
 clear hsw hxw hf1 hx hsz hS he hi hn1 hn2 hn3 hn4
 go_enter Tryz.func7, Tryz.ntmps7
 go_wp2_with fail
 refine (H1.out _ HF1.out).mono ?_
 rintro _ w1 ⟨rfl, hb1⟩
 have hk1 := HK1.out.fr0 (Fr.below hb1)
 obtain ⟨x0, x1, x2, x3, hl1⟩ := bk4 hk1
 have HF2 := Lib.hid (HF1.out.trans (Fr.below hb1))
 have HK2 := Lib.hid hk1
 clear hb1 hk1 H1
 go_wp2_with fail
 refine (H2.out _ HF2.out).mono ?_
 rintro _ w2 ⟨g, rfl, hf2⟩
 have HF3 := Lib.hid (HF2.out.trans hf2)
 have hk2 := HK2.out.fr0 hf2
 clear x0 x1 x2 x3 hl1
 obtain ⟨x0, x1, x2, x3, hl1⟩ := bk4 hk2
 have HK3 := Lib.hid hk2
 clear hf2 hk2 H2
 cases g
 rotate_left
 ·go_wp2_with fail
  go_ret
  exact ⟨rfl, HF3.out.plain⟩
 rcases e1 with e1 | ⟨e1, e2⟩
 ·go_wp2_with fail
  go_ret
  exact ⟨rfl, HF3.out.plain⟩
 ·go_wp2_with fail
  go_ret
  exact ⟨rfl, HF3.out.plain⟩
theorem iparts_else (t : Tre) (w : World) (S : Nat → Prop) (Z : Prop) (Av Aa Ap Am : Option Addr) (cv ca cp cm : Nat) (i : Int) (he : NameEnv w) (hS : ∀ b, S b → b < w.heap.size) (hsz : SzT t) (hx : TrR w S Z t Av Aa Ap Am cv ca cp cm) (m : Nat) (hi : i = m) (hm : m ≤ t.main.len) (hne : (inlT t).2 ≠ 0) :
  Calls Tryz.prog 7 #[trV t Av Aa Ap Am cv ca cp cm, .int .i64 i] w (TruePost w) := by
 have hsw : ∀ W, Fr NoT w W → ∀ b, S b → b < W.heap.size := fun W h b hb => Nat.lt_of_lt_of_le (hS b hb) h.size
 have hxw : ∀ W, Fr NoT w W → TrR W S Z t Av Aa Ap Am cv ca cp cm := fun W h => hx.keep (h.same fun b hb => ⟨hS b hb, id⟩)
 have H1 := Lib.hid (fun W (h : Fr NoT w W) => ialive_any W (he.keep h.plain))
 have H2 := Lib.hid (fun W (h : Fr NoT w W) => tgreat_any t W S Z Av Aa Ap Am cv ca cp cm (hsw W h) (hxw W h))
 have hsz2 : SzT ⟨t.vars, t.arrays, t.procs, Sts.take m t.main⟩ := ⟨hsz.vars, hsz.arrays, hsz.procs, szS_tk m hsz.main⟩
 have h3 := fun W (h : Fr NoT w W) => inl_any t W S Z Av Aa Ap Am cv ca cp cm (he.keep h.plain).toSp (he.keep h.plain).lex.tab (hsw W h) hsz (hxw W h)
 have h5 := fun W (h : Fr NoT w W) => inl_any ⟨t.vars, t.arrays, t.procs, Sts.take m t.main⟩ W S Z Av Aa Ap Am cv ca cp cm (he.keep h.plain).toSp (he.keep h.plain).lex.tab (hsw W h) hsz2 ⟨(hxw W h).vars, (hxw W h).arrays, (hxw W h).procs, slS_take m hm (hxw W h).main⟩
 have hml : (Sts.take m t.main).len = m := by rw [Sts.len_take]; omega
 obtain ⟨n1, hn1⟩ : ∃ n, n = t.vars.length := ⟨_, rfl⟩
 obtain ⟨n2, hn2⟩ : ∃ n, n = t.arrays.length := ⟨_, rfl⟩
 obtain ⟨n3, hn3⟩ : ∃ n, n = t.procs.length := ⟨_, rfl⟩
 obtain ⟨n4, hn4⟩ : ∃ n, n = t.main.len := ⟨_, rfl⟩
 obtain ⟨⟨u, e⟩, hu⟩ : ∃ u, u = inlT t := ⟨_, rfl⟩
 rw [← hu] at h3 hne
 obtain ⟨⟨u2, e2⟩, hu2⟩ : ∃ u, u = inlT ⟨t.vars, t.arrays, t.procs, Sts.take m t.main⟩ := ⟨_, rfl⟩
 rw [← hu2] at h5
 have h3 : ∀ W, Fr NoT w W → Calls Tryz.prog 14 #[trV t Av Aa Ap Am cv ca cp cm] W (fun f w' => ∃ (A1 A2 A3 A4 : Option Addr) (l1 l2 l3 l4 c1 c2 c3 c4 : Nat), f = .returned (.tuple #[.agg #[.slice A1 l1 c1, .slice A2 l2 c2, .slice A3 l3 c3, .slice A4 l4 c4], .int .i64 e]) ∧ Fr NoT W w') :=
  fun W h => (h3 W h).mono fun f w' ⟨A1, A2, A3, A4, c1, c2, c3, c4, e1, _, e3⟩ => ⟨A1, A2, A3, A4, _, _, _, _, c1, c2, c3, c4, e1, e3⟩
 have h5 : ∀ W, Fr NoT w W → Calls Tryz.prog 14 #[trV ⟨t.vars, t.arrays, t.procs, Sts.take m t.main⟩ Av Aa Ap Am cv ca cp cm] W (fun f w' => ∃ (A1 A2 A3 A4 : Option Addr) (l1 l2 l3 l4 c1 c2 c3 c4 : Nat), f = .returned (.tuple #[.agg #[.slice A1 l1 c1, .slice A2 l2 c2, .slice A3 l3 c3, .slice A4 l4 c4], .int .i64 e2]) ∧ Fr NoT W w') :=
  fun W h => (h5 W h).mono fun f w' ⟨A1, A2, A3, A4, c1, c2, c3, c4, e1, _, e3⟩ => ⟨A1, A2, A3, A4, _, _, _, _, c1, c2, c3, c4, e1, e3⟩
 have e1 : (e != 0) = true := by simpa using hne
 unfold trV at h3 h5 H2 ⊢
 simp only [hml, ← hn1, ← hn2, ← hn3, ← hn4] at h3 h5 H2 ⊢
 rw [← hn4] at hm
 have H3 := Lib.hid h3
 have H5 := Lib.hid h5
 have hnlo : decide (i < 0) = false := by rw [hi]; simp
 have hnhi : decide ((n4 : Int) < i) = false := by rw [hi]; simp; omega
 have hge : (0 : Int) ≤ i := by omega
 have hle : i ≤ (n4 : Int) := by omega
 have hcm : (n4 : Int) ≤ (cm : Int) := by have := hx.main.1; omega
 have hcm2 : cm ≤ 9223372036854775807 := hx.main.2.1.1
 have hf1 : Fr NoT w (w.alloc (.cells #[.slice Av n1 cv, .slice Aa n2 ca, .slice Ap n3 cp, .slice Am n4 cm] 27)) := (Fr.refl _ _).alloc _
 have HF1 := Lib.hid hf1
 have HK1 := Lib.hid (Bk.new w 27 #[.slice Av n1 cv, .slice Aa n2 ca, .slice Ap n3 cp, .slice Am n4 cm])
 clear hsw hxw h3 h5 hsz2 hml hf1 hx hsz hS he hu hu2 hne hn1 hn2 hn3 hn4
 subst hi
 go_enter Tryz.func7, Tryz.ntmps7
 go_wp2_with fail
 refine (H1.out _ HF1.out).mono ?_
 rintro _ w1 ⟨rfl, hb1⟩
 have hk1 := HK1.out.fr0 (Fr.below hb1)
 obtain ⟨x0, x1, x2, x3, hl1⟩ := bk4 hk1
 have HF2 := Lib.hid (HF1.out.trans (Fr.below hb1))
 have HK2 := Lib.hid hk1
 clear hb1 hk1 H1
 go_wp2_with fail
 refine (H2.out _ HF2.out).mono ?_
 rintro _ w2 ⟨g, rfl, hf2⟩
 have HF3 := Lib.hid (HF2.out.trans hf2)
 have hk2 := HK2.out.fr0 hf2
 clear x0 x1 x2 x3 hl1
 obtain ⟨x0, x1, x2, x3, hl1⟩ := bk4 hk2
 have HK3 := Lib.hid hk2
 clear hf2 hk2 H2
 cases g
 rotate_left
 ·go_wp2_with fail
  go_ret
  exact ⟨rfl, HF3.out.plain⟩
 go_wp2_with fail
 refine (H3.out _ HF3.out).mono ?_
 rintro _ w3 ⟨A1, A2, A3, A4, l1, l2, l3, l4, c1, c2, c3, c4, rfl, hf3⟩
 have hf4 : Fr NoT w2 (w3.alloc (.cells #[.slice A1 l1 c1, .slice A2 l2 c2, .slice A3 l3 c3, .slice A4 l4 c4] 27)) := hf3.alloc _
 have HF4 := Lib.hid (HF3.out.trans hf4)
 have hk4 := HK3.out.fr0 hf4
 clear x0 x1 x2 x3 hl1
 obtain ⟨x0, x1, x2, x3, hl1⟩ := bk4 hk4
 have hl2 : w.heap.size < w3.heap.size := (HK3.out.fr0 hf3).lt
 have hl3 : w.heap.size < w3.heap.size + 1 := by omega
 clear hf3 hf4 hk4
 go_wp2_with fail
 refine (H5.out _ (HF4.out.trans ((Fr.refl _ _).alloc _))).mono ?_
 rintro _ w5 ⟨B1, B2, B3, B4, k1, k2, k3, k4, d1, d2, d3, d4, rfl, hf5⟩
 have HF5 := Lib.hid ((HF4.out.trans ((Fr.refl _ _).alloc _)).trans hf5)
 clear x0 x1 x2 x3 hl1 hf5
 go_wp2_with fail
 go_ret
 exact ⟨rfl, (HF5.out.alloc _).plain⟩
theorem iparts_right (t : Tre) (w : World) (S : Nat → Prop) (Z : Prop) (Av Aa Ap Am : Option Addr) (cv ca cp cm : Nat) (i : Int) (he : NameEnv w) (hS : ∀ b, S b → b < w.heap.size) (hsz : SzT t) (hx : TrR w S Z t Av Aa Ap Am cv ca cp cm) (m : Nat) (hi : i = m) (hm : m ≤ t.main.len) (X M : Sts) (U V : List Va) (hq : inlT t = (⟨U, t.arrays, [], X⟩, 0)) (hp : inlT ⟨t.vars, t.arrays, t.procs, Sts.take m t.main⟩ = (⟨V, t.arrays, [], M⟩, 0)) (k1 : M.len ≤ X.len) (k2 : Sts.take M.len X = M) (k3 : V.length ≤ U.length) (k4 : U.take V.length = V) :
  Calls Tryz.prog 7 #[trV t Av Aa Ap Am cv ca cp cm, .int .i64 i] w (TruePost w) := by
 have hsw : ∀ W, Fr NoT w W → ∀ b, S b → b < W.heap.size := fun W h b hb => Nat.lt_of_lt_of_le (hS b hb) h.size
 have hxw : ∀ W, Fr NoT w W → TrR W S Z t Av Aa Ap Am cv ca cp cm := fun W h => hx.keep (h.same fun b hb => ⟨hS b hb, id⟩)
 have H1 := Lib.hid (fun W (h : Fr NoT w W) => ialive_any W (he.keep h.plain))
 have H2 := Lib.hid (fun W (h : Fr NoT w W) => tgreat_any t W S Z Av Aa Ap Am cv ca cp cm (hsw W h) (hxw W h))
 have hsz2 : SzT ⟨t.vars, t.arrays, t.procs, Sts.take m t.main⟩ := ⟨hsz.vars, hsz.arrays, hsz.procs, szS_tk m hsz.main⟩
 have h3 := fun W (h : Fr NoT w W) => inl_any t W S Z Av Aa Ap Am cv ca cp cm (he.keep h.plain).toSp (he.keep h.plain).lex.tab (hsw W h) hsz (hxw W h)
 have h5 := fun W (h : Fr NoT w W) => inl_any ⟨t.vars, t.arrays, t.procs, Sts.take m t.main⟩ W S Z Av Aa Ap Am cv ca cp cm (he.keep h.plain).toSp (he.keep h.plain).lex.tab (hsw W h) hsz2 ⟨(hxw W h).vars, (hxw W h).arrays, (hxw W h).procs, slS_take m hm (hxw W h).main⟩
 have hml : (Sts.take m t.main).len = m := by rw [Sts.len_take]; omega
 obtain ⟨n1, hn1⟩ : ∃ n, n = t.vars.length := ⟨_, rfl⟩
 obtain ⟨n2, hn2⟩ : ∃ n, n = t.arrays.length := ⟨_, rfl⟩
 obtain ⟨n3, hn3⟩ : ∃ n, n = t.procs.length := ⟨_, rfl⟩
 obtain ⟨n4, hn4⟩ : ∃ n, n = t.main.len := ⟨_, rfl⟩
 rw [hq] at h3
 rw [hp] at h5
 have h6 := fun W (S' S2 : Nat → Prop) (Bv Ba Bp Bm : Option Addr) (dv da dp dm : Nat) (Cv Ca Cp Cm : Option Addr) (ev ea ep em : Nat) (h1 : ∀ b, S' b → b < W.heap.size) (h2 : ∀ b, S2 b → b < W.heap.size) (h3 : TrR W S' False ⟨U, t.arrays, [], X⟩ Bv Ba Bp Bm dv da dp dm) (h4 : TrR W S2 False ⟨V, t.arrays, [], M⟩ Cv Ca Cp Cm ev ea ep em) =>
  psame_any ⟨V, t.arrays, [], M⟩ ⟨V, t.arrays, [], M⟩ W S' S2 False False Bv Ba Bp Bm Cv Ca Cp Cm dv da dp dm ev ea ep em h1 h2 ⟨by have := slV_take V.length k3 h3.vars; simp only [k4] at this; exact this, h3.arrays, h3.procs, by have := slS_take M.len k1 h3.main; simp only [k2] at this; exact this⟩ h4
 simp only [eqT_refl] at h6
 obtain ⟨nx, hnx⟩ : ∃ n, n = X.len := ⟨_, rfl⟩
 obtain ⟨nm, hnm⟩ : ∃ n, n = M.len := ⟨_, rfl⟩
 obtain ⟨nu, hnu⟩ : ∃ n, n = U.length := ⟨_, rfl⟩
 obtain ⟨nv, hnv⟩ : ∃ n, n = V.length := ⟨_, rfl⟩
 unfold InlP trV at h3 h5
 unfold trV at h6 H2 ⊢
 simp only [hml, List.length_nil, ← hn1, ← hn2, ← hn3, ← hn4, ← hnx, ← hnm, ← hnu, ← hnv] at h3 h5 h6 H2 ⊢
 rw [← hn4] at hm
 rw [← hnx, ← hnm] at k1
 rw [← hnu, ← hnv] at k3
 have hxc : ∀ (W : World) (S' : Nat → Prop) (Bv Ba Bp Bm : Option Addr) (dv da dp dm : Nat), TrR W S' False ⟨U, t.arrays, [], X⟩ Bv Ba Bp Bm dv da dp dm → nx ≤ dm ∧ dm ≤ 9223372036854775807 ∧ nu ≤ dv ∧ dv ≤ 9223372036854775807 := fun W S' Bv Ba Bp Bm dv da dp dm h => ⟨by rw [hnx]; exact h.main.1, h.main.2.1.1, by rw [hnu]; exact h.vars.1, h.vars.2.1.1⟩
 have q1 : decide ((nx : Int) < (nm : Int)) = false := by simp; omega
 have q2 : decide ((nu : Int) < (nv : Int)) = false := by simp; omega
 have q3 : (nm : Int) ≤ (nx : Int) := by omega
 have q4 : (nv : Int) ≤ (nu : Int) := by omega
 have H6 := Lib.hid h6
 have HXC := Lib.hid hxc
 have H3 := Lib.hid h3
 have H5 := Lib.hid h5
 have hnlo : decide (i < 0) = false := by rw [hi]; simp
 have hnhi : decide ((n4 : Int) < i) = false := by rw [hi]; simp; omega
 have hge : (0 : Int) ≤ i := by omega
 have hle : i ≤ (n4 : Int) := by omega
 have hcm : (n4 : Int) ≤ (cm : Int) := by have := hx.main.1; omega
 have hcm2 : cm ≤ 9223372036854775807 := hx.main.2.1.1
 have hf1 : Fr NoT w (w.alloc (.cells #[.slice Av n1 cv, .slice Aa n2 ca, .slice Ap n3 cp, .slice Am n4 cm] 27)) := (Fr.refl _ _).alloc _
 have HF1 := Lib.hid hf1
 have HK1 := Lib.hid (Bk.new w 27 #[.slice Av n1 cv, .slice Aa n2 ca, .slice Ap n3 cp, .slice Am n4 cm])
 clear hsw hxw h3 h5 hsz2 hml hf1 hx hsz hS he hq hp h6 hxc k2 k4 hnx hnm hnu hnv k1 k3 hn1 hn2 hn3 hn4
 subst hi
 go_enter Tryz.func7, Tryz.ntmps7
 go_wp2_with fail
 refine (H1.out _ HF1.out).mono ?_
 rintro _ w1 ⟨rfl, hb1⟩
 have hk1 := HK1.out.fr0 (Fr.below hb1)
 obtain ⟨x0, x1, x2, x3, hl1⟩ := bk4 hk1
 have HF2 := Lib.hid (HF1.out.trans (Fr.below hb1))
 have HK2 := Lib.hid hk1
 clear hb1 hk1 H1
 go_wp2_with fail
 refine (H2.out _ HF2.out).mono ?_
 rintro _ w2 ⟨g, rfl, hf2⟩
 have HF3 := Lib.hid (HF2.out.trans hf2)
 have hk2 := HK2.out.fr0 hf2
 clear x0 x1 x2 x3 hl1
 obtain ⟨x0, x1, x2, x3, hl1⟩ := bk4 hk2
 have HK3 := Lib.hid hk2
 clear hf2 hk2 H2
 cases g
 rotate_left
 ·go_wp2_with fail
  go_ret
  exact ⟨rfl, HF3.out.plain⟩
 go_wp2_with fail
 refine (H3.out _ HF3.out).mono ?_
 rintro _ w3 ⟨Bv, Ba, Bp, Bm, dv, da, dp, dm, rfl, hT, hf3⟩
 obtain ⟨w4, hw4⟩ : ∃ y, y = w3.alloc (.cells #[.slice Bv nu dv, .slice Ba n2 da, .slice Bp 0 dp, .slice Bm nx dm] 27) := ⟨_, rfl⟩
 have hf34 : Fr NoT w3 w4 := by rw [hw4]; exact (Fr.refl _ _).alloc _
 have hko : Bk w4 w3.heap.size 27 #[.slice Bv nu dv, .slice Ba n2 da, .slice Bp 0 dp, .slice Bm nx dm] := by rw [hw4]; exact Bk.new _ _ _
 have hos : ∀ W, Fr NoT w4 W → ∀ b, New w2.heap.size w3 b → b < W.heap.size := fun W h b hb => Nat.lt_of_lt_of_le hb.2 (Nat.le_trans hf34.size h.size)
 have hto : ∀ W, Fr NoT w4 W → TrR W (New w2.heap.size w3) False ⟨U, t.arrays, [], X⟩ Bv Ba Bp Bm dv da dp dm := fun W h => hT.keep ((hf34.trans h).same fun b hb => ⟨hb.2, id⟩)
 obtain ⟨z1, z2, z3, z4⟩ := HXC.out _ _ _ _ _ _ _ _ _ _ hT
 have HOW := Lib.hid hto
 have HOS := Lib.hid hos
 have HF4 := Lib.hid ((HF3.out.trans hf3).trans hf34)
 have hk4 := (HK3.out.fr0 hf3).fr0 hf34
 have HKO := Lib.hid hko
 have HW4 := Lib.hid hw4
 have hk4e := hk4
 rw [hw4] at hk4e
 have hl2 : w.heap.size < w3.heap.size := (HK3.out.fr0 hf3).lt
 have hl3 : w.heap.size < w3.heap.size + 1 := by omega
 clear x0 x1 x2 x3 hl1 hf3 hT hf34 hos hto hw4 H3 hk4 hko HXC
 obtain ⟨x0, x1, x2, x3, hl1⟩ := bk4 hk4e
 clear hk4e
 go_wp2_with fail
 rw [← HW4.out]
 refine (H5.out _ (HF4.out.trans ((Fr.refl _ _).alloc _))).mono ?_
 rintro _ w6 ⟨Cv, Ca, Cp, Cm, ev, ea, ep, em, rfl, hT, hf56⟩
 obtain ⟨w5, hw5⟩ : ∃ y, y = w4.alloc (.cells #[.slice Av n1 cv, .slice Aa n2 ca, .slice Ap n3 cp, .slice Am m cm] 27) := ⟨_, rfl⟩
 rw [← hw5] at hf56 hT
 have hf45 : Fr NoT w4 w5 := by rw [hw5]; exact (Fr.refl _ _).alloc _
 obtain ⟨w7, hw7⟩ : ∃ y, y = w6.alloc (.cells #[.slice Cv nv ev, .slice Ca n2 ea, .slice Cp 0 ep, .slice Cm nm em] 27) := ⟨_, rfl⟩
 have hf67 : Fr NoT w6 w7 := by rw [hw7]; exact (Fr.refl _ _).alloc _
 have hkz : Bk w7 w6.heap.size 27 #[.slice Cv nv ev, .slice Ca n2 ea, .slice Cp 0 ep, .slice Cm nm em] := by rw [hw7]; exact Bk.new _ _ _
 have hf47 := (hf45.trans hf56).trans hf67
 have hzs : ∀ W, Fr NoT w7 W → ∀ b, New w5.heap.size w6 b → b < W.heap.size := fun W h b hb => Nat.lt_of_lt_of_le hb.2 (Nat.le_trans hf67.size h.size)
 have hzt : ∀ W, Fr NoT w7 W → TrR W (New w5.heap.size w6) False ⟨V, t.arrays, [], M⟩ Cv Ca Cp Cm ev ea ep em := fun W h => hT.keep ((hf67.trans h).same fun b hb => ⟨hb.2, id⟩)
 have HF7 := Lib.hid (HF4.out.trans hf47)
 have HF47 := Lib.hid hf47
 have HZS := Lib.hid hzs
 have HZT := Lib.hid hzt
 have hk7 := HKO.out.fr0 hf47
 have HK7 := Lib.hid hk7
 have HZ7 := Lib.hid hkz
 have HW7 := Lib.hid hw7
 rw [hw7] at hk7
 have hl5 : w3.heap.size < w6.heap.size := (HKO.out.fr0 (hf45.trans hf56)).lt
 have hl6 : w3.heap.size < w6.heap.size + 1 := by omega
 have z5 : (nx : Int) ≤ (dm : Int) := by omega
 have z6 : (nu : Int) ≤ (dv : Int) := by omega
 clear hl2 hl3
 clear x0 x1 x2 x3 hl1 hf45 hT hf56 hf67 hkz hf47 hzs hzt hw5 hw7
 obtain ⟨x0, x1, x2, x3, hl1⟩ := bk4 hk7
 clear hk7
 go_wp2_with fail
 rw [← HW7.out]
 have hf78 : Fr NoT w7 (w7.alloc (.cells #[.slice Bv nv dv, .slice Ba n2 da, .slice Bp 0 dp, .slice Bm nm dm] 27)) := (Fr.refl _ _).alloc _
 refine (H6.out _ (New w2.heap.size w3) (New w5.heap.size w6) Bv Ba Bp Bm dv da dp dm Cv Ca Cp Cm ev ea ep em (HOS.out _ (HF47.out.trans hf78)) (HZS.out _ hf78) (HOW.out _ (HF47.out.trans hf78)) (HZT.out _ hf78)).mono ?_
 rintro _ w9 ⟨rfl, hf9⟩
 have HF9 := Lib.hid ((HF7.out.trans hf78).trans hf9)
 clear hf9 hf78 x0 x1 x2 x3 hl1 hl5 hl6
 go_wp2_with fail
 go_ret
 exact ⟨rfl, HF9.out.plain⟩
theorem iparts_any (t : Tre) (w : World) (S : Nat → Prop) (Z : Prop) (Av Aa Ap Am : Option Addr) (cv ca cp cm : Nat) (i : Int) (he : NameEnv w) (hS : ∀ b, S b → b < w.heap.size) (hsz : SzT t) (hx : TrR w S Z t Av Aa Ap Am cv ca cp cm) :
  Calls Tryz.prog 7 #[trV t Av Aa Ap Am cv ca cp cm, .int .i64 i] w (TruePost w) := by
 by_cases h1 : i < 0
 ·exact iparts_out t w S Z Av Aa Ap Am cv ca cp cm i he hS hsz hx (.inl h1)
 by_cases h2 : (t.main.len : Int) < i
 ·exact iparts_out t w S Z Av Aa Ap Am cv ca cp cm i he hS hsz hx (.inr h2)
 obtain ⟨m, hm⟩ : ∃ m : Nat, i = m := ⟨i.toNat, by omega⟩
 have hml : m ≤ t.main.len := by omega
 rcases inlT_of t with ⟨e, hne, h⟩ | ⟨g1, g2, g3⟩
 ·exact iparts_else t w S Z Av Aa Ap Am cv ca cp cm i he hS hsz hx m hm hml (by rw [h]; exact hne)
 ·obtain ⟨M, V, q1, q2, q3, q4, q5⟩ := inl_parts g1 g2 m
  exact iparts_right t w S Z Av Aa Ap Am cv ca cp cm i he hS hsz hx m hm hml _ M _ V g3 q1 q2 q3 q4 q5
end Go.Proofs.YtfcegaklbicmfaaGreatDoor
