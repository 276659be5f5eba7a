/-
  Plain laws of inlining: a program that calls nothing is as it was; statements are put in place one after another. No walk.
-/
import Derived.Test.YtfcegaklbicmfaaGreatDoorJnNo
import Derived.Test.YtfcegaklbicmfaaGreatDoorJnPq
import Derived.Test.YtfcegaklbicmfaaGreatDoorJnCq
set_option linter.unusedVariables false
set_option linter.unusedSimpArgs false
set_option maxHeartbeats 3200000
set_option maxRecDepth 100000
namespace Go.Proofs.YtfcegaklbicmfaaGreatDoor
open Go.RowKit Go.Shelf Go.Maps

abbrev noNms : Nms := fun _ => none
theorem exprN_no : ∀ xs, exprN noNms xs = xs
 | .nil => rfl
 | .cons k nm m args at_ r => by
  simp only [exprN, exprN_no args, exprN_no r, ofN, Option.getD_none, ite_self]
theorem condN_no : ∀ xs, condN noNms xs = xs
 | .nil => rfl
 | .cons k args of_ at_ r => by simp only [condN, exprN_no, condN_no of_, condN_no r]
theorem inlS_full {call : ByteArray → Exs → Nms → Int → Ist → Sts × Ist} {n : Nms} {s : Ist} (h : fullB s = true) : ∀ xs, inlS call xs n s = (.nil, s)
 | .nil => rfl
 | .cons .. => by unfold inlS; rw [if_pos h]
theorem inlS_fine {call : ByteArray → Exs → Nms → Int → Ist → Sts × Ist} {n : Nms} {s : Ist} {xs : Sts} (h : fullB (inlS call xs n s).2 = false) : fullB s = false := by
 cases hf : fullB s
 ·rfl
 ·rw [inlS_full hf] at h
  exact h.symm.trans hf |>.symm
theorem inlS_idle {call : ByteArray → Exs → Nms → Int → Ist → Sts × Ist} : ∀ (xs : Sts) (s : Ist), anyS xs = false → fullB (inlS call xs noNms s).2 = false → inlS call xs noNms s = (xs, ⟨s.calls, s.vars, s.many + cntS xs⟩)
 | .nil, s, _, _ => rfl
 | .cons k nm args cond body els at_ r, s, ha, hf => by
  have h0 := inlS_fine hf
  simp only [anyS, Bool.or_eq_false_iff, beq_eq_false_iff_ne, ne_eq] at ha
  obtain ⟨⟨⟨a1, a2⟩, a3⟩, a4⟩ := ha
  unfold inlS at hf ⊢
  rw [if_neg (by rw [h0]; decide), if_neg a3] at hf ⊢
  simp only at hf
  have f3 := inlS_fine hf
  have f2 := inlS_fine f3
  have e1 := inlS_idle body ⟨s.calls, s.vars, s.many + 1⟩ a1 f2
  rw [e1] at hf f3 ⊢
  simp only at hf f3 ⊢
  have e2 := inlS_idle els _ a2 f3
  rw [e2] at hf ⊢
  simp only at hf ⊢
  have e3 := inlS_idle r _ a4 hf
  rw [e3]
  simp only [exprN_no, condN_no, ofN, Option.getD_none, ite_self, cntS]
  congr 2
  omega
theorem inlS_small {call : ByteArray → Exs → Nms → Int → Ist → Sts × Ist} : ∀ (xs : Sts) (s : Ist), anyS xs = false → s.many + cntS xs ≤ 256 → s.vars.length ≤ 32 → inlS call xs noNms s = (xs, ⟨s.calls, s.vars, s.many + cntS xs⟩)
 | .nil, s, _, _, _ => rfl
 | .cons k nm args cond body els at_ r, s, ha, hm, hv => by
  simp only [anyS, Bool.or_eq_false_iff, beq_eq_false_iff_ne, ne_eq] at ha
  obtain ⟨⟨⟨a1, a2⟩, a3⟩, a4⟩ := ha
  simp only [cntS] at hm
  have h0 : fullB s = false := by unfold fullB; simp; omega
  unfold inlS
  rw [if_neg (by rw [h0]; decide), if_neg a3]
  have e1 := inlS_small (call := call) body ⟨s.calls, s.vars, s.many + 1⟩ a1 (by simp only; omega) hv
  rw [e1]
  have e2 := inlS_small (call := call) els ⟨s.calls, s.vars, s.many + 1 + cntS body⟩ a2 (by simp only; omega) hv
  simp only
  rw [e2]
  have e3 := inlS_small (call := call) r ⟨s.calls, s.vars, s.many + 1 + cntS body + cntS els⟩ a4 (by simp only; omega) hv
  simp only
  rw [e3]
  simp only [exprN_no, condN_no, ofN, Option.getD_none, ite_self, cntS]
  congr 2
  omega
theorem inlF_idle (procs : List UInt8 → Option Prc) : ∀ (f : Nat) (xs : Sts) (s : Ist), anyS xs = false → fullB (inlF procs f xs noNms s).2 = false → inlF procs f xs noNms s = (xs, ⟨s.calls, s.vars, s.many + cntS xs⟩)
 | 0, xs, s, ha, hf => inlS_idle xs s ha hf
 | f + 1, xs, s, ha, hf => inlS_idle xs s ha hf
theorem inlF_small (procs : List UInt8 → Option Prc) : ∀ (f : Nat) (xs : Sts) (s : Ist), anyS xs = false → s.many + cntS xs ≤ 256 → s.vars.length ≤ 32 → inlF procs f xs noNms s = (xs, ⟨s.calls, s.vars, s.many + cntS xs⟩)
 | 0, xs, s, ha, hm, hv => inlS_small xs s ha hm hv
 | f + 1, xs, s, ha, hm, hv => inlS_small xs s ha hm hv
theorem callsR_any (R : List UInt8 → Prop) : ∀ xs, anyS xs = false → callsR R xs
 | .nil, _ => trivial
 | .cons k n _ _ body els _ r, h => by
  simp only [anyS, Bool.or_eq_false_iff, beq_eq_false_iff_ne, ne_eq] at h
  obtain ⟨⟨⟨a1, a2⟩, a3⟩, a4⟩ := h
  exact ⟨fun e => absurd e a3, callsR_any R body a1, callsR_any R els a2, callsR_any R r a4⟩
theorem putPs_un : ∀ (xs : List Prc) (kn : Kn) (x : List UInt8) (v : Int × Int), putPs xs kn x = some v → v.1 ≠ 3 → kn x = some v
 | [], _, _, _, h, _ => h
 | p :: r, kn, x, v, h, hv => by
  have h1 := putPs_un r _ x v h hv
  unfold Kn.put at h1
  by_cases e : x = p.nm.data.toList
  ·rw [if_pos e] at h1
   have := congrArg Prod.fst (Option.some.inj h1)
   exact absurd this.symm hv
  ·rw [if_neg e] at h1
   exact h1
theorem less_all {t : Tre} (h : OkT t) (ha : anyS t.main = false) : OkT ⟨t.vars, t.arrays, [], t.main⟩ := by
 have hf := fewT_iff.1 h.few
 refine ⟨?_, fewT_iff.2 ⟨hf.1, hf.2.1, Nat.zero_le _⟩, h.vars, h.arrays, h.sizes, trivial, trivial, ?_⟩
 ·have ht := h.tree
  unfold okTr at ht ⊢
  simp only [Bool.and_eq_true] at ht ⊢
  exact ⟨ht.1, rfl⟩
 ·refine okUS_to (R := fun _ => False) (fun x v hv hk => ?_) _ (callsR_any _ _ ha) h.main
  have hk2 : v.1 = 1 ∨ v.1 = 2 := by
   rcases hk with e | e | ⟨_, e⟩
   ·exact .inl e
   ·exact .inr e
   ·exact e.elim
  have h1 := putPs_un _ _ _ _ hv (by omega)
  show knT _ x = some v
  unfold knT putL at h1 ⊢
  simp only [nmP, List.map_nil, List.not_mem_nil, if_false]
  by_cases m : x ∈ nmP t.procs
  ·rw [if_pos m] at h1
   have := congrArg Prod.fst (Option.some.inj h1)
   simp only at this
   omega
  ·rw [if_neg m] at h1
   exact h1
theorem inl_idle {t : Tre} (h : OkT t) (hf : fullB (inlQ t).2 = false) (ha : anyS t.main = false) :
  (inlQ t).1 = t.main ∧ (inlQ t).2.vars = t.vars ∧ inlT ⟨t.vars, t.arrays, [], t.main⟩ = (⟨t.vars, t.arrays, [], t.main⟩, 0) := by
 have e : inlQ t = (t.main, ⟨0, t.vars, 0 + cntS t.main⟩) := inlF_idle _ _ _ _ ha hf
 have e2 : inlQ ⟨t.vars, t.arrays, [], t.main⟩ = (t.main, ⟨0, t.vars, 0 + cntS t.main⟩) := by
  rw [e] at hf
  unfold fullB at hf
  simp only [Bool.or_eq_false_iff, decide_eq_false_iff_not] at hf
  exact inlF_small _ _ _ _ ha (by simp only; omega) (by simp only; omega)
 refine ⟨by rw [e], by rw [e], ?_⟩
 have h1 := treeC_ok (less_all h ha)
 unfold inlT
 rw [e] at hf
 rw [h1, if_pos rfl, e2, hf]
 rfl
/-! ### one after another -/
theorem stsA_assoc : ∀ (a b c : Sts), Sts.app (Sts.app a b) c = Sts.app a (Sts.app b c)
 | .nil, _, _ => rfl
 | .cons _ _ _ _ _ _ _ r, b, c => by simp only [Sts.app, stsA_assoc r b c]
theorem inlS_cons {call : ByteArray → Exs → Nms → Int → Ist → Sts × Ist} {n : Nms} {s : Ist} (hf : fullB s = false) (k : Int) (nm : ByteArray) (args : Exs) (cond : Cds) (body els : Sts) (at_ : Int) (r : Sts) :
  inlS call (.cons k nm args cond body els at_ r) n s = if k = 9 then (Sts.app (call nm args n at_ s).1 (inlS call r n (call nm args n at_ s).2).1, (inlS call r n (call nm args n at_ s).2).2)
   else (.cons k (if k = 3 then nm else ofN n nm) (exprN n args) (condN n cond) (inlS call body n ⟨s.calls, s.vars, s.many + 1⟩).1 (inlS call els n (inlS call body n ⟨s.calls, s.vars, s.many + 1⟩).2).1 at_
    (inlS call r n (inlS call els n (inlS call body n ⟨s.calls, s.vars, s.many + 1⟩).2).2).1, (inlS call r n (inlS call els n (inlS call body n ⟨s.calls, s.vars, s.many + 1⟩).2).2).2) := by
 rw [inlS, hf]
 simp only [Bool.false_eq_true, if_false]
theorem inlS_app {call : ByteArray → Exs → Nms → Int → Ist → Sts × Ist} : ∀ (xs ys : Sts) (n : Nms) (s : Ist),
  inlS call (Sts.app xs ys) n s = (Sts.app (inlS call xs n s).1 (inlS call ys n (inlS call xs n s).2).1, (inlS call ys n (inlS call xs n s).2).2)
 | .nil, ys, n, s => rfl
 | .cons k nm args cond body els at_ r, ys, n, s => by
  cases hf : fullB s
  ·have e1 : inlS call (Sts.app (.cons k nm args cond body els at_ r) ys) n s = _ := inlS_cons hf k nm args cond body els at_ (Sts.app r ys)
   rw [e1, inlS_cons hf]
   by_cases h9 : k = 9
   ·simp only [if_pos h9, inlS_app r ys, stsA_assoc]
   ·simp only [if_neg h9, inlS_app r ys, Sts.app]
  ·rw [inlS_full hf, inlS_full hf, inlS_full hf]
   rfl
theorem inlF_app (procs : List UInt8 → Option Prc) : ∀ (f : Nat) (xs ys : Sts) (n : Nms) (s : Ist),
  inlF procs f (Sts.app xs ys) n s = (Sts.app (inlF procs f xs n s).1 (inlF procs f ys n (inlF procs f xs n s).2).1, (inlF procs f ys n (inlF procs f xs n s).2).2)
 | 0, xs, ys, n, s => inlS_app xs ys n s
 | f + 1, xs, ys, n, s => inlS_app xs ys n s
theorem inlF_fine {procs : List UInt8 → Option Prc} : ∀ {f : Nat} {xs : Sts} {n : Nms} {s : Ist}, fullB (inlF procs f xs n s).2 = false → fullB s = false
 | 0, _, _, _, h => inlS_fine h
 | f + 1, _, _, _, h => inlS_fine h
theorem take_app : ∀ (i : Nat) (xs : Sts), ∃ ys, xs = Sts.app (Sts.take i xs) ys
 | 0, xs => ⟨xs, rfl⟩
 | _ + 1, .nil => ⟨.nil, rfl⟩
 | i + 1, .cons k nm args cond body els at_ r => by
  obtain ⟨ys, h⟩ := take_app i r
  exact ⟨ys, by simp only [Sts.take, Sts.app, ← h]⟩
theorem take_of_app : ∀ (xs ys : Sts), Sts.take xs.len (Sts.app xs ys) = xs
 | .nil, ys => by cases ys <;> rfl
 | .cons k nm args cond body els at_ r, ys => by
  have h := take_of_app r ys
  have e : (Sts.cons k nm args cond body els at_ r).len = r.len + 1 := by simp only [Sts.len]
  rw [e]
  simp only [Sts.app, Sts.take, h]
theorem inl_parts {t : Tre} (h : OkT t) (hf : fullB (inlQ t).2 = false) (i : Nat) :
  ∃ (M : Sts) (V : List Va), inlT ⟨t.vars, t.arrays, t.procs, Sts.take i t.main⟩ = (⟨V, t.arrays, [], M⟩, 0) ∧ M.len ≤ (inlQ t).1.len ∧ Sts.take M.len (inlQ t).1 = M ∧ V.length ≤ (inlQ t).2.vars.length ∧ (inlQ t).2.vars.take V.length = V := by
 obtain ⟨ys, hy⟩ := take_app i t.main
 have hl := less_main h i
 have h1 := treeC_ok hl
 obtain ⟨q, hq⟩ : ∃ q, q = inlQ ⟨t.vars, t.arrays, t.procs, Sts.take i t.main⟩ := ⟨_, rfl⟩
 have e : inlQ t = (Sts.app q.1 (inlF (procsOf t.procs) t.procs.length ys noNms q.2).1, (inlF (procsOf t.procs) t.procs.length ys noNms q.2).2) := by
  rw [hq]
  unfold inlQ
  conv => lhs; rw [hy]
  exact inlF_app _ _ _ _ _ _
 obtain ⟨r, hr⟩ : ∃ r, r = inlF (procsOf t.procs) t.procs.length ys noNms q.2 := ⟨_, rfl⟩
 obtain ⟨_, _, news, hn, _⟩ := inlF_news (procs_ok h) t.procs.length ys noNms q.2
 rw [e] at hf ⊢
 have hf2 : fullB q.2 = false := inlF_fine hf
 refine ⟨q.1, q.2.vars, ?_, ?_, take_of_app _ _, ?_, ?_⟩
 ·unfold inlT
  rw [h1, if_pos rfl, ← hq, hf2]
  rfl
 ·rw [Sts.len_app]; omega
 ·simp only; rw [hn, List.length_append]; omega
 ·simp only; rw [hn, List.take_left]

open Go.RowKit Go.Shelf

def CnaP (b : Bool) (W : World) (e : Ending) (w' : World) : Prop := ∃ q : Int, e = .returned (.tuple #[.int .i64 q, .bool b]) ∧ W = w'
def CnaC (xs : Sts) : Prop := ∀ (W : World) (S : Nat → Prop) (Z : Prop) (A : Option Addr) (c : Nat), (∀ x, S x → x < W.heap.size) → SlR (fun b o => StR W S Z xs b o) xs.len 128 A c →
 Calls Tryz.prog 15 #[.slice A xs.len c] W (CnaP (anyS xs) W)
def CnaI (xs : Sts) : Prop := ∀ (i : Nat) (a0 : Int) (a1 : ByteArray) (a2 : Exs) (a3 : Cds) (a4 a5 : Sts) (a6 : Int) (ar : Sts), Sts.drop i xs = .cons a0 a1 a2 a3 a4 a5 a6 ar → CnaC a4 ∧ CnaC a5
theorem cna_one (xs : Sts) (hall0 : CnaI xs) : CnaC xs := by
 intro w S Z A c hS hx
 have hl : xs.len ≤ 9223372036854775807 := Nat.le_trans hx.1 hx.2.1.1
 have HA := Lib.hid hall0
 have HX := Lib.hid hx
 have HS := Lib.hid hS
 obtain ⟨m, hm⟩ : ∃ m, m = xs.len := ⟨_, rfl⟩
 rw [← hm] at hl ⊢
 have HM := Lib.hid hm
 obtain ⟨F, hF⟩ : ∃ F, F = anyS xs := ⟨_, rfl⟩
 rw [← hF]
 have HF := Lib.hid hF
 clear hall0 hx hS hm hF
 go_enter Tryz.func15, Tryz.ntmps15
 go_wp2_with fail
 go_loop [4, 5, 6] (fun n b i => ∃ (k : Nat) (q : Int) (p : Bool), k ≤ m ∧ i = .int .i64 k ∧ n = .int .i64 q ∧ b = .bool p ∧ Hid (F = (p || anyS (Sts.drop k xs)))) (fun _ _ i => m - (intOf i).toNat)
 case atStart => exact ⟨0, 0, false, Nat.zero_le _, rfl, rfl, rfl, Lib.hid (by rw [HF.out]; simp [Sts.drop])⟩
 case round =>
  obtain ⟨k, q, p, hk, rfl, rfl, rfl, hall⟩ := hrel
  by_cases hlt : k < m
  ·obtain ⟨a0, a1, a2, a3, a4, a5, a6, ar, hd⟩ := Sts.drop_cons (show k < xs.len from by rw [← HM.out]; exact hlt)
   obtain ⟨B, o, rfl, hat⟩ := HX.out.2.2 (by rw [← HM.out]; omega)
   have hat1 := hat.drop k
   rw [hd] at hat1
   obtain ⟨⟨hbS, _, r0, r1, c0, c1, c6⟩, ⟨A2, q2, c2, s2⟩, ⟨A3, q3, c3, s3⟩, ⟨A4, q4, c4, s4⟩, ⟨A5, q5, c5, s5⟩, _⟩ := hat1
   have hxr : B < w.heap.size := HS.out _ hbS
   have hlt' : (k : Int) < (m : Int) := by omega
   have hge : (0 : Int) ≤ (k : Int) := by omega
   obtain ⟨hr4, hr5⟩ := HA.out k a0 a1 a2 a3 a4 a5 a6 ar hd
   have hs2 := (cnt_step hd).2
   have hall2 := hall.out
   rw [hs2] at hall2
   have H4 := hr4 w S Z A4 q4 HS.out s4
   have H5 := hr5 w S Z A5 q5 HS.out s5
   obtain ⟨v4, hv4⟩ : ∃ v, v = anyS a4 := ⟨_, rfl⟩
   obtain ⟨v5, hv5⟩ : ∃ v, v = anyS a5 := ⟨_, rfl⟩
   obtain ⟨v9, hv9⟩ : ∃ v, v = (a0 == 9) := ⟨_, rfl⟩
   rw [← hv4, ← hv5, ← hv9] at hall2
   rw [← hv4] at H4
   rw [← hv5] at H5
   have HA2 := Lib.hid hall2
   have H4 := Lib.hid H4
   have H5 := Lib.hid H5
   have e9 := hv9.symm
   clear hd hat hall hbS s2 s3 s4 s5 r0 r1 hr4 hr5 hs2 hall2 hv4 hv5 hv9 c1 c2 c3 c6
   go_wp2_with fail
   refine H4.out.mono ?_
   rintro _ _ ⟨n4, rfl, rfl⟩
   go_wp2_with fail
   refine H5.out.mono ?_
   rintro _ _ ⟨n5, rfl, rfl⟩
   have HAll := Lib.hid (show F = ((p || v4 || v5 || v9) || anyS (Sts.drop (k + 1) xs)) from by rw [HA2.out]; simp [Bool.or_assoc])
   clear HA2
   cases p <;> cases v4 <;> cases v5 <;> cases v9
   all_goals
    go_wp2_with fail
    go_round
    case rel => exact ⟨k + 1, _, _, by omega, by go_num, rfl, rfl, HAll.out⟩
    case measure => simp [intOf]; omega
  ·have hlt' : ¬ (k : Int) < (m : Int) := by omega
   have hall2 := hall.out
   rw [Sts.drop_nil (by rw [← HM.out]; omega)] at hall2
   have e2 := Lib.hid (show F = p from by rw [hall2]; simp [anyS])
   clear hall hall2
   go_wp2_with fail
   go_ret2
   exact ⟨_, by rw [e2.out]; rfl, rfl⟩
theorem cna_all : ∀ xs : Sts, CnaI xs
 | .nil => fun i _ _ _ _ _ _ _ _ hd => by cases i <;> simp [Sts.drop] at hd
 | .cons k0 k1 k2 k3 k4 k5 k6 kr => fun i _ _ _ _ _ _ _ _ hd => by
  cases i with
  | zero =>
   simp only [Sts.drop] at hd
   injection hd with e0 e1 e2 e3 e4 e5 e6 e7
   subst e0 e1 e2 e3 e4 e5 e6 e7
   exact ⟨cna_one k4 (cna_all k4), cna_one k5 (cna_all k5)⟩
  | succ i =>
   simp only [Sts.drop] at hd
   exact cna_all kr i _ _ _ _ _ _ _ _ hd
theorem counted_bool (xs : Sts) : CnaC xs := cna_one xs (cna_all xs)

theorem inlT_two (t : Tre) : (∃ e, e ≠ 0 ∧ inlT t = (noTre, e)) ∨ (OkT t ∧ fullB (inlQ t).2 = false ∧ inlT t = (⟨(inlQ t).2.vars, t.arrays, [], (inlQ t).1⟩, 0)) := by
 unfold inlT
 by_cases h : (treeC t).2 = 0
 ·rw [if_pos h]
  cases hf : fullB (inlQ t).2
  ·exact .inr ⟨treeC_no h, rfl, rfl⟩
  ·exact .inl ⟨9, by decide, rfl⟩
 ·rw [if_neg h]
  exact .inl ⟨_, h, rfl⟩
theorem iidle_else (t : Tre) (w : World) (S : Nat → Prop) (Z : Prop) (Av Aa Ap Am : Option Addr) (cv ca cp cm : Nat) (he : NameEnv w) (hS : ∀ b, S b → b < w.heap.size) (hsz : SzT t) (hx : TrR w S Z t Av Aa Ap Am cv ca cp cm) (hne : (inlT t).2 ≠ 0 ∨ anyS t.main = true) :
  Calls Tryz.prog 6 #[trV t Av Aa Ap Am cv ca cp cm] w (TruePost w) := by
 have hsw : ∀ W, Fr NoT w W → ∀ b, S b → b < W.heap.size := fun W h b hb => Nat.lt_of_lt_of_le (hS b hb) h.size
 have hxw : ∀ W, Fr NoT w W → TrR W S Z t Av Aa Ap Am cv ca cp cm := fun W h => hx.keep (h.same fun b hb => ⟨hS b hb, id⟩)
 have H1 := Lib.hid (fun W (h : Fr NoT w W) => ialive_any W (he.keep h.plain))
 have H2 := Lib.hid (fun W (h : Fr NoT w W) => tgreat_any t W S Z Av Aa Ap Am cv ca cp cm (hsw W h) (hxw W h))
 have h3 := fun W (h : Fr NoT w W) => inl_any t W S Z Av Aa Ap Am cv ca cp cm (he.keep h.plain).toSp (he.keep h.plain).lex.tab (hsw W h) hsz (hxw W h)
 have h4 := fun W (h : Fr NoT w W) => counted_bool t.main W S Z Am cm (hsw W h) (hxw W h).main
 obtain ⟨⟨u, e⟩, hu⟩ : ∃ u, u = inlT t := ⟨_, rfl⟩
 rw [← hu] at h3 hne
 obtain ⟨q, hq⟩ : ∃ q, q = anyS t.main := ⟨_, rfl⟩
 rw [← hq] at h4 hne
 have h3 : ∀ W, Fr NoT w W → Calls Tryz.prog 14 #[trV t Av Aa Ap Am cv ca cp cm] W (fun f w' => ∃ (A1 A2 A3 A4 : Option Addr) (l1 l2 l3 l4 c1 c2 c3 c4 : Nat), f = .returned (.tuple #[.agg #[.slice A1 l1 c1, .slice A2 l2 c2, .slice A3 l3 c3, .slice A4 l4 c4], .int .i64 e]) ∧ Fr NoT W w') :=
  fun W h => (h3 W h).mono fun f w' ⟨A1, A2, A3, A4, c1, c2, c3, c4, e1, _, e3⟩ => ⟨A1, A2, A3, A4, _, _, _, _, c1, c2, c3, c4, e1, e3⟩
 have e1 : (e != 0) = true ∨ ((e != 0) = false ∧ q = true) := by
  by_cases hz : e = 0
  ·exact .inr ⟨by simpa using hz, hne.resolve_left (fun h => h hz)⟩
  ·exact .inl (by simpa using hz)
 have H3 := Lib.hid h3
 obtain ⟨n4, hn4⟩ : ∃ n, n = t.main.len := ⟨_, rfl⟩
 rw [← hn4] at h4
 have H4 := Lib.hid h4
 unfold trV at H2 H3 ⊢
 rw [← hn4] at H2 H3 ⊢
 have hf1 : Fr NoT w (w.alloc (.cells #[.slice Av t.vars.length cv, .slice Aa t.arrays.length ca, .slice Ap t.procs.length cp, .slice Am n4 cm] 27)) := (Fr.refl _ _).alloc _
 have HF1 := Lib.hid hf1
 have HK1 := Lib.hid (Bk.new w 27 #[.slice Av t.vars.length cv, .slice Aa t.arrays.length ca, .slice Ap t.procs.length cp, .slice Am n4 cm])
 clear hsw hxw h3 h4 hne hf1 hx hsz hS he hu hq hn4
 go_enter Tryz.func6, Tryz.ntmps6
 go_wp2_with fail
 refine (H1.out _ HF1.out).mono ?_
 rintro _ w1 ⟨rfl, hb1⟩
 have hk1 := HK1.out.fr0 (Fr.below hb1)
 obtain ⟨x0, x1, x2, x3, hl1⟩ := bk4 hk1
 have HF2 := Lib.hid (HF1.out.trans (Fr.below hb1))
 have HK2 := Lib.hid hk1
 clear hb1 hk1 H1
 go_wp2_with fail
 refine (H2.out _ HF2.out).mono ?_
 rintro _ w2 ⟨g, rfl, hf2⟩
 have HF3 := Lib.hid (HF2.out.trans hf2)
 have hk2 := HK2.out.fr0 hf2
 clear x0 x1 x2 x3 hl1
 obtain ⟨x0, x1, x2, x3, hl1⟩ := bk4 hk2
 have HK3 := Lib.hid hk2
 clear hf2 hk2 H2
 cases g
 rotate_left
 ·go_wp2_with fail
  go_ret
  exact ⟨rfl, HF3.out.plain⟩
 go_wp2_with fail
 refine (H3.out _ HF3.out).mono ?_
 rintro _ w3 ⟨A1, A2, A3, A4, l1, l2, l3, l4, c1, c2, c3, c4, rfl, hf3⟩
 have hf4 : Fr NoT w2 (w3.alloc (.cells #[.slice A1 l1 c1, .slice A2 l2 c2, .slice A3 l3 c3, .slice A4 l4 c4] 27)) := hf3.alloc _
 have HF4 := Lib.hid (HF3.out.trans hf4)
 have hk4 := HK3.out.fr0 hf4
 clear x0 x1 x2 x3 hl1
 obtain ⟨x0, x1, x2, x3, hl1⟩ := bk4 hk4
 clear hf3 hf4 hk4
 go_wp2_with fail
 refine (H4.out _ HF4.out).mono ?_
 rintro _ _ ⟨n5, rfl, rfl⟩
 rcases e1 with e1 | ⟨e1, rfl⟩
 ·go_wp2_with fail
  go_ret
  exact ⟨rfl, HF4.out.plain⟩
 ·go_wp2_with fail
  go_ret
  exact ⟨rfl, HF4.out.plain⟩
theorem iidle_right (t : Tre) (w : World) (S : Nat → Prop) (Z : Prop) (Av Aa Ap Am : Option Addr) (cv ca cp cm : Nat) (he : NameEnv w) (hS : ∀ b, S b → b < w.heap.size) (hsz : SzT t) (hx : TrR w S Z t Av Aa Ap Am cv ca cp cm) (hq : inlT t = (⟨t.vars, t.arrays, [], t.main⟩, 0)) (hq2 : inlT ⟨t.vars, t.arrays, [], t.main⟩ = (⟨t.vars, t.arrays, [], t.main⟩, 0)) (ha : anyS t.main = false) :
  Calls Tryz.prog 6 #[trV t Av Aa Ap Am cv ca cp cm] w (TruePost w) := by
 have hsw : ∀ W, Fr NoT w W → ∀ b, S b → b < W.heap.size := fun W h b hb => Nat.lt_of_lt_of_le (hS b hb) h.size
 have hxw : ∀ W, Fr NoT w W → TrR W S Z t Av Aa Ap Am cv ca cp cm := fun W h => hx.keep (h.same fun b hb => ⟨hS b hb, id⟩)
 have hsz2 : SzT ⟨t.vars, t.arrays, [], t.main⟩ := ⟨hsz.vars, hsz.arrays, fun x hx => (by simp at hx), hsz.main⟩
 have H1 := Lib.hid (fun W (h : Fr NoT w W) => ialive_any W (he.keep h.plain))
 have H2 := Lib.hid (fun W (h : Fr NoT w W) => tgreat_any t W S Z Av Aa Ap Am cv ca cp cm (hsw W h) (hxw W h))
 have h3 := fun W (h : Fr NoT w W) => inl_any t W S Z Av Aa Ap Am cv ca cp cm (he.keep h.plain).toSp (he.keep h.plain).lex.tab (hsw W h) hsz (hxw W h)
 have h4 := fun W (h : Fr NoT w W) => counted_bool t.main W S Z Am cm (hsw W h) (hxw W h).main
 rw [hq] at h3
 rw [ha] at h4
 obtain ⟨u, hu⟩ : ∃ u, u = (⟨t.vars, t.arrays, [], t.main⟩ : Tre) := ⟨_, rfl⟩
 have h5 := fun W (S' : Nat → Prop) (Bv Ba Bp Bm : Option Addr) (dv da dp dm : Nat) (h : Fr NoT w W) (h1 : ∀ b, S' b → b < W.heap.size) (h2 : TrR W S' False u Bv Ba Bp Bm dv da dp dm) => inl_any u W S' False Bv Ba Bp Bm dv da dp dm (he.keep h.plain).toSp (he.keep h.plain).lex.tab h1 (hu ▸ hsz2) h2
 rw [← hu] at hq2
 rw [hq2] at h5
 have h6 := fun W (S' S2 : Nat → Prop) (Z1 Z2 : Prop) (Bv Ba Bp Bm : Option Addr) (dv da dp dm : Nat) (Cv Ca Cp Cm : Option Addr) (ev ea ep em : Nat) (h1 : ∀ b, S' b → b < W.heap.size) (h2 : ∀ b, S2 b → b < W.heap.size) (h3 : TrR W S' Z1 u Bv Ba Bp Bm dv da dp dm) (h4 : TrR W S2 Z2 u Cv Ca Cp Cm ev ea ep em) => psame_any u u W S' S2 Z1 Z2 Bv Ba Bp Bm Cv Ca Cp Cm dv da dp dm ev ea ep em h1 h2 h3 h4
 simp only [eqT_refl] at h6
 have h7 : ∀ W, Fr NoT w W → TrR W S Z u Av Aa none Am cv ca 0 cm := fun W h => hu ▸ ⟨(hxw W h).vars, (hxw W h).arrays, slr0, (hxw W h).main⟩
 rw [← hu] at h3
 obtain ⟨n1, hn1⟩ : ∃ n, n = t.vars.length := ⟨_, rfl⟩
 obtain ⟨n2, hn2⟩ : ∃ n, n = t.arrays.length := ⟨_, rfl⟩
 obtain ⟨n3, hn3⟩ : ∃ n, n = t.procs.length := ⟨_, rfl⟩
 obtain ⟨n4, hn4⟩ : ∃ n, n = t.main.len := ⟨_, rfl⟩
 have g1 : u.vars.length = n1 := by rw [hu, hn1]
 have g2 : u.arrays.length = n2 := by rw [hu, hn2]
 have g3 : u.procs.length = 0 := by rw [hu]; rfl
 have g4 : u.main.len = n4 := by rw [hu, hn4]
 unfold InlP trV at h3 h5
 unfold trV at h6 H2 ⊢
 simp only [g1, g2, g3, g4, ← hn1, ← hn2, ← hn3, ← hn4] at h3 h4 h5 h6 H2 ⊢
 have H3 := Lib.hid h3
 have H4 := Lib.hid h4
 have H5 := Lib.hid h5
 have H6 := Lib.hid h6
 have H7 := Lib.hid h7
 have HSW := Lib.hid hsw
 have hf1 : Fr NoT w (w.alloc (.cells #[.slice Av n1 cv, .slice Aa n2 ca, .slice Ap n3 cp, .slice Am n4 cm] 27)) := (Fr.refl _ _).alloc _
 have HF1 := Lib.hid hf1
 have HK1 := Lib.hid (Bk.new w 27 #[.slice Av n1 cv, .slice Aa n2 ca, .slice Ap n3 cp, .slice Am n4 cm])
 clear hsw hxw h3 h4 h5 h6 h7 hf1 hx hsz hsz2 hS he hu hq hq2 ha hn1 hn2 hn3 hn4 g1 g2 g3 g4
 go_enter Tryz.func6, Tryz.ntmps6
 go_wp2_with fail
 refine (H1.out _ HF1.out).mono ?_
 rintro _ w1 ⟨rfl, hb1⟩
 have hk1 := HK1.out.fr0 (Fr.below hb1)
 obtain ⟨x0, x1, x2, x3, hl1⟩ := bk4 hk1
 have HF2 := Lib.hid (HF1.out.trans (Fr.below hb1))
 have HK2 := Lib.hid hk1
 clear hb1 hk1 H1
 go_wp2_with fail
 refine (H2.out _ HF2.out).mono ?_
 rintro _ w2 ⟨g, rfl, hf2⟩
 have HF3 := Lib.hid (HF2.out.trans hf2)
 have hk2 := HK2.out.fr0 hf2
 clear x0 x1 x2 x3 hl1
 obtain ⟨x0, x1, x2, x3, hl1⟩ := bk4 hk2
 have HK3 := Lib.hid hk2
 clear hf2 hk2 H2
 cases g
 rotate_left
 ·go_wp2_with fail
  go_ret
  exact ⟨rfl, HF3.out.plain⟩
 go_wp2_with fail
 refine (H3.out _ HF3.out).mono ?_
 rintro _ w3 ⟨Bv, Ba, Bp, Bm, dv, da, dp, dm, rfl, hT, hf3⟩
 obtain ⟨w4, hw4⟩ : ∃ y, y = w3.alloc (.cells #[.slice Bv n1 dv, .slice Ba n2 da, .slice Bp 0 dp, .slice Bm n4 dm] 27) := ⟨_, rfl⟩
 have hf34 : Fr NoT w3 w4 := by rw [hw4]; exact (Fr.refl _ _).alloc _
 have hko : Bk w4 w3.heap.size 27 #[.slice Bv n1 dv, .slice Ba n2 da, .slice Bp 0 dp, .slice Bm n4 dm] := by rw [hw4]; exact Bk.new _ _ _
 have hos : ∀ W, Fr NoT w4 W → ∀ b, New w2.heap.size w3 b → b < W.heap.size := fun W h b hb => Nat.lt_of_lt_of_le hb.2 (Nat.le_trans hf34.size h.size)
 have hto : ∀ W, Fr NoT w4 W → TrR W (New w2.heap.size w3) False u Bv Ba Bp Bm dv da dp dm := fun W h => hT.keep ((hf34.trans h).same fun b hb => ⟨hb.2, id⟩)
 have HOW := Lib.hid hto
 have HOS := Lib.hid hos
 have HF4 := Lib.hid ((HF3.out.trans hf3).trans hf34)
 have hk4 := (HK3.out.fr0 hf3).fr0 hf34
 have HK4 := Lib.hid hk4
 have HKO := Lib.hid hko
 have HW4 := Lib.hid hw4
 clear x0 x1 x2 x3 hl1 hf3 hT hf34 hos hto hw4 H3 hk4 hko
 have hk4e := HK4.out
 rw [HW4.out] at hk4e
 obtain ⟨x0, x1, x2, x3, hl1⟩ := bk4 hk4e
 clear hk4e
 go_wp2_with fail
 rw [← HW4.out]
 refine (H4.out _ HF4.out).mono ?_
 rintro _ _ ⟨n5, rfl, rfl⟩
 clear x0 x1 x2 x3 hl1
 obtain ⟨x0, x1, x2, x3, hl1⟩ := bk4 HK4.out
 obtain ⟨y0, y1, y2, y3, hl2⟩ := bk4 HKO.out
 go_wp2_with fail
 obtain ⟨w5, hw5⟩ : ∃ y, y = w4.alloc (.cells #[.slice Av n1 cv, .slice Aa n2 ca, .slice none 0 0, .slice Am n4 cm] 27) := ⟨_, rfl⟩
 rw [← hw5]
 have hf45 : Fr NoT w4 w5 := by rw [hw5]; exact (Fr.refl _ _).alloc _
 have hky : Bk w5 w4.heap.size 27 #[.slice Av n1 cv, .slice Aa n2 ca, .slice none 0 0, .slice Am n4 cm] := by rw [hw5]; exact Bk.new _ _ _
 refine (H5.out w5 (New w2.heap.size w3) Bv Ba Bp Bm dv da dp dm (HF4.out.trans hf45) (HOS.out _ hf45) (HOW.out _ hf45)).mono ?_
 rintro _ w6 ⟨Cv, Ca, Cp, Cm, ev, ea, ep, em, rfl, hT, hf56⟩
 obtain ⟨w7, hw7⟩ : ∃ y, y = w6.alloc (.cells #[.slice Cv n1 ev, .slice Ca n2 ea, .slice Cp 0 ep, .slice Cm n4 em] 27) := ⟨_, rfl⟩
 have hf67 : Fr NoT w6 w7 := by rw [hw7]; exact (Fr.refl _ _).alloc _
 have hkz : Bk w7 w6.heap.size 27 #[.slice Cv n1 ev, .slice Ca n2 ea, .slice Cp 0 ep, .slice Cm n4 em] := by rw [hw7]; exact Bk.new _ _ _
 have hf47 := (hf45.trans hf56).trans hf67
 have hzs : ∀ W, Fr NoT w7 W → ∀ b, New w5.heap.size w6 b → b < W.heap.size := fun W h b hb => Nat.lt_of_lt_of_le hb.2 (Nat.le_trans hf67.size h.size)
 have hzt : ∀ W, Fr NoT w7 W → TrR W (New w5.heap.size w6) False u Cv Ca Cp Cm ev ea ep em := fun W h => hT.keep ((hf67.trans h).same fun b hb => ⟨hb.2, id⟩)
 have HF7 := Lib.hid (HF4.out.trans hf47)
 have HF47 := Lib.hid hf47
 have HZS := Lib.hid hzs
 have HZT := Lib.hid hzt
 have HK7 := Lib.hid (HKO.out.fr0 hf47)
 have HY7 := Lib.hid ((hky.fr0 hf56).fr0 hf67)
 have HZ7 := Lib.hid hkz
 have HW7 := Lib.hid hw7
 have hc1 := H6.out w7 (New w2.heap.size w3) S False Z Bv Ba Bp Bm dv da dp dm Av Aa none Am cv ca 0 cm (HOS.out _ hf47) (HSW.out _ HF7.out) (HOW.out _ hf47) (H7.out _ HF7.out)
 have HC1 := Lib.hid hc1
 have hk4e := HK7.out
 rw [HW7.out] at hk4e
 have hk5e := HY7.out
 rw [HW7.out] at hk5e
 clear x0 x1 x2 x3 hl1 y0 y1 y2 y3 hl2 hf45 hky hT hf56 hf67 hkz hf47 hzs hzt hw5 hw7 hc1
 obtain ⟨x0, x1, x2, x3, hl1⟩ := bk4 hk4e
 obtain ⟨y0, y1, y2, y3, hl2⟩ := bk4 hk5e
 clear hk4e hk5e
 go_wp2_with fail
 rw [← HW7.out]
 refine HC1.out.mono ?_
 rintro _ w8 ⟨rfl, hf8⟩
 have HF8 := Lib.hid (HF7.out.trans hf8)
 clear x0 x1 x2 x3 hl1 y0 y1 y2 y3 hl2
 obtain ⟨x0, x1, x2, x3, hl1⟩ := bk4 (HK7.out.fr0 hf8)
 obtain ⟨y0, y1, y2, y3, hl2⟩ := bk4 (HZ7.out.fr0 hf8)
 have HC2 := Lib.hid (H6.out w8 (New w5.heap.size w6) (New w2.heap.size w3) False False Cv Ca Cp Cm ev ea ep em Bv Ba Bp Bm dv da dp dm (HZS.out _ hf8) (HOS.out _ (HF47.out.trans hf8)) (HZT.out _ hf8) (HOW.out _ (HF47.out.trans hf8)))
 clear hf8
 go_wp2_with fail
 refine HC2.out.mono ?_
 rintro _ w9 ⟨rfl, hf9⟩
 have HF9 := Lib.hid (HF8.out.trans hf9)
 clear hf9
 go_wp2_with fail
 go_ret
 exact ⟨rfl, HF9.out.plain⟩
theorem iidle_any (t : Tre) (w : World) (S : Nat → Prop) (Z : Prop) (Av Aa Ap Am : Option Addr) (cv ca cp cm : Nat) (he : NameEnv w) (hS : ∀ b, S b → b < w.heap.size) (hsz : SzT t) (hx : TrR w S Z t Av Aa Ap Am cv ca cp cm) :
  Calls Tryz.prog 6 #[trV t Av Aa Ap Am cv ca cp cm] w (TruePost w) := by
 rcases inlT_two t with ⟨e, hne, h⟩ | ⟨h1, h2, h3⟩
 ·exact iidle_else t w S Z Av Aa Ap Am cv ca cp cm he hS hsz hx (.inl (by rw [h]; exact hne))
 ·cases ha : anyS t.main
  ·obtain ⟨e1, e2, e3⟩ := inl_idle h1 h2 ha
   rw [e1, e2] at h3
   exact iidle_right t w S Z Av Aa Ap Am cv ca cp cm he hS hsz hx h3 e3 ha
  ·exact iidle_else t w S Z Av Aa Ap Am cv ca cp cm he hS hsz hx (.inr ha)
end Go.Proofs.YtfcegaklbicmfaaGreatDoor
