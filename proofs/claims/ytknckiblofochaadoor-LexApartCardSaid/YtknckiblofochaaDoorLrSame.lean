/-
  ref08.Same: are two lists of tokens alike? (under way)
-/
import Derived.Test.YtknckiblofochaaDoorLrName
import Derived.Laws.StructEq
namespace Go.Proofs.YtknckiblofochaaDoor
open Go.RowKit Go.Shelf
set_option linter.unusedVariables false
set_option linter.unusedSimpArgs false

theorem tkC_get (l : List Tk) : ∀ k (t : Tk), l[k]? = some t → ∀ j, j < 3 → (l.flatMap tkC)[k * 3 + j]? = (tkC t)[j]? := by
  induction l with
  | nil => intro k t h; simp at h
  | cons a r ih =>
    intro k t h j hj
    rw [List.flatMap_cons]
    have hl : (tkC a).length = 3 := rfl
    cases k with
    | zero =>
      simp at h; subst h
      rw [Nat.zero_mul, Nat.zero_add, List.getElem?_append_left (by rw [hl]; exact hj)]
    | succ k =>
      simp at h
      rw [List.getElem?_append_right (by rw [hl]; omega), hl, show (k + 1) * 3 + j - 3 = k * 3 + j by omega]
      exact ih k t h j hj
/-- a token of an owned row -/
theorem tk_cells {w : World} {base : Nat} {v : Value} {l : List Tk} (h : w.ownsRow base 28 3 v l.length (l.flatMap tkC)) {k : Nat} {t : Tk} (hk : l[k]? = some t) :
    ∃ g cap, v = .slice (some ⟨g, 0, none⟩) l.length cap ∧ base ≤ g ∧ ∀ j, j < 3 → w.cell? ⟨g, k * 3 + j, none⟩ = (tkC t)[j]? := by
  have hkl : k < l.length := by
    rcases Nat.lt_or_ge k l.length with h | h
    · exact h
    · rw [List.getElem?_eq_none h] at hk; simp at hk
  obtain ⟨_, ⟨_, h0⟩ | ⟨g, cap, cur, hv, hb, hg, _, _, _, hc⟩⟩ := h
  · omega
  · refine ⟨g, cap, hv, hb, fun j hj => ?_⟩
    have h1 := tkC_get l k t hk j hj
    rw [← hc, List.getElem?_take_of_lt (by omega)] at h1
    rw [← h1]
    simp [World.cell?, hg]
theorem row_form {w : World} {base : Nat} {v : Value} {n : Nat} {xs : List Value} (h : w.ownsRow base 28 3 v n xs) : ∃ p cap, v = .slice p n cap := by
  obtain ⟨_, ⟨h1, h0⟩ | ⟨g, cap, cur, hv, _⟩⟩ := h
  · exact ⟨none, 0, by rw [h1, h0]⟩
  · exact ⟨_, cap, hv⟩
theorem tk_ext {a b : Tk} (h1 : a.kind = b.kind) (h2 : a.text = b.text) (h3 : (a.at_ : Int) = b.at_) : a = b := by
  have h4 : a.at_ = b.at_ := by omega
  cases a; cases b; cases h1; cases h2; cases h4; rfl
@[go_sem] theorem eqTk (k k' : Int) (s s' : ByteArray) (a a' : Int) (w : World) : (Op.equalIn 10000 28 (.agg #[.int .u8 k, .string s, .int .i64 a]) (.agg #[.int .u8 k', .string s', .int .i64 a'])).run Tryd.prog w = .ok (k == k' && s.toList == s'.toList && a == a') w := by
  have u3 := Tryd.underlying3
  have u9 := Tryd.underlying9
  have u5 := Tryd.underlying5
  have a3 := Tryd.isAgg3
  have z3 := Tryd.sizeOf3
  have a9 := Tryd.isAgg9
  have z9 := Tryd.sizeOf9
  have a5 := Tryd.isAgg5
  have z5 := Tryd.sizeOf5
  have hS : Tryd.prog.underlying 28 = some (.struct (Tryd.prog.fieldsOf 28)) := by kernel_rfl
  have hp : Tryd.prog.stoodInHeld 28 = false := by kernel_rfl
  rw [show (10000 : Nat) = 9999 + 1 from rfl, run_equalIn_agg w 9999 28 _ _ hS hp]
  simp only [Program.fieldsOf, Tryd.underlying28]
  go_simp
  by_cases h1 : k = k' <;> by_cases h2 : s.toList = s'.toList <;> by_cases h3 : a = a' <;> simp [h1, h2, h3]
@[go_sem] theorem guardTk : Tryd.prog.eqGuardType Tryd.prog.depth 28 = false := by kernel_rfl
theorem rsame_any (x y : List Tk) (v v' : Value) (w : World) (base base' : Nat) (hx : w.ownsRow base 28 3 v x.length (x.flatMap tkC)) (hy : w.ownsRow base' 28 3 v' y.length (y.flatMap tkC)) (hn : x.length ≤ 4096) (hm : y.length ≤ 4096) :
    Calls Tryd.prog 13 #[v, v'] w fun e w' => e = .returned (.bool (x == y)) ∧ ∃ q, w' = w.drewN q := by
  obtain ⟨p, cap, rfl⟩ := row_form hx
  obtain ⟨p', cap', rfl⟩ := row_form hy
  obtain ⟨n, hnn⟩ : ∃ n, n = x.length := ⟨_, rfl⟩
  obtain ⟨m, hmm⟩ : ∃ n, n = y.length := ⟨_, rfl⟩
  have HX := Lib.hid hx
  have HY := Lib.hid hy
  rw [← hnn, ← hmm]
  have HN := Lib.hid hnn
  have HM := Lib.hid hmm
  rw [← hnn] at hn
  rw [← hmm] at hm
  clear hx hy hnn hmm
  by_cases he : n = m
  · subst he
    go_enter Tryd.func13, Tryd.ntmps13
    go_wp2
    go_loopw [5] (fun i wr => ∃ k : Nat, k ≤ n ∧ i = .int .i64 k ∧ Hid (∃ q, wr = w.drewN q) ∧ Hid ((x == y) = (x.drop k == y.drop k))) (fun i _ => n - (intOf i).toNat)
    case atStart => exact ⟨0, Nat.zero_le _, rfl, ⟨0, rfl⟩, rfl⟩
    case round =>
      obtain ⟨k, hk, rfl, hq, hall⟩ := hrel
      by_cases hlt : k < n
      · obtain ⟨a, ha⟩ : ∃ a, x[k]? = some a := ⟨_, List.getElem?_eq_getElem (by rw [← HN.out]; exact hlt)⟩
        obtain ⟨b, hb⟩ : ∃ b, y[k]? = some b := ⟨_, List.getElem?_eq_getElem (by rw [← HM.out]; exact hlt)⟩
        obtain ⟨g, c1, e1, _, hc⟩ := tk_cells HX.out ha
        obtain ⟨g', c2, e2, _, hd⟩ := tk_cells HY.out hb
        simp only [Value.slice.injEq] at e1 e2
        obtain ⟨rfl, _, _⟩ := e1
        obtain ⟨rfl, _, _⟩ := e2
        have hw : ∀ a : Addr, wr.cell? a = w.cell? a := by obtain ⟨q, hq⟩ := hq.out; intro a; rw [hq]; rfl
        have x0 := (hw _).trans (hc 0 (by omega))
        have x1 := (hw _).trans (hc 1 (by omega))
        have x2 := (hw _).trans (hc 2 (by omega))
        have y0 := (hw _).trans (hd 0 (by omega))
        have y1 := (hw _).trans (hd 1 (by omega))
        have y2 := (hw _).trans (hd 2 (by omega))
        simp only [tkC, List.getElem?_cons_zero, List.getElem?_cons_succ, Nat.add_zero] at x0 x1 x2 y0 y1 y2
        have hlt' : ((k : Nat) : Int) < (n : Int) := by omega
        have hge : (0 : Int) ≤ ((k : Nat) : Int) := by omega
        have hm := guardTk
        clear hc hd hw
        go_wp2_with fail
        have hd : (x.drop k == y.drop k) = (a == b && (x.drop (k + 1) == y.drop (k + 1))) := by
          rw [List.drop_eq_getElem_cons (by rw [← HN.out]; exact hlt), List.drop_eq_getElem_cons (l := y) (by rw [← HM.out]; exact hlt)]
          rw [List.getElem?_eq_getElem (by rw [← HN.out]; exact hlt)] at ha
          rw [List.getElem?_eq_getElem (by rw [← HM.out]; exact hlt)] at hb
          rw [Option.some.inj ha, Option.some.inj hb]
          rfl
        rw [hd] at hall
        clear hd
        by_cases hab : a = b
        · subst hab
          have HF := Lib.hid (show (x == y) = (x.drop (k + 1) == y.drop (k + 1)) from by rw [hall.out]; simp)
          clear hall ha hb
          go_quiet (fail)
          go_wp2_with fail
          go_roundw
          case rel => exact ⟨k + 1, by omega, by go_num, by obtain ⟨q, hq⟩ := hq.out; exact ⟨_, by rw [hq, World.drewN_drewN]⟩, HF⟩
          case measure => simp [intOf]; omega
        · have HF := Lib.hid (show (x == y) = false from by rw [hall.out]; simp [hab])
          clear hall ha hb
          by_cases h1 : a.kind = b.kind
          · by_cases h2 : a.text = b.text
            · have h3 : ¬ (a.at_ : Int) = b.at_ := fun h => hab (tk_ext h1 h2 h)
              go_quiet (fail)
              go_wp2_with fail
              go_ret
              obtain ⟨q, hq⟩ := hq.out
              exact ⟨by rw [HF.out]; rfl, _, by rw [hq, World.drewN_drewN]⟩
            · go_quiet (fail)
              go_wp2_with fail
              go_ret
              obtain ⟨q, hq⟩ := hq.out
              exact ⟨by rw [HF.out]; rfl, _, by rw [hq, World.drewN_drewN]⟩
          · go_quiet (fail)
            go_wp2_with fail
            go_ret
            obtain ⟨q, hq⟩ := hq.out
            exact ⟨by rw [HF.out]; rfl, _, by rw [hq, World.drewN_drewN]⟩
      · have HF := Lib.hid (show (x == y) = true from by rw [hall.out, List.drop_eq_nil_of_le (by rw [← HN.out]; omega), List.drop_eq_nil_of_le (by rw [← HM.out]; omega)]; rfl)
        have hge : ((k : Nat) : Int) = n := by omega
        go_wp2_with fail
        go_ret
        obtain ⟨q, hq⟩ := hq.out
        exact ⟨by rw [HF.out]; rfl, q, hq⟩
  · have HF := Lib.hid (show (x == y) = false from by
      rw [Bool.eq_false_iff]
      intro h
      rw [beq_iff_eq] at h
      exact he (by rw [HN.out, HM.out, h]))
    have hne : ((n : Int) != m) = true := by simp; omega
    go_enter Tryd.func13, Tryd.ntmps13
    go_wp2
    go_ret
    exact ⟨by rw [HF.out]; rfl, 0, rfl⟩
end Go.Proofs.YtknckiblofochaaDoor
