/-
  ref11: upTo.
-/
import Derived.Test.YteabedhnpnapgaaGreatDoorJnRtW
import Derived.StillTailTactics
namespace Go.Proofs.YteabedhnpnapgaaGreatDoor
open Go.RowKit Go.Shelf
set_option linter.unusedVariables false
set_option linter.unusedSimpArgs false

/-- what is declared, with just the first ones of its procedures -/
def upI (lim : Int) : Wl → Nat → Wl
  | [], _ => []
  | x :: r, i => if x.2.1 ≠ 3 ∨ (i : Int) < lim then x :: upI lim r (i + 1) else upI lim r (i + 1)
theorem upI_cons (lim : Int) (x : ByteArray × Int × Int) (r : Wl) (i : Nat) : upI lim (x :: r) i = if x.2.1 ≠ 3 ∨ (i : Int) < lim then x :: upI lim r (i + 1) else upI lim r (i + 1) := rfl
def UpP (ws : Wl) (W : World) (e : Ending) (w' : World) : Prop := ∃ An Ak Am cn ck cm, e = .returned (wdV ws An Ak Am cn ck cm) ∧ WdR w' ws An Ak Am cn ck cm ∧ Fr NoT W w'
theorem RwR.keepA {w w' : World} {T : Nat → Prop} {xs : List Value} {A : Option Addr} {c : Nat} (h : RwR w xs A c) (hf : Fr T w w') (hg : ∀ b, A = some ⟨b, 0, none⟩ → ¬ T b) : RwR w' xs A c :=
  ⟨h.1, h.2.1, fun h0 => by
    obtain ⟨b, e, hb, hc⟩ := h.2.2 h0
    exact ⟨b, e, Nat.lt_of_lt_of_le hb hf.size, fun i u hi => (hf.cell (p := ⟨b, i, none⟩) hb (hg b e)).trans (hc i u hi)⟩⟩
/-- rows that lie above a block -/
def Above (B : Nat) (A1 A2 A3 : Option Addr) : Prop := (∀ b, A1 = some ⟨b, 0, none⟩ → B < b) ∧ (∀ b, A2 = some ⟨b, 0, none⟩ → B < b) ∧ (∀ b, A3 = some ⟨b, 0, none⟩ → B < b)
theorem WdR.keepA {w w' : World} {T : Nat → Prop} {B : Nat} {ws : Wl} {An Ak Am : Option Addr} {cn ck cm : Nat} (h : WdR w ws An Ak Am cn ck cm) (ha : Above B An Ak Am) (hf : Fr T w w') (ht : ∀ b, T b → b ≤ B) : WdR w' ws An Ak Am cn ck cm :=
  ⟨h.names.keepA hf fun b e hT => by have := ha.1 b e; have := ht b hT; omega, h.kinds.keepA hf fun b e hT => by have := ha.2.1 b e; have := ht b hT; omega, h.many.keepA hf fun b e hT => by have := ha.2.2 b e; have := ht b hT; omega⟩
/-- the list under way -/
structure UpW (w1 : World) (b7 : Nat) (lim : Int) (ws : Wl) (k : Nat) (wr : World) : Prop where
  fr : Fr (fun b => b = b7) w1 wr
  out : ∃ acc A1 A2 A3 c1 c2 c3, Bk wr b7 63 #[.slice A1 (List.length acc) c1, .slice A2 (List.length acc) c2, .slice A3 (List.length acc) c3] ∧ WdR wr acc A1 A2 A3 c1 c2 c3 ∧ acc ++ upI lim (ws.drop k) k = upI lim ws 0 ∧ acc.length ≤ k ∧ Above b7 A1 A2 A3
set_option maxRecDepth 100000 in
set_option maxHeartbeats 1600000 in
theorem rupto_any (ws : Wl) (Av Aa Ap Am' : Option Addr) (nv na np nm' cv ca cp cm' : Nat) (mk : Nat) (w : World) (An Ak Am : Option Addr) (cn ck cm : Nat) (hx : WdR w ws An Ak Am cn ck cm) (hn : ws.length ≤ 900) (hnv : nv ≤ 1000000) (hna : na ≤ 1000000) (hmk : mk ≤ 1000000) :
    Calls Tryz.prog 49 #[.agg #[.slice Av nv cv, .slice Aa na ca, .slice Ap np cp, .slice Am' nm' cm'], wdV ws An Ak Am cn ck cm, .int .i64 mk] w (UpP (upI ((nv : Int) + na + mk) ws 0) w) := by
  have hl : ws.length ≤ 9223372036854775807 := by omega
  obtain ⟨lim, hlim⟩ : ∃ l, l = ((nv : Int) + na + mk) := ⟨_, rfl⟩
  rw [← hlim]
  unfold wdV
  have HX := Lib.hid hx
  obtain ⟨m, hm⟩ : ∃ m, m = ws.length := ⟨_, rfl⟩
  rw [← hm] at hl hn ⊢
  have HM := Lib.hid hm
  obtain ⟨w1, hw1⟩ : ∃ w1, w1 = (((w.alloc (.cells #[.slice Av nv cv, .slice Aa na ca, .slice Ap np cp, .slice Am' nm' cm'] 27)).alloc (.cells #[.slice An m cn, .slice Ak m ck, .slice Am m cm] 63)).alloc (.cells #[.slice none 0 0, .slice none 0 0, .slice none 0 0] 63)).alloc (.cells #[.slice none 0 0, .slice none 0 0, .slice none 0 0] 63) := ⟨_, rfl⟩
  have hf1 : Fr NoT w w1 := by rw [hw1]; exact ((((Fr.refl _ _).alloc _).alloc _).alloc _).alloc _
  have k3 : Bk w1 w.heap.size 27 #[.slice Av nv cv, .slice Aa na ca, .slice Ap np cp, .slice Am' nm' cm'] := by
    rw [hw1]; exact (Bk.new _ _ _).fr0 ((((Fr.refl _ _).alloc _).alloc _).alloc _)
  have k4 : Bk w1 (w.heap.size + 1) 63 #[.slice An m cn, .slice Ak m ck, .slice Am m cm] := by
    rw [hw1]
    exact (Bk.new_at _ _ _ (by simp)).fr0 (((Fr.refl _ _).alloc _).alloc _)
  have k6 : Bk w1 (w.heap.size + 1 + 1) 63 #[.slice none 0 0, .slice none 0 0, .slice none 0 0] := by
    rw [hw1]
    exact (Bk.new_at _ _ _ (by simp)).fr0 ((Fr.refl _ _).alloc _)
  have k7 : Bk w1 (w.heap.size + 1 + 1 + 1) 63 #[.slice none 0 0, .slice none 0 0, .slice none 0 0] := by
    rw [hw1]
    exact Bk.new_at _ _ _ (by simp)
  have HF1 := Lib.hid hf1
  have HK3 := Lib.hid k3
  have HK4 := Lib.hid k4
  have HK6 := Lib.hid k6
  have HU0 := Lib.hid (show UpW w1 (w.heap.size + 1 + 1 + 1) lim ws 0 w1 from ⟨Fr.refl _ _, [], none, none, none, 0, 0, 0, k7, WdR.nil _, rfl, Nat.le_refl _, ⟨fun b e => by simp at e, fun b e => by simp at e, fun b e => by simp at e⟩⟩)
  have HW1 := Lib.hid hw1
  have HLIM := Lib.hid hlim
  have z1 : nv + na ≤ 9223372036854775807 := by omega
  have z2 : nv + na + mk ≤ 9223372036854775807 := by omega
  clear hx hm hw1 hf1 k3 k4 k6 k7 hlim
  go_enter Tryz.func49, Tryz.ntmps49
  go_wp2_with fail
  rw [← HW1.out]
  go_loopw [8] (fun i wr => ∃ k : Nat, k ≤ m ∧ i = .int .i64 k ∧ Hid (UpW w1 (w.heap.size + 1 + 1 + 1) lim ws k wr)) (fun i _ => m - (intOf i).toNat)
  case atStart => exact ⟨0, Nat.zero_le _, rfl, HU0⟩
  case round =>
    clear HU0
    obtain ⟨k, hk, rfl, hb⟩ := hrel
    obtain ⟨hfr, acc, A1, A2, A3, c1, c2, c3, hk7, hwd, hacc, hlen, hab⟩ := hb.out
    have hk4 := HK4.out.fr hfr (by omega)
    have x0 := hk4.cell 0
    have x1 := hk4.cell 1
    have x2 := hk4.cell 2
    have xl := hk4.lt
    have hk3 := HK3.out.fr hfr (by omega)
    have y0 := hk3.cell 0
    have y1 := hk3.cell 1
    have yl := hk3.lt
    have u0 := hk7.cell 0
    have u1 := hk7.cell 1
    have u2 := hk7.cell 2
    have ul := hk7.lt
    simp only [List.getElem?_toArray, List.getElem?_cons_succ, List.getElem?_cons_zero] at x0 x1 x2 y0 y1 u0 u1 u2
    have HFR := Lib.hid hfr
    have HK7 := Lib.hid hk7
    have HWD := Lib.hid hwd
    have HACC := Lib.hid hacc
    have HLEN := Lib.hid hlen
    have HAB := Lib.hid hab
    clear hb hfr hk7 hwd hacc hlen hk4 hk3 hab
    by_cases hlt : k < m
    · obtain ⟨⟨a0, a1, a2⟩, ar, hd⟩ := drop_head1 (show k < ws.length from by rw [← HM.out]; exact hlt)
      have hbk := Fr.back0 HF1.out (HFR.out.mono fun b _ e => by have e : b = w.heap.size + 1 + 1 + 1 := e; show w.heap.size ≤ b; omega)
      have hold : ∀ {xs : List Value} {b c : Nat}, RwR w xs (some ⟨b, 0, none⟩) c → 0 < xs.length → b < w.heap.size := fun h h0 => by obtain ⟨b', e, hb, _⟩ := h.2.2 h0; simp only [Option.some.injEq, Addr.mk.injEq, and_true] at e; omega
      obtain ⟨bn, rfl, hbn, hcn⟩ := (HX.out.names.keep hbk).2.2 (by simp; rw [← HM.out]; omega)
      obtain ⟨bk, rfl, hbk2, hck⟩ := (HX.out.kinds.keep hbk).2.2 (by simp; rw [← HM.out]; omega)
      obtain ⟨bm, rfl, hbm, hcm⟩ := (HX.out.many.keep hbk).2.2 (by simp; rw [← HM.out]; omega)
      have hbn0 := hold HX.out.names (by simp; rw [← HM.out]; omega)
      have hbk0 := hold HX.out.kinds (by simp; rw [← HM.out]; omega)
      have hbm0 := hold HX.out.many (by simp; rw [← HM.out]; omega)
      have d0 := hcn k (.string a0) (by rw [List.getElem?_map, get_drop0 hd.1]; rfl)
      have d1 := hck k (.int .i64 a1) (by rw [List.getElem?_map, get_drop0 hd.1]; rfl)
      have d2 := hcm k (.int .i64 a2) (by rw [List.getElem?_map, get_drop0 hd.1]; rfl)
      have hlt' : (k : Int) < (m : Int) := by omega
      have hge : (0 : Int) ≤ (k : Int) := by omega
      have hst := HACC.out
      rw [hd.1, upI_cons, ← hd.2] at hst
      simp only at hst
      have hsel : ((a1 = 3 ∧ ¬ (k : Int) < lim) ∨ (a1 ≠ 3 ∨ (k : Int) < lim)) := by by_cases h : a1 ≠ 3 ∨ (k : Int) < lim; exact .inr h; exact .inl (by omega)
      rcases hsel with ⟨h3, hk3⟩ | hsel
      · rw [if_neg (by omega)] at hst
        have HN := Lib.hid (show UpW w1 (w.heap.size + 1 + 1 + 1) lim ws (k + 1) wr from ⟨HFR.out, acc, A1, A2, A3, c1, c2, c3, HK7.out, HWD.out, hst, Nat.le_succ_of_le HLEN.out, HAB.out⟩)
        have e1 : (a1 != 3) = false := by simpa using h3
        have e2 : decide ((k : Int) < (nv : Int) + na + mk) = false := by rw [← HLIM.out]; simpa using hk3
        clear hd hbk hcn hck hcm hst h3 hk3
        go_wp2_with fail
        go_roundw
        case rel => exact ⟨k + 1, by omega, by go_num, HN⟩
        case measure => simp [intOf]; omega
      · rw [if_pos hsel] at hst
        have HST := Lib.hid hst
        have h7 := rwith_any acc a0 a1 a2 wr.drew A1 A2 A3 c1 c2 c3 (HWD.out.keep (Fr.refl NoT wr).drew) (by have := HLEN.out; omega)
        unfold WithP wdV at h7
        have H7 := Lib.hid h7
        have hcase : (a1 != 3) = true ∨ ((a1 != 3) = false ∧ decide ((k : Int) < (nv : Int) + na + mk) = true) := by
          rw [← HLIM.out]
          by_cases h : a1 = 3
          · exact .inr ⟨by simpa using h, by simpa using hsel.resolve_left (fun h2 => h2 h)⟩
          · exact .inl (by simpa using h)
        clear hd hbk hcn hck hcm hst hsel h7
        have nx : ¬ (w.heap.size + 1 = w.heap.size + 1 + 1 + 1) := by omega
        have nn : ¬ (bn = w.heap.size + 1 + 1 + 1) := by omega
        have nk : ¬ (bk = w.heap.size + 1 + 1 + 1) := by omega
        have nm : ¬ (bm = w.heap.size + 1 + 1 + 1) := by omega
        rcases hcase with e1 | ⟨e1, e2⟩
        all_goals
          go_wp2_with fail
          refine wp_region_still_tail 16 (by kernel_rfl) (by kernel_rfl) ?_
          simp only [List.take_succ_cons, List.take_zero, List.drop_succ_cons, List.drop_zero]
          repeat still_step
          try refine wpStill_nil ?_
          go_wp2_with fail
          refine H7.out.mono ?_
          rintro _ w5 ⟨g1, g2, g3, e1', e2', e3', rfl, hwd5, hg, hf⟩
          have hf5 := (Fr.refl NoT wr).drew.trans hf
          have hk75 := HK7.out.fr0 hf5
          have q0 := hk75.cell 0
          have q1 := hk75.cell 1
          have q2 := hk75.cell 2
          have r0 := hk75.frozen 0
          have r1 := hk75.frozen 1
          have r2 := hk75.frozen 2
          have ql := hk75.lt
          simp only [List.getElem?_toArray, List.getElem?_cons_succ, List.getElem?_cons_zero] at q0 q1 q2
          have HW5 := Lib.hid hwd5
          have HG5 := Lib.hid hg
          have HF5 := Lib.hid hf5
          have HK75 := Lib.hid hk75
          clear hwd5 hg hf hf5 hk75
          all_goals
            have hT := Fr.own (Fr.own (Fr.own (g := w.heap.size + 1 + 1 + 1) (Fr.refl _ w5) 0 (.slice (some ⟨g1, 0, none⟩) (acc ++ [(a0, a1, a2)]).length e1')) 1 (.slice (some ⟨g2, 0, none⟩) (acc ++ [(a0, a1, a2)]).length e2')) 2 (.slice (some ⟨g3, 0, none⟩) (acc ++ [(a0, a1, a2)]).length e3')
            have hU := Fr.own (Fr.own (Fr.own (HFR.out.trans HF5.out.any) 0 (.slice (some ⟨g1, 0, none⟩) (acc ++ [(a0, a1, a2)]).length e1')) 1 (.slice (some ⟨g2, 0, none⟩) (acc ++ [(a0, a1, a2)]).length e2')) 2 (.slice (some ⟨g3, 0, none⟩) (acc ++ [(a0, a1, a2)]).length e3')
            have hk7F := ((HK75.out.set_ 0 (.slice (some ⟨g1, 0, none⟩) (acc ++ [(a0, a1, a2)]).length e1')).set_ 1 (.slice (some ⟨g2, 0, none⟩) (acc ++ [(a0, a1, a2)]).length e2')).set_ 2 (.slice (some ⟨g3, 0, none⟩) (acc ++ [(a0, a1, a2)]).length e3')
            simp only [List.setIfInBounds_toArray, List.set_cons_zero, List.set_cons_succ] at hk7F
            have hab : Above (w.heap.size + 1 + 1 + 1) (some ⟨g1, 0, none⟩) (some ⟨g2, 0, none⟩) (some ⟨g3, 0, none⟩) := by
              obtain ⟨h1, h2, h3⟩ := HG5.out
              have h1 : wr.heap.size ≤ g1 := h1
              have h2 : wr.heap.size ≤ g2 := h2
              have h3 : wr.heap.size ≤ g3 := h3
              refine ⟨fun b e => ?_, fun b e => ?_, fun b e => ?_⟩ <;> (simp only [Option.some.injEq, Addr.mk.injEq, and_true] at e; omega)
            have hlen2 : (acc ++ [(a0, a1, a2)]).length ≤ k + 1 := by have := HLEN.out; simp; omega
            have hN := (UpW.mk (lim := lim) (ws := ws) (k := k + 1) hU ⟨acc ++ [(a0, a1, a2)], _, _, _, _, _, _, hk7F, HW5.out.keepA hab hT (fun b e => by have e : b = w.heap.size + 1 + 1 + 1 := e; omega), by rw [List.append_assoc]; exact HST.out, hlen2, hab⟩)
            rw [show (acc ++ [(a0, a1, a2)]).length = acc.length + 1 from by simp] at hN
            have HN := Lib.hid hN
            clear hT hU hk7F hab hlen2 hN
            go_wp2_with fail
            go_roundw
            case rel => exact ⟨k + 1, by omega, by go_num, HN⟩
            case measure => simp [intOf]; omega
    · have hlt' : ¬ (k : Int) < (m : Int) := by omega
      have he : acc = upI lim ws 0 := by
        have := HACC.out
        rw [List.drop_eq_nil_of_le (by rw [← HM.out]; omega)] at this
        simpa [upI] using this
      have hk6 := HK6.out.fr HFR.out (by omega)
      have t0 := hk6.cell 0
      have t1 := hk6.cell 1
      have t2 := hk6.cell 2
      have f0 := hk6.frozen 0
      have f1 := hk6.frozen 1
      have f2 := hk6.frozen 2
      have tl := hk6.lt
      simp only [List.getElem?_toArray, List.getElem?_cons_succ, List.getElem?_cons_zero] at t0 t1 t2
      have k6F := ((hk6.set_ 0 (.slice A1 acc.length c1)).set_ 1 (.slice A2 acc.length c2)).set_ 2 (.slice A3 acc.length c3)
      simp only [List.setIfInBounds_toArray, List.set_cons_zero, List.set_cons_succ] at k6F
      have hT : Fr (fun b => b = w.heap.size + 1 + 1) wr (((wr.setCell ⟨w.heap.size + 1 + 1, 0, none⟩ (.slice A1 acc.length c1)).setCell ⟨w.heap.size + 1 + 1, 1, none⟩ (.slice A2 acc.length c2)).setCell ⟨w.heap.size + 1 + 1, 2, none⟩ (.slice A3 acc.length c3)) :=
        Fr.own (Fr.own (Fr.own (Fr.refl _ _) 0 _) 1 _) 2 _
      have HW2 := Lib.hid (HWD.out.keepA HAB.out hT (fun b e => by omega))
      have HFF := Lib.hid (show Fr NoT w (((wr.setCell ⟨w.heap.size + 1 + 1, 0, none⟩ (.slice A1 acc.length c1)).setCell ⟨w.heap.size + 1 + 1, 1, none⟩ (.slice A2 acc.length c2)).setCell ⟨w.heap.size + 1 + 1, 2, none⟩ (.slice A3 acc.length c3)) from
        Fr.high (Fr.high (Fr.high (Fr.back0 HF1.out (HFR.out.mono fun b _ e => by have e : b = w.heap.size + 1 + 1 + 1 := e; show w.heap.size ≤ b; omega)) (by omega) _ _) (by omega) _ _) (by omega) _ _)
      have HK6F := Lib.hid k6F
      have HE := Lib.hid he
      clear hk6 k6F hT he
      go_wp2_with fail
      refine bodyPost_ret (results_cell_row (p := 6) (ty := 63) rfl _ _ (w.heap.size + 1 + 1) 63 _ (0, 0) _ rfl HK6F.out Tryz.underlying63 rfl infoWd) rfl ⟨A1, A2, A3, c1, c2, c3, ?_, ?_, HFF.out⟩
      · rw [← HE.out]; rfl
      · rw [← HE.out]; exact HW2.out
end Go.Proofs.YteabedhnpnapgaaGreatDoor
