/-
  parse: sign: a minus, parentheses. Printed by wip/gen_pasign.py.
-/
import Derived.Test.YtfkdbifnhgadaaaGreatDoorJnIdx
namespace Go.Proofs.YtfkdbifnhgadaaaGreatDoor
open Go.RowKit Go.Shelf
set_option linter.unusedVariables false
set_option linter.unusedSimpArgs false

theorem in64_at {C : Pcx} (hk : C.Ok) {w : World} {l : List Tk} {d : Nat} (h : PaAt C w l d) : in64 ((hdT l).at_ : Int) := by
  obtain ⟨j, cap, e, _⟩ := h.at_
  have := hk.pos _ (List.mem_of_getElem? (drop_head e h.ne).1)
  unfold in64; omega
/-- sign's three boxes -/
theorem sign_boxes (C : Pcx) (a : Int) (w w1 : World) (hw : w1 = ((w.alloc (.cells #[.pointer (some ⟨C.P, 0, none⟩)] 110)).alloc (.cells #[.int .u8 0, .string ⟨#[]⟩, .int .i64 0, .slice none 0 0, .int .i64 0] 117)).alloc (.cells #[.int .i64 a] 3)) :
    Fr NoT w w1 ∧ w1.heap.size = w.heap.size + 3 ∧ Bk w1 w.heap.size 110 #[.pointer (some ⟨C.P, 0, none⟩)] ∧ Bk w1 (w.heap.size + 1) 117 #[.int .u8 0, .string ⟨#[]⟩, .int .i64 0, .slice none 0 0, .int .i64 0] ∧ Bk w1 (w.heap.size + 2) 3 #[.int .i64 a] := by
  subst hw
  exact ⟨(((Fr.refl _ _).alloc _).alloc _).alloc _, by simp, ((Bk.new _ _ _).alloc _).alloc _, (Bk.new_at _ _ _ (by simp)).alloc _, Bk.new_at _ _ _ (by simp)⟩
/-- the world behind a walk of within -/
theorem within_back {C : Pcx} {w w1 w2 : World} {rb d L : Nat} {x : Ex} {r : List Tk} (hk : C.Ok) (hL : C.P < w.heap.size ∧ C.TB < w.heap.size ∧ C.W0.heap.size ≤ w.heap.size) (h1 : Fr NoT w w1) (hrb : w.heap.size ≤ rb) (hLL : w.heap.size ≤ L)
    (hra : ResAt rb L w2 x) (hpa : PaAt C w2 r (d + 1)) (hf : Fr (PT C rb) w1 w2) :
    ResAt rb w.heap.size (w2.setCell ⟨C.P, 1, none⟩ (.int .i64 d)) x ∧ PaAt C (w2.setCell ⟨C.P, 1, none⟩ (.int .i64 d)) r d ∧ Fr C.T w (w2.setCell ⟨C.P, 1, none⟩ (.int .i64 d)) := by
  have hfs : Fr C.T w2 (w2.setCell ⟨C.P, 1, none⟩ (.int .i64 d)) := (Fr.refl C.T w2).setCell (p := ⟨C.P, 1, none⟩) (Or.inl C.Tp) _
  refine ⟨(hra.fr hfs (by omega) (by omega)).low hLL, hpa.deep hk (d' := d) (v := (d : Int)) rfl, ((h1.any.trans hf).trans (PT.l hfs)).mono fun i hi e => ?_⟩
  rcases e with e | e
  · exact e
  · omega
theorem bad_back {C : Pcx} {w w1 w2 : World} {rb : Nat} (h1 : Fr NoT w w1) (hrb : w.heap.size ≤ rb) (hf : Fr (PT C rb) w1 w2) : Fr C.T w w2 :=
  (h1.any.trans hf).mono fun i hi e => by
    rcases e with e | e
    · exact e
    · omega
theorem signP_m0 {l : List Tk} (hm : mayB [45] l = true) : signP 0 l = .err 91 (hdT l).at_ := by unfold signP; rw [if_pos hm]
theorem signP_m1 {n : Nat} {l : List Tk} {a : Int} (hm : mayB [45] l = true) (ha : a = ((hdT l).at_ : Int)) : signP (n + 1) l = minusP n a l.tail := by rw [ha]; unfold signP; rw [if_pos hm]; rfl
theorem signP_p0 {l : List Tk} (h0 : mayB [45] l = false) (hm : mayB [40] l = true) : signP 0 l = .err 91 (hdT l).at_ := by unfold signP; rw [if_neg (by rw [h0]; decide), if_pos hm]
theorem signP_p1 {n : Nat} {l : List Tk} (h0 : mayB [45] l = false) (hm : mayB [40] l = true) : signP (n + 1) l = endP [41] n l.tail := by unfold signP; rw [if_neg (by rw [h0]; decide), if_pos hm]; rfl

-- a minus
set_option maxRecDepth 100000 in
set_option maxHeartbeats 1600000 in
theorem sign_minus (C : Pcx) (n : Nat) (hs : ∀ m, n = m + 1 → SignC C m) (l : List Tk) (d : Nat) (w : World) (hdn : d + n = 24) (hk : C.Ok) (h : PaAt C w l d) (hm : mayB [45] l = true) :
    Calls Tryz.prog 162 #[.pointer (some ⟨C.P, 0, none⟩)] w (ExP C d (signP n l) w) := by
  have hmf : ∀ (fn : Fn) (first cap : Array Value) (w : World), (Instr.makeFunc fn first cap).run Tryz.prog w = .ok (.func fn first cap) w := fun _ _ _ _ => rfl
  have hL := h.lts
  have hat := in64_at hk h
  obtain ⟨j, cap, m, hm0, hm1, hl, hmc, hcm, hb, p0, p1, f0, f1, t0, t1, t2, ltP, ltT⟩ := h.cells
  have hm2 : m ≤ 9223372036854775807 := by omega
  have hm3 : (0 : Int) < (m : Int) := by omega
  obtain ⟨a, ha⟩ : ∃ a : Int, a = (hdT l).at_ := ⟨_, rfl⟩
  rw [← ha] at t2 hat
  have HA := Lib.hid ha
  obtain ⟨w1, hw1⟩ : ∃ w1, w1 = ((w.alloc (.cells #[.pointer (some ⟨C.P, 0, none⟩)] 110)).alloc (.cells #[.int .u8 0, .string ⟨#[]⟩, .int .i64 0, .slice none 0 0, .int .i64 0] 117)).alloc (.cells #[.int .i64 a] 3) := ⟨_, rfl⟩
  obtain ⟨hf1, hz1, hpx, hbx, hax⟩ := sign_boxes C a w w1 hw1
  have h1 := h.fr hf1 id id fun _ _ => id
  have HF1 := Lib.hid hf1
  have HW1 := Lib.hid hw1
  have HK := Lib.hid hk
  have HL := Lib.hid hL
  have hent := enters_of Tryz.func179 (by kernel_rfl) rfl
  have h2 := h1.alloc (.cells #[.string ⟨#[45]⟩] 9)
  have hiy := is1_yes C [45] l d (w1.heap.size) _ h2 hm (by simp)
  have hf2 : Fr NoT w1 (w1.alloc (.cells #[.string ⟨#[45]⟩] 9)) := (Fr.refl NoT w1).alloc _
  unfold pP at hiy
  rw [hz1] at hiy
  rw [hw1] at hiy
  have HIY := Lib.hid hiy
  match n, hs, hdn with
  | 0, hs, hdn =>
    obtain rfl : d = 24 := by omega
    have hw := within_deep C [45] (.func (.func 179) #[] #[.pointer (some ⟨w.heap.size, 0, none⟩), .pointer (some ⟨w.heap.size + 1 + 1, 0, none⟩), .pointer (some ⟨w.heap.size + 1, 0, none⟩)]) l _ h2 hm
    rw [signP_m0 hm]
    rw [hw1] at hw
    unfold ErrP wrongE pP at hw
    have HW := Lib.hid hw
    have HF2 := Lib.hid hf2
    clear hw hw1 hf1 hz1 hpx hbx hax h1 h2 h hs hk hent hm hb hl hm0 ha hf2 hat hL hiy 
    go_enter Tryz.func162, Tryz.ntmps162
    go_wp2_with fail
    refine HIY.out.mono ?_
    rintro _ wy ⟨rfl, rfl⟩
    go_wp2_with fail
    refine HW.out.mono ?_
    rintro _ w3 ⟨rfl, hf⟩
    go_wp2_with fail
    have hf2 := HF2.out
    rw [HW1.out] at hf2
    exact ⟨rfl, rfl, ((by rw [← HW1.out]; exact HF1.out.any : Fr C.T w _).trans hf2.any).trans hf⟩
  | n + 1, hs, hdn =>
    have hsn := hs n rfl
    have hbr : ∀ W, PaAt C W l.tail (d + 1) → Fr C.T (w1.alloc (.cells #[.string ⟨#[45]⟩] 9)) W → Calls Tryz.prog 179 #[.pointer (some ⟨w.heap.size, 0, none⟩), .pointer (some ⟨w.heap.size + 2, 0, none⟩), .pointer (some ⟨w.heap.size + 1, 0, none⟩)] W (ParP C (w.heap.size + 1) (d + 1) (minusP n a l.tail) W) := fun W hP hF =>
      minus_any C n hsn l.tail (d + 1) w.heap.size (w.heap.size + 2) (w.heap.size + 1) a W hat (by omega) hk hP ((hpx.fr0 hf2).fr hF (fun e => by have e : w.heap.size = C.P := e; omega)) (by omega) ((hax.fr0 hf2).fr hF (fun e => by have e : w.heap.size + 2 = C.P := e; omega)) (by omega) (by omega) ((hbx.fr0 hf2).fr hF (fun e => by have e : w.heap.size + 1 = C.P := e; omega)) (by omega) (by omega) (by omega) (by omega)
    rw [signP_m1 hm HA.out]
    cases hr : minusP n a l.tail with
    | err c e =>
      rw [hr] at hbr
      have hw := within_bad C [45] 179 #[.pointer (some ⟨w.heap.size, 0, none⟩), .pointer (some ⟨w.heap.size + 1 + 1, 0, none⟩), .pointer (some ⟨w.heap.size + 1, 0, none⟩)] l d _ c e (fun w2 => Fr (PT C (w.heap.size + 1)) w1 w2) hk h2 (by decide) hm (by omega) hent (fun W hP hF => (hbr W hP hF).mono fun e w2 hE => ⟨hE.1, (PT.l (hf2.any.trans hF)).trans hE.2⟩)
      rw [hw1] at hw
      unfold wrongE pP at hw
      have HW := Lib.hid hw
      clear hw hw1 hf1 hz1 hpx hbx hax h1 h2 h hs hk hent hm hb hl hm0 ha hf2 hat hL hbr hsn hiy 
      go_enter Tryz.func162, Tryz.ntmps162
      go_wp2_with fail
      refine HIY.out.mono ?_
      rintro _ wy ⟨rfl, rfl⟩
      go_wp2_with fail
      refine HW.out.mono ?_
      rintro _ w3 ⟨rfl, hf⟩
      go_wp2_with fail
      rw [← HW1.out] at hf
      exact ⟨rfl, rfl, bad_back HF1.out (by omega) hf⟩
    | ok x r =>
      rw [hr] at hbr
      have hw := within_ok C [45] 179 #[.pointer (some ⟨w.heap.size, 0, none⟩), .pointer (some ⟨w.heap.size + 1 + 1, 0, none⟩), .pointer (some ⟨w.heap.size + 1, 0, none⟩)] l d _ (fun w2 => ResAt (w.heap.size + 1) (w.heap.size + 3) w2 x ∧ PaAt C w2 r (d + 1) ∧ Fr (PT C (w.heap.size + 1)) w1 w2) hk h2 (by decide) hm (by omega) hent (fun w2 h2 => ⟨r, h2.2.1⟩)
        (fun W hP hF => (hbr W hP hF).mono fun e w2 hE => ⟨hE.1, hE.2.1.low (by rw [← hz1]; exact Nat.le_trans hf2.size hF.size), hE.2.2.1, (PT.l (hf2.any.trans hF)).trans hE.2.2.2⟩)
      rw [hw1] at hw
      unfold WithinP pP at hw
      have HW := Lib.hid hw
      clear hw hw1 hf1 hz1 hpx hbx hax h1 h2 h hs hk hent hm hb hl hm0 ha hf2 hat hL hbr hsn hiy 
      go_enter Tryz.func162, Tryz.ntmps162
      go_wp2_with fail
      refine HIY.out.mono ?_
      rintro _ wy ⟨rfl, rfl⟩
      go_wp2_with fail
      refine HW.out.mono ?_
      rintro _ w3 ⟨rfl, w2, ⟨hra, hpa, hf⟩, rfl⟩
      rw [← HW1.out] at hf
      obtain ⟨⟨A, c, hb3, hv3⟩, hpa3, hf3⟩ := within_back HK.out HL.out HF1.out (by omega) (by omega) hra hpa hf
      have q0 := hb3.cell 0
      have q1 := hb3.cell 1
      have q2 := hb3.cell 2
      have q3 := hb3.cell 3
      have q4 := hb3.cell 4
      simp only [List.getElem?_toArray, List.getElem?_cons_succ, List.getElem?_cons_zero] at q0 q1 q2 q3 q4
      have HV := Lib.hid hv3
      have HP := Lib.hid hpa3
      have HF := Lib.hid hf3
      clear hra hpa hf hb3 hv3 hpa3 hf3
      go_wp2_with fail
      exact bodyPost_ret (v := exV x.k x.nm x.n A x.args.len c x.at_) (by simp [results, Tryz.results162, go_sem, exV, q0, q1, q2, q3, q4]) rfl ⟨_, rfl, HV.out, HP.out, HF.out⟩

-- parentheses
set_option maxRecDepth 100000 in
set_option maxHeartbeats 1600000 in
theorem sign_paren (C : Pcx) (n : Nat) (hs : ∀ m, n = m + 1 → SignC C m) (l : List Tk) (d : Nat) (w : World) (hdn : d + n = 24) (hk : C.Ok) (h : PaAt C w l d) (hn0 : mayB [45] l = false) (hm : mayB [40] l = true) :
    Calls Tryz.prog 162 #[.pointer (some ⟨C.P, 0, none⟩)] w (ExP C d (signP n l) w) := by
  have hmf : ∀ (fn : Fn) (first cap : Array Value) (w : World), (Instr.makeFunc fn first cap).run Tryz.prog w = .ok (.func fn first cap) w := fun _ _ _ _ => rfl
  have hL := h.lts
  have hat := in64_at hk h
  obtain ⟨j, cap, m, hm0, hm1, hl, hmc, hcm, hb, p0, p1, f0, f1, t0, t1, t2, ltP, ltT⟩ := h.cells
  have hm2 : m ≤ 9223372036854775807 := by omega
  have hm3 : (0 : Int) < (m : Int) := by omega
  obtain ⟨a, ha⟩ : ∃ a : Int, a = (hdT l).at_ := ⟨_, rfl⟩
  rw [← ha] at t2 hat
  have HA := Lib.hid ha
  obtain ⟨w1, hw1⟩ : ∃ w1, w1 = ((w.alloc (.cells #[.pointer (some ⟨C.P, 0, none⟩)] 110)).alloc (.cells #[.int .u8 0, .string ⟨#[]⟩, .int .i64 0, .slice none 0 0, .int .i64 0] 117)).alloc (.cells #[.int .i64 a] 3) := ⟨_, rfl⟩
  obtain ⟨hf1, hz1, hpx, hbx, hax⟩ := sign_boxes C a w w1 hw1
  have h1 := h.fr hf1 id id fun _ _ => id
  have HF1 := Lib.hid hf1
  have HW1 := Lib.hid hw1
  have HK := Lib.hid hk
  have HL := Lib.hid hL
  have hent := enters_of Tryz.func180 (by kernel_rfl) rfl
  have h1_0 := h1.alloc (.cells #[.string ⟨#[45]⟩] 9)
  have hi0 := is1_no C [45] l d w1.heap.size _ h1_0 hn0 (by simp)
  have h2 := h1_0.alloc (.cells #[.string ⟨#[40]⟩] 9)
  have hiy := is1_yes C [40] l d (w1.heap.size + 1) _ h2 hm (by simp)
  have hf2 : Fr NoT w1 ((w1.alloc (.cells #[.string ⟨#[45]⟩] 9)).alloc (.cells #[.string ⟨#[40]⟩] 9)) := ((Fr.refl NoT w1).alloc _).alloc _
  unfold pP at hiy hi0
  rw [hz1] at hiy hi0
  rw [hw1] at hiy hi0
  have HIY := Lib.hid hiy
  have HI0 := Lib.hid hi0
  match n, hs, hdn with
  | 0, hs, hdn =>
    obtain rfl : d = 24 := by omega
    have hw := within_deep C [40] (.func (.func 180) #[] #[.pointer (some ⟨w.heap.size, 0, none⟩), .pointer (some ⟨w.heap.size + 1, 0, none⟩)]) l _ h2 hm
    rw [signP_p0 hn0 hm]
    rw [hw1] at hw
    unfold ErrP wrongE pP at hw
    have HW := Lib.hid hw
    have HF2 := Lib.hid hf2
    clear hw hw1 hf1 hz1 hpx hbx hax h1 h2 h hs hk hent hm hb hl hm0 ha hf2 hat hL hiy hi0 h1_0 hn0
    go_enter Tryz.func162, Tryz.ntmps162
    go_wp2_with fail
    refine HI0.out.mono ?_
    rintro _ wq0 ⟨rr0, hrr0, rfl, rfl⟩
    go_wp2_with fail
    refine HIY.out.mono ?_
    rintro _ wy ⟨rfl, rfl⟩
    go_wp2_with fail
    refine HW.out.mono ?_
    rintro _ w3 ⟨rfl, hf⟩
    go_wp2_with fail
    have hf2 := HF2.out
    rw [HW1.out] at hf2
    exact ⟨rfl, rfl, ((by rw [← HW1.out]; exact HF1.out.any : Fr C.T w _).trans hf2.any).trans hf⟩
  | n + 1, hs, hdn =>
    have hsn := hs n rfl
    have hbr : ∀ W, PaAt C W l.tail (d + 1) → Fr C.T ((w1.alloc (.cells #[.string ⟨#[45]⟩] 9)).alloc (.cells #[.string ⟨#[40]⟩] 9)) W → Calls Tryz.prog 180 #[.pointer (some ⟨w.heap.size, 0, none⟩), .pointer (some ⟨w.heap.size + 1, 0, none⟩)] W (ParP C (w.heap.size + 1) (d + 1) (endP [41] n l.tail) W) := fun W hP hF =>
      paren_any C n hsn l.tail (d + 1) w.heap.size (w.heap.size + 1) W (by omega) hk hP ((hpx.fr0 hf2).fr hF (fun e => by have e : w.heap.size = C.P := e; omega)) (by omega) ((hbx.fr0 hf2).fr hF (fun e => by have e : w.heap.size + 1 = C.P := e; omega)) (by omega) (by omega) (by omega) (by omega)
    rw [signP_p1 hn0 hm]
    cases hr : endP [41] n l.tail with
    | err c e =>
      rw [hr] at hbr
      have hw := within_bad C [40] 180 #[.pointer (some ⟨w.heap.size, 0, none⟩), .pointer (some ⟨w.heap.size + 1, 0, none⟩)] l d _ c e (fun w2 => Fr (PT C (w.heap.size + 1)) w1 w2) hk h2 (by decide) hm (by omega) hent (fun W hP hF => (hbr W hP hF).mono fun e w2 hE => ⟨hE.1, (PT.l (hf2.any.trans hF)).trans hE.2⟩)
      rw [hw1] at hw
      unfold wrongE pP at hw
      have HW := Lib.hid hw
      clear hw hw1 hf1 hz1 hpx hbx hax h1 h2 h hs hk hent hm hb hl hm0 ha hf2 hat hL hbr hsn hiy hi0 h1_0 hn0
      go_enter Tryz.func162, Tryz.ntmps162
      go_wp2_with fail
      refine HI0.out.mono ?_
      rintro _ wq0 ⟨rr0, hrr0, rfl, rfl⟩
      go_wp2_with fail
      refine HIY.out.mono ?_
      rintro _ wy ⟨rfl, rfl⟩
      go_wp2_with fail
      refine HW.out.mono ?_
      rintro _ w3 ⟨rfl, hf⟩
      go_wp2_with fail
      rw [← HW1.out] at hf
      exact ⟨rfl, rfl, bad_back HF1.out (by omega) hf⟩
    | ok x r =>
      rw [hr] at hbr
      have hw := within_ok C [40] 180 #[.pointer (some ⟨w.heap.size, 0, none⟩), .pointer (some ⟨w.heap.size + 1, 0, none⟩)] l d _ (fun w2 => ResAt (w.heap.size + 1) (w.heap.size + 3) w2 x ∧ PaAt C w2 r (d + 1) ∧ Fr (PT C (w.heap.size + 1)) w1 w2) hk h2 (by decide) hm (by omega) hent (fun w2 h2 => ⟨r, h2.2.1⟩)
        (fun W hP hF => (hbr W hP hF).mono fun e w2 hE => ⟨hE.1, hE.2.1.low (by rw [← hz1]; exact Nat.le_trans hf2.size hF.size), hE.2.2.1, (PT.l (hf2.any.trans hF)).trans hE.2.2.2⟩)
      rw [hw1] at hw
      unfold WithinP pP at hw
      have HW := Lib.hid hw
      clear hw hw1 hf1 hz1 hpx hbx hax h1 h2 h hs hk hent hm hb hl hm0 ha hf2 hat hL hbr hsn hiy hi0 h1_0 hn0
      go_enter Tryz.func162, Tryz.ntmps162
      go_wp2_with fail
      refine HI0.out.mono ?_
      rintro _ wq0 ⟨rr0, hrr0, rfl, rfl⟩
      go_wp2_with fail
      refine HIY.out.mono ?_
      rintro _ wy ⟨rfl, rfl⟩
      go_wp2_with fail
      refine HW.out.mono ?_
      rintro _ w3 ⟨rfl, w2, ⟨hra, hpa, hf⟩, rfl⟩
      rw [← HW1.out] at hf
      obtain ⟨⟨A, c, hb3, hv3⟩, hpa3, hf3⟩ := within_back HK.out HL.out HF1.out (by omega) (by omega) hra hpa hf
      have q0 := hb3.cell 0
      have q1 := hb3.cell 1
      have q2 := hb3.cell 2
      have q3 := hb3.cell 3
      have q4 := hb3.cell 4
      simp only [List.getElem?_toArray, List.getElem?_cons_succ, List.getElem?_cons_zero] at q0 q1 q2 q3 q4
      have HV := Lib.hid hv3
      have HP := Lib.hid hpa3
      have HF := Lib.hid hf3
      clear hra hpa hf hb3 hv3 hpa3 hf3
      go_wp2_with fail
      exact bodyPost_ret (v := exV x.k x.nm x.n A x.args.len c x.at_) (by simp [results, Tryz.results162, go_sem, exV, q0, q1, q2, q3, q4]) rfl ⟨_, rfl, HV.out, HP.out, HF.out⟩
end Go.Proofs.YtfkdbifnhgadaaaGreatDoor
