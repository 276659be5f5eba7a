/-
  parse: not: a bang, brackets, true and false. Printed by wip/gen_pcnot2.py.
-/
import Derived.Test.YtfkdbifnhgadaaaGreatDoorPcEnd
namespace Go.Proofs.YtfkdbifnhgadaaaGreatDoor
open Go.RowKit Go.Shelf
set_option linter.unusedVariables false
set_option linter.unusedSimpArgs false

theorem idxFrom_get (x : ByteArray) : ∀ (zs : List ByteArray) (i : Nat), 0 ≤ Lib.idxFromS zs x i → ∃ j : Nat, Lib.idxFromS zs x i = ((i + j : Nat) : Int) ∧ zs[j]? = some x
  | [], i, h => by simp [Lib.idxFromS] at h
  | z :: zs, i, h => by
    unfold Lib.idxFromS at h ⊢
    split
    · rename_i hz
      exact ⟨0, rfl, by simp [hz]⟩
    · rename_i hz
      rw [if_neg hz] at h
      obtain ⟨j, h1, h2⟩ := idxFrom_get x zs (i + 1) h
      exact ⟨j + 1, by rw [h1]; congr 1; omega, by simpa using h2⟩
theorem isP_get {signs : List (List UInt8)} {l : List Tk} {j : Nat} (h : isP signs l = (j : Int)) : signs[j]? = some (hdT l).text ∧ (hdT l).kind ≠ 2 := by
  have h0 : 0 ≤ isP signs l := by omega
  have h2 := isP_text h0
  refine ⟨?_, h2.2⟩
  unfold isP at h
  rw [if_neg h2.2] at h
  obtain ⟨i, h3, h4⟩ := idxFrom_get (txt (hdT l)) (signs.map fun s => (⟨s.toArray⟩ : ByteArray)) 0 (by show 0 ≤ Lib.idxOfS _ _; omega)
  have h5 : i = j := by
    have h3 : Lib.idxOfS _ _ = ((0 + i : Nat) : Int) := h3
    omega
  subst h5
  rw [List.getElem?_map] at h4
  cases hs : signs[i]? with
  | none => rw [hs] at h4; cases h4
  | some s =>
    rw [hs] at h4
    have := mk_inj (Option.some.inj h4)
    rw [this]
theorem mayB_of {s : List UInt8} {l : List Tk} (h : (hdT l).text = s) (hk : (hdT l).kind ≠ 2) : mayB s l = true := by
  unfold mayB isP
  rw [if_neg hk]
  simp [Lib.idxOfS, Lib.idxFromS, txt, h]
theorem is4_any (C : Pcx) (signs : List (List UInt8)) (l : List Tk) (d : Nat) (w : World) (h : PaAt C (w.alloc (.cells (strA signs) 9)) l d) (n : Nat) (hn : n = signs.length) (hsl : signs.length ≤ 100) :
    Calls Tryz.prog 121 #[.pointer (some ⟨C.P, 0, none⟩), .slice (some ⟨w.heap.size, 0, none⟩) n n] (w.alloc (.cells (strA signs) 9)) fun e w' => e = .returned (.int .i64 (isP signs l)) ∧ w.alloc (.cells (strA signs) 9) = w' := by
  subst hn
  exact is_any C signs l d w.heap.size 0 _ _ h (by omega) fun j hj => by
    rw [Nat.zero_add, (Bk.new w _ _).cell j]; simp [strA, hj]
theorem notP_b0 {l : List Tk} (h : isP notS l = 0) : notP 0 l = .err 91 (hdT l).at_ := by unfold notP; rw [if_pos h]
theorem notP_b1 {n : Nat} {l : List Tk} {a : Int} (h : isP notS l = 0) (ha : a = ((hdT l).at_ : Int)) : notP (n + 1) l = notB n a l.tail := by rw [ha]; unfold notP; rw [if_pos h]; rfl
theorem notP_k0 {l : List Tk} (h : isP notS l = 1) : notP 0 l = .err 91 (hdT l).at_ := by unfold notP; rw [if_neg (by omega), if_pos h]
theorem notP_k1 {n : Nat} {l : List Tk} (h : isP notS l = 1) : notP (n + 1) l = endC [93] n l.tail := by unfold notP; rw [if_neg (by omega), if_pos h]; rfl
theorem notP_t {n : Nat} {l : List Tk} (h : isP notS l = 2) : notP n l = .ok ⟨1, .nil, .nil, (hdT l).at_⟩ l.tail := by
  cases n <;> (unfold notP; rw [if_neg (by omega), if_neg (by omega), if_pos (Or.inl h), h]; rfl)
theorem notP_f {n : Nat} {l : List Tk} (h : isP notS l = 3) : notP n l = .ok ⟨2, .nil, .nil, (hdT l).at_⟩ l.tail := by
  cases n <;> (unfold notP; rw [if_neg (by omega), if_neg (by omega), if_pos (Or.inr h), h]; rfl)
theorem notP_c {n : Nat} {l : List Tk} (h : isP notS l < 0) : notP n l = cmpP n l := by
  cases n <;> (unfold notP; rw [if_neg (by omega), if_neg (by omega), if_neg (by omega)])
/-- not's three boxes -/
theorem not_boxes (C : Pcx) (a : Int) (w w1 : World) (hw : w1 = ((w.alloc (.cells #[.pointer (some ⟨C.P, 0, none⟩)] 110)).alloc (.cells #[.int .u8 0, .slice none 0 0, .slice none 0 0, .int .i64 0] 119)).alloc (.cells #[.int .i64 a] 3)) :
    Fr NoT w w1 ∧ w1.heap.size = w.heap.size + 3 ∧ Bk w1 w.heap.size 110 #[.pointer (some ⟨C.P, 0, none⟩)] ∧ Bk w1 (w.heap.size + 1) 119 #[.int .u8 0, .slice none 0 0, .slice none 0 0, .int .i64 0] ∧ Bk w1 (w.heap.size + 2) 3 #[.int .i64 a] := by
  subst hw
  exact ⟨(((Fr.refl _ _).alloc _).alloc _).alloc _, by simp, ((Bk.new _ _ _).alloc _).alloc _, (Bk.new_at _ _ _ (by simp)).alloc _, Bk.new_at _ _ _ (by simp)⟩
/-- the world behind a walk of within -/
theorem withinC_back {C : Pcx} {w w1 w2 : World} {rb d L : Nat} {x : Cn} {r : List Tk} (hk : C.Ok) (hL : C.P < w.heap.size ∧ C.TB < w.heap.size ∧ C.W0.heap.size ≤ w.heap.size) (h1 : Fr NoT w w1) (hrb : w.heap.size ≤ rb) (hLL : w.heap.size ≤ L)
    (hra : ResC rb L w2 x) (hpa : PaAt C w2 r (d + 1)) (hf : Fr (PT C rb) w1 w2) :
    ResC rb w.heap.size (w2.setCell ⟨C.P, 1, none⟩ (.int .i64 d)) x ∧ PaAt C (w2.setCell ⟨C.P, 1, none⟩ (.int .i64 d)) r d ∧ Fr C.T w (w2.setCell ⟨C.P, 1, none⟩ (.int .i64 d)) := by
  have hfs : Fr C.T w2 (w2.setCell ⟨C.P, 1, none⟩ (.int .i64 d)) := (Fr.refl C.T w2).setCell (p := ⟨C.P, 1, none⟩) (Or.inl C.Tp) _
  refine ⟨(hra.fr hfs (by omega) (by omega)).low hLL, hpa.deep hk (d' := d) (v := (d : Int)) rfl, ((h1.any.trans hf).trans (PT.l hfs)).mono fun i hi e => ?_⟩
  rcases e with e | e
  · exact e
  · omega
-- a bang
set_option maxRecDepth 100000 in
set_option maxHeartbeats 1600000 in
theorem not_bang (C : Pcx) (n : Nat) (hs : ∀ m, n = m + 1 → NotC C m) (l : List Tk) (d : Nat) (w : World) (hdn : d + n = 24) (hk : C.Ok) (h : PaAt C w l d) (hk0 : isP notS l = 0) :
    Calls Tryz.prog 190 #[.pointer (some ⟨C.P, 0, none⟩)] w (CdP C d (notP n l) w) := by
  have hmf : ∀ (fn : Fn) (first cap : Array Value) (w : World), (Instr.makeFunc fn first cap).run Tryz.prog w = .ok (.func fn first cap) w := fun _ _ _ _ => rfl
  have hL := h.lts
  have hat := in64_at hk h
  obtain ⟨j, cap, m, hm0, hm1, hl, hmc, hcm, hb, p0, p1, f0, f1, t0, t1, t2, ltP, ltT⟩ := h.cells
  have hm2 : m ≤ 9223372036854775807 := by omega
  have hm3 : (0 : Int) < (m : Int) := by omega
  obtain ⟨a, ha⟩ : ∃ a : Int, a = (hdT l).at_ := ⟨_, rfl⟩
  rw [← ha] at t2 hat
  have HA := Lib.hid ha
  obtain ⟨w1, hw1⟩ : ∃ w1, w1 = ((w.alloc (.cells #[.pointer (some ⟨C.P, 0, none⟩)] 110)).alloc (.cells #[.int .u8 0, .slice none 0 0, .slice none 0 0, .int .i64 0] 119)).alloc (.cells #[.int .i64 a] 3) := ⟨_, rfl⟩
  obtain ⟨hf1, hz1, hpx, hbx, hax⟩ := not_boxes C a w w1 hw1
  have h1 := h.fr hf1 id id fun _ _ => id
  have HF1 := Lib.hid hf1
  have HW1 := Lib.hid hw1
  have HK := Lib.hid hk
  have HL := Lib.hid hL
  have hent := enters_of Tryz.func191 (by kernel_rfl) rfl
  have h2 := h1.alloc (.cells #[.string ⟨#[33]⟩, .string ⟨#[91]⟩, .string ⟨#[116, 114, 117, 101]⟩, .string ⟨#[102, 97, 108, 115, 101]⟩] 9)
  have hiy := is4_any C notS l d w1 h2 4 rfl (by decide)
  have hm : mayB [33] l = true := mayB_of (Option.some.inj (isP_get (j := 0) hk0).1).symm (isP_get (j := 0) hk0).2
  rw [hk0] at hiy
  unfold strA notS at hiy
  simp only [List.map_cons, List.map_nil] at hiy
  have hf2 : Fr NoT w1 (w1.alloc (.cells #[.string ⟨#[33]⟩, .string ⟨#[91]⟩, .string ⟨#[116, 114, 117, 101]⟩, .string ⟨#[102, 97, 108, 115, 101]⟩] 9)) := (Fr.refl NoT w1).alloc _
  rw [hz1] at hiy
  rw [hw1] at hiy
  have HIY := Lib.hid hiy
  match n, hs, hdn with
  | 0, hs, hdn =>
    obtain rfl : d = 24 := by omega
    have hw := within_deep C [33] (.func (.func 191) #[] #[.pointer (some ⟨w.heap.size, 0, none⟩), .pointer (some ⟨w.heap.size + 1 + 1, 0, none⟩), .pointer (some ⟨w.heap.size + 1, 0, none⟩)]) l _ h2 hm
    rw [notP_b0 hk0]
    rw [hw1] at hw
    unfold ErrP wrongE pP at hw
    have HW := Lib.hid hw
    have HF2 := Lib.hid hf2
    clear hw hw1 hf1 hz1 hpx hbx hax h1 h2 h hs hk hent hm hk0 hb hl hm0 ha hf2 hat hL hiy
    go_enter Tryz.func190, Tryz.ntmps190
    go_wp2_with fail
    refine HIY.out.mono ?_
    rintro _ wy ⟨rfl, rfl⟩
    go_wp2_with fail
    refine HW.out.mono ?_
    rintro _ w3 ⟨rfl, hf⟩
    go_wp2_with fail
    have hf2 := HF2.out
    rw [HW1.out] at hf2
    exact ⟨rfl, rfl, ((by rw [← HW1.out]; exact HF1.out.any : Fr C.T w _).trans hf2.any).trans hf⟩
  | n + 1, hs, hdn =>
    have hsn := hs n rfl
    have hbr : ∀ W, PaAt C W l.tail (d + 1) → Fr C.T (w1.alloc (.cells #[.string ⟨#[33]⟩, .string ⟨#[91]⟩, .string ⟨#[116, 114, 117, 101]⟩, .string ⟨#[102, 97, 108, 115, 101]⟩] 9)) W → Calls Tryz.prog 191 #[.pointer (some ⟨w.heap.size, 0, none⟩), .pointer (some ⟨w.heap.size + 2, 0, none⟩), .pointer (some ⟨w.heap.size + 1, 0, none⟩)] W (ParC C (w.heap.size + 1) (d + 1) (notB n a l.tail) W) := fun W hP hF =>
      notB_any C n hsn l.tail (d + 1) w.heap.size (w.heap.size + 2) (w.heap.size + 1) a W hat (by omega) hk hP ((hpx.fr0 hf2).fr hF (fun e => by have e : w.heap.size = C.P := e; omega)) (by omega) ((hax.fr0 hf2).fr hF (fun e => by have e : w.heap.size + 2 = C.P := e; omega)) (by omega) (by omega) ((hbx.fr0 hf2).fr hF (fun e => by have e : w.heap.size + 1 = C.P := e; omega)) (by omega) (by omega) (by omega) (by omega)
    rw [notP_b1 hk0 HA.out]
    cases hr : notB n a l.tail with
    | err c e =>
      rw [hr] at hbr
      have hw := within_bad C [33] 191 #[.pointer (some ⟨w.heap.size, 0, none⟩), .pointer (some ⟨w.heap.size + 1 + 1, 0, none⟩), .pointer (some ⟨w.heap.size + 1, 0, none⟩)] l d _ c e (fun w2 => Fr (PT C (w.heap.size + 1)) w1 w2) hk h2 (by decide) hm (by omega) hent (fun W hP hF => (hbr W hP hF).mono fun e w2 hE => ⟨hE.1, (PT.l (hf2.any.trans hF)).trans hE.2⟩)
      rw [hw1] at hw
      unfold wrongE pP at hw
      have HW := Lib.hid hw
      clear hw hw1 hf1 hz1 hpx hbx hax h1 h2 h hs hk hent hm hk0 hb hl hm0 ha hf2 hat hL hbr hsn hiy
      go_enter Tryz.func190, Tryz.ntmps190
      go_wp2_with fail
      refine HIY.out.mono ?_
      rintro _ wy ⟨rfl, rfl⟩
      go_wp2_with fail
      refine HW.out.mono ?_
      rintro _ w3 ⟨rfl, hf⟩
      go_wp2_with fail
      rw [← HW1.out] at hf
      exact ⟨rfl, rfl, bad_back HF1.out (by omega) hf⟩
    | ok x r =>
      rw [hr] at hbr
      have hw := within_ok C [33] 191 #[.pointer (some ⟨w.heap.size, 0, none⟩), .pointer (some ⟨w.heap.size + 1 + 1, 0, none⟩), .pointer (some ⟨w.heap.size + 1, 0, none⟩)] l d _ (fun w2 => ResC (w.heap.size + 1) (w.heap.size + 3) w2 x ∧ PaAt C w2 r (d + 1) ∧ Fr (PT C (w.heap.size + 1)) w1 w2) hk h2 (by decide) hm (by omega) hent (fun w2 h2 => ⟨r, h2.2.1⟩)
        (fun W hP hF => (hbr W hP hF).mono fun e w2 hE => ⟨hE.1, hE.2.1.low (by rw [← hz1]; exact Nat.le_trans hf2.size hF.size), hE.2.2.1, (PT.l (hf2.any.trans hF)).trans hE.2.2.2⟩)
      rw [hw1] at hw
      unfold WithinP pP at hw
      have HW := Lib.hid hw
      clear hw hw1 hf1 hz1 hpx hbx hax h1 h2 h hs hk hent hm hk0 hb hl hm0 ha hf2 hat hL hbr hsn hiy
      go_enter Tryz.func190, Tryz.ntmps190
      go_wp2_with fail
      refine HIY.out.mono ?_
      rintro _ wy ⟨rfl, rfl⟩
      go_wp2_with fail
      refine HW.out.mono ?_
      rintro _ w3 ⟨rfl, w2, ⟨hra, hpa, hf⟩, rfl⟩
      rw [← HW1.out] at hf
      obtain ⟨⟨A, c, B, pc, hb3, hv3⟩, hpa3, hf3⟩ := withinC_back HK.out HL.out HF1.out (by omega) (by omega) hra hpa hf
      have q0 := hb3.cell 0
      have q1 := hb3.cell 1
      have q2 := hb3.cell 2
      have q3 := hb3.cell 3
      simp only [List.getElem?_toArray, List.getElem?_cons_succ, List.getElem?_cons_zero] at q0 q1 q2 q3
      have HV := Lib.hid hv3
      have HP := Lib.hid hpa3
      have HF := Lib.hid hf3
      clear hra hpa hf hb3 hv3 hpa3 hf3
      go_wp2_with fail
      exact bodyPost_ret (v := cdV x.k A x.args.len c B x.of_.len pc x.at_) (by simp [results, Tryz.results190, go_sem, cdV, q0, q1, q2, q3]) rfl ⟨_, rfl, HV.out, HP.out, HF.out⟩

-- brackets
set_option maxRecDepth 100000 in
set_option maxHeartbeats 1600000 in
theorem not_brack (C : Pcx) (n : Nat) (hs : ∀ m, n = m + 1 → NotC C m) (l : List Tk) (d : Nat) (w : World) (hdn : d + n = 24) (hk : C.Ok) (h : PaAt C w l d) (hk0 : isP notS l = 1) :
    Calls Tryz.prog 190 #[.pointer (some ⟨C.P, 0, none⟩)] w (CdP C d (notP n l) w) := by
  have hmf : ∀ (fn : Fn) (first cap : Array Value) (w : World), (Instr.makeFunc fn first cap).run Tryz.prog w = .ok (.func fn first cap) w := fun _ _ _ _ => rfl
  have hL := h.lts
  have hat := in64_at hk h
  obtain ⟨j, cap, m, hm0, hm1, hl, hmc, hcm, hb, p0, p1, f0, f1, t0, t1, t2, ltP, ltT⟩ := h.cells
  have hm2 : m ≤ 9223372036854775807 := by omega
  have hm3 : (0 : Int) < (m : Int) := by omega
  obtain ⟨a, ha⟩ : ∃ a : Int, a = (hdT l).at_ := ⟨_, rfl⟩
  rw [← ha] at t2 hat
  have HA := Lib.hid ha
  obtain ⟨w1, hw1⟩ : ∃ w1, w1 = ((w.alloc (.cells #[.pointer (some ⟨C.P, 0, none⟩)] 110)).alloc (.cells #[.int .u8 0, .slice none 0 0, .slice none 0 0, .int .i64 0] 119)).alloc (.cells #[.int .i64 a] 3) := ⟨_, rfl⟩
  obtain ⟨hf1, hz1, hpx, hbx, hax⟩ := not_boxes C a w w1 hw1
  have h1 := h.fr hf1 id id fun _ _ => id
  have HF1 := Lib.hid hf1
  have HW1 := Lib.hid hw1
  have HK := Lib.hid hk
  have HL := Lib.hid hL
  have hent := enters_of Tryz.func192 (by kernel_rfl) rfl
  have h2 := h1.alloc (.cells #[.string ⟨#[33]⟩, .string ⟨#[91]⟩, .string ⟨#[116, 114, 117, 101]⟩, .string ⟨#[102, 97, 108, 115, 101]⟩] 9)
  have hiy := is4_any C notS l d w1 h2 4 rfl (by decide)
  have hm : mayB [91] l = true := mayB_of (Option.some.inj (isP_get (j := 1) hk0).1).symm (isP_get (j := 1) hk0).2
  rw [hk0] at hiy
  unfold strA notS at hiy
  simp only [List.map_cons, List.map_nil] at hiy
  have hf2 : Fr NoT w1 (w1.alloc (.cells #[.string ⟨#[33]⟩, .string ⟨#[91]⟩, .string ⟨#[116, 114, 117, 101]⟩, .string ⟨#[102, 97, 108, 115, 101]⟩] 9)) := (Fr.refl NoT w1).alloc _
  rw [hz1] at hiy
  rw [hw1] at hiy
  have HIY := Lib.hid hiy
  match n, hs, hdn with
  | 0, hs, hdn =>
    obtain rfl : d = 24 := by omega
    have hw := within_deep C [91] (.func (.func 192) #[] #[.pointer (some ⟨w.heap.size, 0, none⟩), .pointer (some ⟨w.heap.size + 1, 0, none⟩)]) l _ h2 hm
    rw [notP_k0 hk0]
    rw [hw1] at hw
    unfold ErrP wrongE pP at hw
    have HW := Lib.hid hw
    have HF2 := Lib.hid hf2
    clear hw hw1 hf1 hz1 hpx hbx hax h1 h2 h hs hk hent hm hk0 hb hl hm0 ha hf2 hat hL hiy
    go_enter Tryz.func190, Tryz.ntmps190
    go_wp2_with fail
    refine HIY.out.mono ?_
    rintro _ wy ⟨rfl, rfl⟩
    go_wp2_with fail
    refine HW.out.mono ?_
    rintro _ w3 ⟨rfl, hf⟩
    go_wp2_with fail
    have hf2 := HF2.out
    rw [HW1.out] at hf2
    exact ⟨rfl, rfl, ((by rw [← HW1.out]; exact HF1.out.any : Fr C.T w _).trans hf2.any).trans hf⟩
  | n + 1, hs, hdn =>
    have hsn := hs n rfl
    have hbr : ∀ W, PaAt C W l.tail (d + 1) → Fr C.T (w1.alloc (.cells #[.string ⟨#[33]⟩, .string ⟨#[91]⟩, .string ⟨#[116, 114, 117, 101]⟩, .string ⟨#[102, 97, 108, 115, 101]⟩] 9)) W → Calls Tryz.prog 192 #[.pointer (some ⟨w.heap.size, 0, none⟩), .pointer (some ⟨w.heap.size + 1, 0, none⟩)] W (ParC C (w.heap.size + 1) (d + 1) (endC [93] n l.tail) W) := fun W hP hF =>
      brackC_any C n hsn l.tail (d + 1) w.heap.size (w.heap.size + 1) W (by omega) hk hP ((hpx.fr0 hf2).fr hF (fun e => by have e : w.heap.size = C.P := e; omega)) (by omega) ((hbx.fr0 hf2).fr hF (fun e => by have e : w.heap.size + 1 = C.P := e; omega)) (by omega) (by omega) (by omega) (by omega)
    rw [notP_k1 hk0]
    cases hr : endC [93] n l.tail with
    | err c e =>
      rw [hr] at hbr
      have hw := within_bad C [91] 192 #[.pointer (some ⟨w.heap.size, 0, none⟩), .pointer (some ⟨w.heap.size + 1, 0, none⟩)] l d _ c e (fun w2 => Fr (PT C (w.heap.size + 1)) w1 w2) hk h2 (by decide) hm (by omega) hent (fun W hP hF => (hbr W hP hF).mono fun e w2 hE => ⟨hE.1, (PT.l (hf2.any.trans hF)).trans hE.2⟩)
      rw [hw1] at hw
      unfold wrongE pP at hw
      have HW := Lib.hid hw
      clear hw hw1 hf1 hz1 hpx hbx hax h1 h2 h hs hk hent hm hk0 hb hl hm0 ha hf2 hat hL hbr hsn hiy
      go_enter Tryz.func190, Tryz.ntmps190
      go_wp2_with fail
      refine HIY.out.mono ?_
      rintro _ wy ⟨rfl, rfl⟩
      go_wp2_with fail
      refine HW.out.mono ?_
      rintro _ w3 ⟨rfl, hf⟩
      go_wp2_with fail
      rw [← HW1.out] at hf
      exact ⟨rfl, rfl, bad_back HF1.out (by omega) hf⟩
    | ok x r =>
      rw [hr] at hbr
      have hw := within_ok C [91] 192 #[.pointer (some ⟨w.heap.size, 0, none⟩), .pointer (some ⟨w.heap.size + 1, 0, none⟩)] l d _ (fun w2 => ResC (w.heap.size + 1) (w.heap.size + 3) w2 x ∧ PaAt C w2 r (d + 1) ∧ Fr (PT C (w.heap.size + 1)) w1 w2) hk h2 (by decide) hm (by omega) hent (fun w2 h2 => ⟨r, h2.2.1⟩)
        (fun W hP hF => (hbr W hP hF).mono fun e w2 hE => ⟨hE.1, hE.2.1.low (by rw [← hz1]; exact Nat.le_trans hf2.size hF.size), hE.2.2.1, (PT.l (hf2.any.trans hF)).trans hE.2.2.2⟩)
      rw [hw1] at hw
      unfold WithinP pP at hw
      have HW := Lib.hid hw
      clear hw hw1 hf1 hz1 hpx hbx hax h1 h2 h hs hk hent hm hk0 hb hl hm0 ha hf2 hat hL hbr hsn hiy
      go_enter Tryz.func190, Tryz.ntmps190
      go_wp2_with fail
      refine HIY.out.mono ?_
      rintro _ wy ⟨rfl, rfl⟩
      go_wp2_with fail
      refine HW.out.mono ?_
      rintro _ w3 ⟨rfl, w2, ⟨hra, hpa, hf⟩, rfl⟩
      rw [← HW1.out] at hf
      obtain ⟨⟨A, c, B, pc, hb3, hv3⟩, hpa3, hf3⟩ := withinC_back HK.out HL.out HF1.out (by omega) (by omega) hra hpa hf
      have q0 := hb3.cell 0
      have q1 := hb3.cell 1
      have q2 := hb3.cell 2
      have q3 := hb3.cell 3
      simp only [List.getElem?_toArray, List.getElem?_cons_succ, List.getElem?_cons_zero] at q0 q1 q2 q3
      have HV := Lib.hid hv3
      have HP := Lib.hid hpa3
      have HF := Lib.hid hf3
      clear hra hpa hf hb3 hv3 hpa3 hf3
      go_wp2_with fail
      exact bodyPost_ret (v := cdV x.k A x.args.len c B x.of_.len pc x.at_) (by simp [results, Tryz.results190, go_sem, cdV, q0, q1, q2, q3]) rfl ⟨_, rfl, HV.out, HP.out, HF.out⟩


/-- a leaf, in its box -/
theorem cleaf_fin {C : Pcx} {w w7 : World} {rb d : Nat} {k a : Int} {r : List Tk} (hL : C.P < w.heap.size ∧ C.TB < w.heap.size ∧ C.W0.heap.size ≤ w.heap.size) (h8 : in8 k) (hat : in64 a) (hrb : w.heap.size ≤ rb)
    (hp : PaAt C w7 r d) (hf : Fr C.T w w7) (w9 : World)
    (h9 : w9 = ((((w7.setCell ⟨rb, 0, none⟩ (.int .u8 k)).setCell ⟨rb, 1, none⟩ (.slice none 0 0)).setCell ⟨rb, 2, none⟩ (.slice none 0 0)).setCell ⟨rb, 3, none⟩ (.int .i64 a))) :
    CdP C d (.ok ⟨k, .nil, .nil, a⟩ r) w (.returned (cdV k none 0 0 none 0 0 a)) w9 := by
  have hf9 : Fr (fun b => b = rb) w7 w9 := by rw [h9]; exact Fr.own (Fr.own (Fr.own (Fr.own (Fr.refl _ _) _ _) _ _) _ _) _ _
  refine ⟨_, rfl, ⟨h8, hat, none, 0, none, 0, rfl, ⟨Nat.le_refl 0, sl0, fun h => absurd h (by exact Nat.lt_irrefl 0)⟩, ⟨Nat.le_refl 0, sl0, fun h => absurd h (by exact Nat.lt_irrefl 0)⟩⟩, hp.fr hf9 (fun e => ?_) (fun e => ?_) (fun i hi e => ?_), ?_⟩
  · have e : C.P = rb := e
    omega
  · have e : C.TB = rb := e
    omega
  · have e : i = rb := e
    omega
  · rw [h9]
    exact Fr.high (Fr.high (Fr.high (Fr.high hf hrb _ _) hrb _ _) hrb _ _) hrb _ _

set_option maxRecDepth 100000 in
set_option maxHeartbeats 1600000 in
theorem not_true (C : Pcx) (n : Nat) (l : List Tk) (d : Nat) (w : World) (hk : C.Ok) (h : PaAt C w l d) (hk0 : isP notS l = 2) :
    Calls Tryz.prog 190 #[.pointer (some ⟨C.P, 0, none⟩)] w (CdP C d (notP n l) w) := by
  rw [notP_t hk0]
  have hL := h.lts
  have hat := in64_at hk h
  obtain ⟨j, cap, m, hm0, hm1, hl, hmc, hcm, hb, p0, p1, f0, f1, t0, t1, t2, ltP, ltT⟩ := h.cells
  have hm2 : m ≤ 9223372036854775807 := by omega
  have hm3 : (0 : Int) < (m : Int) := by omega
  obtain ⟨a, ha⟩ : ∃ a : Int, a = (hdT l).at_ := ⟨_, rfl⟩
  rw [← ha] at t2 hat ⊢
  obtain ⟨w1, hw1⟩ : ∃ w1, w1 = ((w.alloc (.cells #[.pointer (some ⟨C.P, 0, none⟩)] 110)).alloc (.cells #[.int .u8 0, .slice none 0 0, .slice none 0 0, .int .i64 0] 119)).alloc (.cells #[.int .i64 a] 3) := ⟨_, rfl⟩
  obtain ⟨hf1, hz1, hpx, hbx, hax⟩ := not_boxes C a w w1 hw1
  have h1 := h.fr hf1 id id fun _ _ => id
  have h2 := h1.alloc (.cells #[.string ⟨#[33]⟩, .string ⟨#[91]⟩, .string ⟨#[116, 114, 117, 101]⟩, .string ⟨#[102, 97, 108, 115, 101]⟩] 9)
  have hf2 : Fr NoT w1 (w1.alloc (.cells #[.string ⟨#[33]⟩, .string ⟨#[91]⟩, .string ⟨#[116, 114, 117, 101]⟩, .string ⟨#[102, 97, 108, 115, 101]⟩] 9)) := (Fr.refl NoT w1).alloc _
  have hiy := is4_any C notS l d w1 h2 4 rfl (by decide)
  rw [hk0] at hiy
  have hps := pass_any C l d _ hk h2 (fun ht => by
    have := (isP_get (j := 2) hk0).1
    rw [ht.1] at this
    simp [notS] at this)
  unfold PassP tkV pP at hps
  unfold strA notS at hiy
  simp only [List.map_cons, List.map_nil] at hiy
  rw [hz1] at hiy
  have HF := Lib.hid (hf1.trans hf2)
  have HPX := Lib.hid (hpx.fr0 hf2)
  have HAX := Lib.hid (hax.fr0 hf2)
  have HBX := Lib.hid (hbx.fr0 hf2)
  rw [hw1] at hiy hps HF HPX HAX HBX
  have HIY := Lib.hid hiy
  have HPS := Lib.hid hps
  have HL := Lib.hid hL
  clear hiy hps hw1 hf1 hz1 hpx hbx hax h1 h2 hf2 h hk hk0 hb hl hm0 ha hL
  go_enter Tryz.func190, Tryz.ntmps190
  go_wp2_with fail
  refine HIY.out.mono ?_
  rintro _ wy ⟨rfl, rfl⟩
  go_wp2_with fail
  refine HPS.out.mono ?_
  rintro _ w5 ⟨rfl, hpa, hf⟩
  have hb5 := HBX.out.fr hf (fun e => by have e : w.heap.size + 1 = C.P := e; have := HL.out; omega)
  have ha5 := (HAX.out.fr hf (fun e => by have e : w.heap.size + 2 = C.P := e; have := HL.out; omega)).cell 0
  have q0 := hb5.cell 0
  have q1 := hb5.cell 1
  have q2 := hb5.cell 2
  have q3 := hb5.cell 3
  have g0 := hb5.frozen 0
  have g1 := hb5.frozen 1
  have g2 := hb5.frozen 2
  have g3 := hb5.frozen 3
  have hlt5 := hb5.lt
  simp only [List.getElem?_toArray, List.getElem?_cons_succ, List.getElem?_cons_zero] at q0 q1 q2 q3 ha5
  have HE := Lib.hid (show ∀ w9, w9 = ((((w5.setCell ⟨w.heap.size + 1, 0, none⟩ (.int .u8 1)).setCell ⟨w.heap.size + 1, 1, none⟩ (.slice none 0 0)).setCell ⟨w.heap.size + 1, 2, none⟩ (.slice none 0 0)).setCell ⟨w.heap.size + 1, 3, none⟩ (.int .i64 a)) → CdP C d (.ok ⟨1, .nil, .nil, a⟩ l.tail) w (.returned (cdV 1 none 0 0 none 0 0 a)) w9 from fun w9 h9 =>
    cleaf_fin HL.out (by unfold in8; omega) hat (by omega) hpa (HF.out.any.trans hf) w9 h9)
  clear hb5 hpa hf
  go_wp2_with fail
  exact bodyPost_ret (v := cdV 1 none 0 0 none 0 0 a) (by simp [results, Tryz.results190, go_sem, cdV, q0, q1, q2, q3, hlt5]) rfl (HE.out _ rfl)

set_option maxRecDepth 100000 in
set_option maxHeartbeats 1600000 in
theorem not_false (C : Pcx) (n : Nat) (l : List Tk) (d : Nat) (w : World) (hk : C.Ok) (h : PaAt C w l d) (hk0 : isP notS l = 3) :
    Calls Tryz.prog 190 #[.pointer (some ⟨C.P, 0, none⟩)] w (CdP C d (notP n l) w) := by
  rw [notP_f hk0]
  have hL := h.lts
  have hat := in64_at hk h
  obtain ⟨j, cap, m, hm0, hm1, hl, hmc, hcm, hb, p0, p1, f0, f1, t0, t1, t2, ltP, ltT⟩ := h.cells
  have hm2 : m ≤ 9223372036854775807 := by omega
  have hm3 : (0 : Int) < (m : Int) := by omega
  obtain ⟨a, ha⟩ : ∃ a : Int, a = (hdT l).at_ := ⟨_, rfl⟩
  rw [← ha] at t2 hat ⊢
  obtain ⟨w1, hw1⟩ : ∃ w1, w1 = ((w.alloc (.cells #[.pointer (some ⟨C.P, 0, none⟩)] 110)).alloc (.cells #[.int .u8 0, .slice none 0 0, .slice none 0 0, .int .i64 0] 119)).alloc (.cells #[.int .i64 a] 3) := ⟨_, rfl⟩
  obtain ⟨hf1, hz1, hpx, hbx, hax⟩ := not_boxes C a w w1 hw1
  have h1 := h.fr hf1 id id fun _ _ => id
  have h2 := h1.alloc (.cells #[.string ⟨#[33]⟩, .string ⟨#[91]⟩, .string ⟨#[116, 114, 117, 101]⟩, .string ⟨#[102, 97, 108, 115, 101]⟩] 9)
  have hf2 : Fr NoT w1 (w1.alloc (.cells #[.string ⟨#[33]⟩, .string ⟨#[91]⟩, .string ⟨#[116, 114, 117, 101]⟩, .string ⟨#[102, 97, 108, 115, 101]⟩] 9)) := (Fr.refl NoT w1).alloc _
  have hiy := is4_any C notS l d w1 h2 4 rfl (by decide)
  rw [hk0] at hiy
  have hps := pass_any C l d _ hk h2 (fun ht => by
    have := (isP_get (j := 3) hk0).1
    rw [ht.1] at this
    simp [notS] at this)
  unfold PassP tkV pP at hps
  unfold strA notS at hiy
  simp only [List.map_cons, List.map_nil] at hiy
  rw [hz1] at hiy
  have HF := Lib.hid (hf1.trans hf2)
  have HPX := Lib.hid (hpx.fr0 hf2)
  have HAX := Lib.hid (hax.fr0 hf2)
  have HBX := Lib.hid (hbx.fr0 hf2)
  rw [hw1] at hiy hps HF HPX HAX HBX
  have HIY := Lib.hid hiy
  have HPS := Lib.hid hps
  have HL := Lib.hid hL
  clear hiy hps hw1 hf1 hz1 hpx hbx hax h1 h2 hf2 h hk hk0 hb hl hm0 ha hL
  go_enter Tryz.func190, Tryz.ntmps190
  go_wp2_with fail
  refine HIY.out.mono ?_
  rintro _ wy ⟨rfl, rfl⟩
  go_wp2_with fail
  refine HPS.out.mono ?_
  rintro _ w5 ⟨rfl, hpa, hf⟩
  have hb5 := HBX.out.fr hf (fun e => by have e : w.heap.size + 1 = C.P := e; have := HL.out; omega)
  have ha5 := (HAX.out.fr hf (fun e => by have e : w.heap.size + 2 = C.P := e; have := HL.out; omega)).cell 0
  have q0 := hb5.cell 0
  have q1 := hb5.cell 1
  have q2 := hb5.cell 2
  have q3 := hb5.cell 3
  have g0 := hb5.frozen 0
  have g1 := hb5.frozen 1
  have g2 := hb5.frozen 2
  have g3 := hb5.frozen 3
  have hlt5 := hb5.lt
  simp only [List.getElem?_toArray, List.getElem?_cons_succ, List.getElem?_cons_zero] at q0 q1 q2 q3 ha5
  have HE := Lib.hid (show ∀ w9, w9 = ((((w5.setCell ⟨w.heap.size + 1, 0, none⟩ (.int .u8 2)).setCell ⟨w.heap.size + 1, 1, none⟩ (.slice none 0 0)).setCell ⟨w.heap.size + 1, 2, none⟩ (.slice none 0 0)).setCell ⟨w.heap.size + 1, 3, none⟩ (.int .i64 a)) → CdP C d (.ok ⟨2, .nil, .nil, a⟩ l.tail) w (.returned (cdV 2 none 0 0 none 0 0 a)) w9 from fun w9 h9 =>
    cleaf_fin HL.out (by unfold in8; omega) hat (by omega) hpa (HF.out.any.trans hf) w9 h9)
  clear hb5 hpa hf
  go_wp2_with fail
  exact bodyPost_ret (v := cdV 2 none 0 0 none 0 0 a) (by simp [results, Tryz.results190, go_sem, cdV, q0, q1, q2, q3, hlt5]) rfl (HE.out _ rfl)
end Go.Proofs.YtfkdbifnhgadaaaGreatDoor
