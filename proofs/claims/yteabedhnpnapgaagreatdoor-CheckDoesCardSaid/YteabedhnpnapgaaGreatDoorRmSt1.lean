/-
  ref10.mayStmt, kinds 1, 2, 3.
-/
import Derived.Test.YteabedhnpnapgaaGreatDoorJnRm
import Derived.Test.YteabedhnpnapgaaGreatDoorJnCkB
namespace Go.Proofs.YteabedhnpnapgaaGreatDoor
open Go.RowKit Go.Shelf
set_option linter.unusedVariables false
set_option linter.unusedSimpArgs false

set_option maxRecDepth 100000 in
set_option maxHeartbeats 6400000 in
theorem mst_k1 (nm : ByteArray) (args : Exs) (cond : Cds) (body els : Sts) (at_ : Int) (w : World) (S : Nat → Prop) (Z : Prop) (A2 A3 A4 A5 : Option Addr) (q2 q3 q4 q5 : Nat) (hs : nm.size ≤ 9223372036854775807) (hS : ∀ b, S b → b < w.heap.size) (hz1 : szX args) (hz2 : szC cond)
    (hx : SlR (fun b o => ExR w S Z args b o) args.len 64 A2 q2) (hy : SlR (fun b o => CdR w S Z cond b o) cond.len 64 A3 q3) (hl4 : body.len ≤ 9223372036854775807) (hl5 : els.len ≤ 9223372036854775807)
    (h4 : ∀ W, Fr NoT w W → Calls Tryz.prog 45 #[.slice A4 body.len q4] W (EqPost (okS body) W)) (h5 : ∀ W, Fr NoT w W → Calls Tryz.prog 45 #[.slice A5 els.len q5] W (EqPost (okS els) W)) :
    Calls Tryz.prog 73 #[.agg #[.int .u8 1, .string nm, .slice A2 args.len q2, .slice A3 cond.len q3, .slice A4 body.len q4, .slice A5 els.len q5, .int .i64 at_]] w (EqPost (okT 1 nm args cond body els at_) w) := by
  have hl2 : args.len ≤ 9223372036854775807 := Nat.le_trans hx.1 hx.2.1.1
  have hl3 : cond.len ≤ 9223372036854775807 := Nat.le_trans hy.1 hy.2.1.1
  obtain ⟨R, hR⟩ : ∃ R, R = okT 1 nm args cond body els at_ := ⟨_, rfl⟩
  rw [← hR]
  have hnd : nameB nm.data.toList = true → (nm.toList == []) = false := nmd_no
  have hR : R = (((nm.toList == [])) && ((args.len : Int) == 0) && ((cond.len : Int) == 0) && (body.len == 0) && (els.len == 0) && okX args && okC cond && okS body && okS els) := hR.trans (by rfl)
  have hmx := fun (W : World) (hf : Fr NoT w W) => mexprs_any args W S Z A2 q2 0 (fun b h => Nat.lt_of_lt_of_le (hS b h) hf.size) hz1 (hx.imp fun _ _ hx => ExR.keep (hf.same fun b hb => ⟨hS b hb, id⟩) hx)
  obtain ⟨l, hl⟩ : ∃ l, l = args.len := ⟨_, rfl⟩
  obtain ⟨lc, hlc⟩ : ∃ l, l = cond.len := ⟨_, rfl⟩
  obtain ⟨lb, hlb⟩ : ∃ l, l = body.len := ⟨_, rfl⟩
  obtain ⟨le, hle⟩ : ∃ l, l = els.len := ⟨_, rfl⟩
  obtain ⟨q, hq⟩ : ∃ q, q = nameB nm.data.toList := ⟨_, rfl⟩
  obtain ⟨b, hb⟩ : ∃ b, b = (nm.toList == []) := ⟨_, rfl⟩
  obtain ⟨u, hu⟩ : ∃ u, u = okC cond := ⟨_, rfl⟩
  obtain ⟨x4, hx4⟩ : ∃ u, u = okS body := ⟨_, rfl⟩
  obtain ⟨x5, hx5⟩ : ∃ u, u = okS els := ⟨_, rfl⟩
  have hnm := fun (W : World) => rname_any nm hs W
  rw [← hl] at hl2 hmx
  rw [← hlc] at hl3
  rw [← hlb] at hl4 h4
  rw [← hle] at hl5 h5
  rw [← hq] at hnm hnd
  rw [← hb] at hnd
  rw [← hx4] at h4
  rw [← hx5] at h5
  obtain ⟨v1, hv1⟩ : ∃ v, v = (((l : Int) == 0) && okX args) := ⟨_, rfl⟩
  rw [← hv1] at hmx
  have hR2 : R = (b && v1 && ((lc : Int) == 0) && u && (lb == 0) && (le == 0) && x4 && x5) := by
    rw [hR, hv1, ← hl, ← hlc, ← hlb, ← hle, ← hu, ← hx4, ← hx5, ← hb]
    ac_rfl
  rw [← hl, ← hlc, ← hlb, ← hle]
  have HR := Lib.hid hR2
  have HNM := Lib.hid hnm
  have HMV := Lib.hid hmx
  have H4 := Lib.hid h4
  have H5 := Lib.hid h5
  have HQ := Lib.hid hnd
  have HLC := Lib.hid hlc
  have HU := Lib.hid hu
  have HS := Lib.hid hS
  have eb : (nm.toList == []) = b := hb.symm
  have eb2 : (nm.toList != []) = !b := by rw [hb]; rfl
  have hf1 : Fr NoT w (w.alloc (.cells #[.int .u8 1, .string nm, .slice A2 l q2, .slice A3 lc q3, .slice A4 lb q4, .slice A5 le q5, .int .i64 at_] 72)) := (Fr.refl _ _).alloc _
  have HF1 := Lib.hid hf1
  have HB1 := Lib.hid (Bk.new w 72 #[.int .u8 1, .string nm, .slice A2 l q2, .slice A3 lc q3, .slice A4 lb q4, .slice A5 le q5, .int .i64 at_])
  clear hf1 hR hR2 hmx h4 h5 hnd hlc hlb hle hl hu hS hb hnm hx hy hz1 hz2 hs hq hx4 hx5 hv1
  go_enter Tryz.func73, Tryz.ntmps73
  go_wp2_with fail
  refine (HNM.out _).mono ?_
  rintro _ w2 ⟨rfl, hb0⟩
  have hb := Fr.below (T := NoT) hb0
  have hk2 := HB1.out.fr0 hb
  have HF2 := Lib.hid (HF1.out.trans hb)
  have c0 := hk2.cell 0
  have c2 := hk2.cell 2
  have c1 := hk2.cell 1
  have c3 := hk2.cell 3
  have c4 := hk2.cell 4
  have c5 := hk2.cell 5
  have hl1 := hk2.lt
  simp only [List.getElem?_toArray, List.getElem?_cons_succ, List.getElem?_cons_zero] at c0 c1 c2 c3 c4 c5
  have HB2 := Lib.hid hk2
  clear hb hk2
  clear hb0
  have hqb : q = true ∨ (q = false ∧ b = false) ∨ (q = false ∧ b = true) := by cases q <;> cases b <;> simp
  rcases hqb with rfl | ⟨rfl, rfl⟩ | ⟨rfl, rfl⟩
  · have hbf := HQ.out rfl
    subst hbf
    have HF := Lib.hid (show R = false from by rw [HR.out]; simp)
    clear HR
    go_wp2_with fail
    go_ret
    exact ⟨by rw [HF.out]; rfl, HF2.out⟩
  · have HF := Lib.hid (show R = false from by rw [HR.out]; simp)
    clear HR
    go_wp2_with fail
    go_ret
    exact ⟨by rw [HF.out]; rfl, HF2.out⟩
  go_wp2_with fail
  refine (HMV.out _ HF2.out).mono ?_
  rintro _ w3 ⟨rfl, hb⟩
  clear c0 c1 c2 c3 c4 c5 hl1
  have hk3 := HB2.out.fr0 hb
  have HF3 := Lib.hid (HF2.out.trans hb)
  have c0 := hk3.cell 0
  have c2 := hk3.cell 2
  have c1 := hk3.cell 1
  have c3 := hk3.cell 3
  have c4 := hk3.cell 4
  have c5 := hk3.cell 5
  have hl1 := hk3.lt
  simp only [List.getElem?_toArray, List.getElem?_cons_succ, List.getElem?_cons_zero] at c0 c1 c2 c3 c4 c5
  have HB3 := Lib.hid hk3
  clear hb hk3
  cases v1
  · have HF := Lib.hid (show R = false from by rw [HR.out]; simp)
    clear HR
    go_wp2_with fail
    go_ret
    exact ⟨by rw [HF.out]; rfl, HF3.out⟩
  have hcc : lc = 0 ∨ lc = 1 ∨ (lc ≠ 0 ∧ lc ≠ 1) := by omega
  rcases hcc with rfl | rfl | ⟨n0, n1⟩
  rotate_left
  · have HF := Lib.hid (show R = false from by rw [HR.out]; simp)
    clear HR
    go_wp2_with fail
    go_ret
    exact ⟨by rw [HF.out]; rfl, HF3.out⟩
  · have e1 : ((lc : Int) == 1) = false := by simp; omega
    have e2 : ((lc : Int) != 0) = true := by simp; omega
    have HF := Lib.hid (show R = false from by rw [HR.out, show ((lc : Int) == 0) = false from by simp; omega]; simp)
    clear HR
    go_wp2_with fail
    go_ret
    exact ⟨by rw [HF.out]; rfl, HF3.out⟩
  have hu1 : u = true := by
    rw [HU.out]
    have := HLC.out
    cases cond with
    | nil => rfl
    | cons _ _ _ _ _ => simp [Cds.len] at this
  subst hu1
  by_cases hcb : lb = 0
  rotate_left
  · have e1 : decide ((0 : Int) < (lb : Int)) = true := by simp; omega
    have HF := Lib.hid (show R = false from by rw [HR.out, show (lb == 0) = false from by simpa using hcb]; simp)
    clear HR
    go_wp2_with fail
    go_ret
    exact ⟨by rw [HF.out]; rfl, HF3.out⟩
  subst hcb
  by_cases hce : le = 0
  rotate_left
  · have e2 : decide ((0 : Int) < (le : Int)) = true := by simp; omega
    have HF := Lib.hid (show R = false from by rw [HR.out, show (le == 0) = false from by simpa using hce]; simp)
    clear HR
    go_wp2_with fail
    go_ret
    exact ⟨by rw [HF.out]; rfl, HF3.out⟩
  subst hce
  go_wp2_with fail
  refine (H4.out _ HF3.out).mono ?_
  rintro _ w8 ⟨rfl, hb⟩
  clear c0 c1 c2 c3 c4 c5 hl1
  have hk8 := HB3.out.fr0 hb
  have HF8 := Lib.hid (HF3.out.trans hb)
  have c0 := hk8.cell 0
  have c2 := hk8.cell 2
  have c1 := hk8.cell 1
  have c3 := hk8.cell 3
  have c4 := hk8.cell 4
  have c5 := hk8.cell 5
  have hl1 := hk8.lt
  simp only [List.getElem?_toArray, List.getElem?_cons_succ, List.getElem?_cons_zero] at c0 c1 c2 c3 c4 c5
  have HB8 := Lib.hid hk8
  clear hb hk8
  cases x4
  · have HF := Lib.hid (show R = false from by rw [HR.out]; simp)
    clear HR
    go_wp2_with fail
    go_ret
    exact ⟨by rw [HF.out]; rfl, HF8.out⟩
  go_wp2_with fail
  refine (H5.out _ HF8.out).mono ?_
  rintro _ w9 ⟨rfl, hb⟩
  have HF9 := Lib.hid (HF8.out.trans hb)
  clear hb
  have HF := Lib.hid (show R = x5 from by rw [HR.out]; simp)
  clear HR
  go_wp2_with fail
  go_ret
  exact ⟨by rw [HF.out]; rfl, HF9.out⟩
set_option maxRecDepth 100000 in
set_option maxHeartbeats 6400000 in
theorem mst_k2 (nm : ByteArray) (args : Exs) (cond : Cds) (body els : Sts) (at_ : Int) (w : World) (S : Nat → Prop) (Z : Prop) (A2 A3 A4 A5 : Option Addr) (q2 q3 q4 q5 : Nat) (hs : nm.size ≤ 9223372036854775807) (hS : ∀ b, S b → b < w.heap.size) (hz1 : szX args) (hz2 : szC cond)
    (hx : SlR (fun b o => ExR w S Z args b o) args.len 64 A2 q2) (hy : SlR (fun b o => CdR w S Z cond b o) cond.len 64 A3 q3) (hl4 : body.len ≤ 9223372036854775807) (hl5 : els.len ≤ 9223372036854775807)
    (h4 : ∀ W, Fr NoT w W → Calls Tryz.prog 45 #[.slice A4 body.len q4] W (EqPost (okS body) W)) (h5 : ∀ W, Fr NoT w W → Calls Tryz.prog 45 #[.slice A5 els.len q5] W (EqPost (okS els) W)) :
    Calls Tryz.prog 73 #[.agg #[.int .u8 2, .string nm, .slice A2 args.len q2, .slice A3 cond.len q3, .slice A4 body.len q4, .slice A5 els.len q5, .int .i64 at_]] w (EqPost (okT 2 nm args cond body els at_) w) := by
  have hl2 : args.len ≤ 9223372036854775807 := Nat.le_trans hx.1 hx.2.1.1
  have hl3 : cond.len ≤ 9223372036854775807 := Nat.le_trans hy.1 hy.2.1.1
  obtain ⟨R, hR⟩ : ∃ R, R = okT 2 nm args cond body els at_ := ⟨_, rfl⟩
  rw [← hR]
  have hnd : nameB nm.data.toList = true → (nm.toList == []) = false := nmd_no
  have hR : R = ((nameB nm.data.toList) && ((args.len : Int) == 1) && ((cond.len : Int) == 0) && (body.len == 0) && (els.len == 0) && okX args && okC cond && okS body && okS els) := hR.trans (by rfl)
  have hmx := fun (W : World) (hf : Fr NoT w W) => mexprs_any args W S Z A2 q2 1 (fun b h => Nat.lt_of_lt_of_le (hS b h) hf.size) hz1 (hx.imp fun _ _ hx => ExR.keep (hf.same fun b hb => ⟨hS b hb, id⟩) hx)
  obtain ⟨l, hl⟩ : ∃ l, l = args.len := ⟨_, rfl⟩
  obtain ⟨lc, hlc⟩ : ∃ l, l = cond.len := ⟨_, rfl⟩
  obtain ⟨lb, hlb⟩ : ∃ l, l = body.len := ⟨_, rfl⟩
  obtain ⟨le, hle⟩ : ∃ l, l = els.len := ⟨_, rfl⟩
  obtain ⟨q, hq⟩ : ∃ q, q = nameB nm.data.toList := ⟨_, rfl⟩
  obtain ⟨b, hb⟩ : ∃ b, b = (nm.toList == []) := ⟨_, rfl⟩
  obtain ⟨u, hu⟩ : ∃ u, u = okC cond := ⟨_, rfl⟩
  obtain ⟨x4, hx4⟩ : ∃ u, u = okS body := ⟨_, rfl⟩
  obtain ⟨x5, hx5⟩ : ∃ u, u = okS els := ⟨_, rfl⟩
  have hnm := fun (W : World) => rname_any nm hs W
  rw [← hl] at hl2 hmx
  rw [← hlc] at hl3
  rw [← hlb] at hl4 h4
  rw [← hle] at hl5 h5
  rw [← hq] at hnm hnd
  rw [← hb] at hnd
  rw [← hx4] at h4
  rw [← hx5] at h5
  obtain ⟨v1, hv1⟩ : ∃ v, v = (((l : Int) == 1) && okX args) := ⟨_, rfl⟩
  rw [← hv1] at hmx
  have hR2 : R = (q && v1 && ((lc : Int) == 0) && u && (lb == 0) && (le == 0) && x4 && x5) := by
    rw [hR, hv1, ← hl, ← hlc, ← hlb, ← hle, ← hu, ← hx4, ← hx5, ← hq]
    ac_rfl
  rw [← hl, ← hlc, ← hlb, ← hle]
  have HR := Lib.hid hR2
  have HNM := Lib.hid hnm
  have HMV := Lib.hid hmx
  have H4 := Lib.hid h4
  have H5 := Lib.hid h5
  have HQ := Lib.hid hnd
  have HLC := Lib.hid hlc
  have HU := Lib.hid hu
  have HS := Lib.hid hS
  have eb : (nm.toList == []) = b := hb.symm
  have eb2 : (nm.toList != []) = !b := by rw [hb]; rfl
  have hf1 : Fr NoT w (w.alloc (.cells #[.int .u8 2, .string nm, .slice A2 l q2, .slice A3 lc q3, .slice A4 lb q4, .slice A5 le q5, .int .i64 at_] 72)) := (Fr.refl _ _).alloc _
  have HF1 := Lib.hid hf1
  have HB1 := Lib.hid (Bk.new w 72 #[.int .u8 2, .string nm, .slice A2 l q2, .slice A3 lc q3, .slice A4 lb q4, .slice A5 le q5, .int .i64 at_])
  clear hf1 hR hR2 hmx h4 h5 hnd hlc hlb hle hl hu hS hb hnm hx hy hz1 hz2 hs hq hx4 hx5 hv1
  go_enter Tryz.func73, Tryz.ntmps73
  go_wp2_with fail
  refine (HNM.out _).mono ?_
  rintro _ w2 ⟨rfl, hb0⟩
  have hb := Fr.below (T := NoT) hb0
  have hk2 := HB1.out.fr0 hb
  have HF2 := Lib.hid (HF1.out.trans hb)
  have c0 := hk2.cell 0
  have c2 := hk2.cell 2
  have c1 := hk2.cell 1
  have c3 := hk2.cell 3
  have c4 := hk2.cell 4
  have c5 := hk2.cell 5
  have hl1 := hk2.lt
  simp only [List.getElem?_toArray, List.getElem?_cons_succ, List.getElem?_cons_zero] at c0 c1 c2 c3 c4 c5
  have HB2 := Lib.hid hk2
  clear hb hk2
  clear hb0
  cases q
  · have HF := Lib.hid (show R = false from by rw [HR.out]; simp)
    clear HR
    go_wp2_with fail
    go_ret
    exact ⟨by rw [HF.out]; rfl, HF2.out⟩
  go_wp2_with fail
  refine (HMV.out _ HF2.out).mono ?_
  rintro _ w3 ⟨rfl, hb⟩
  clear c0 c1 c2 c3 c4 c5 hl1
  have hk3 := HB2.out.fr0 hb
  have HF3 := Lib.hid (HF2.out.trans hb)
  have c0 := hk3.cell 0
  have c2 := hk3.cell 2
  have c1 := hk3.cell 1
  have c3 := hk3.cell 3
  have c4 := hk3.cell 4
  have c5 := hk3.cell 5
  have hl1 := hk3.lt
  simp only [List.getElem?_toArray, List.getElem?_cons_succ, List.getElem?_cons_zero] at c0 c1 c2 c3 c4 c5
  have HB3 := Lib.hid hk3
  clear hb hk3
  cases v1
  · have HF := Lib.hid (show R = false from by rw [HR.out]; simp)
    clear HR
    go_wp2_with fail
    go_ret
    exact ⟨by rw [HF.out]; rfl, HF3.out⟩
  have hcc : lc = 0 ∨ lc = 1 ∨ (lc ≠ 0 ∧ lc ≠ 1) := by omega
  rcases hcc with rfl | rfl | ⟨n0, n1⟩
  rotate_left
  · have HF := Lib.hid (show R = false from by rw [HR.out]; simp)
    clear HR
    go_wp2_with fail
    go_ret
    exact ⟨by rw [HF.out]; rfl, HF3.out⟩
  · have e1 : ((lc : Int) == 1) = false := by simp; omega
    have e2 : ((lc : Int) != 0) = true := by simp; omega
    have HF := Lib.hid (show R = false from by rw [HR.out, show ((lc : Int) == 0) = false from by simp; omega]; simp)
    clear HR
    go_wp2_with fail
    go_ret
    exact ⟨by rw [HF.out]; rfl, HF3.out⟩
  have hu1 : u = true := by
    rw [HU.out]
    have := HLC.out
    cases cond with
    | nil => rfl
    | cons _ _ _ _ _ => simp [Cds.len] at this
  subst hu1
  by_cases hcb : lb = 0
  rotate_left
  · have e1 : decide ((0 : Int) < (lb : Int)) = true := by simp; omega
    have HF := Lib.hid (show R = false from by rw [HR.out, show (lb == 0) = false from by simpa using hcb]; simp)
    clear HR
    go_wp2_with fail
    go_ret
    exact ⟨by rw [HF.out]; rfl, HF3.out⟩
  subst hcb
  by_cases hce : le = 0
  rotate_left
  · have e2 : decide ((0 : Int) < (le : Int)) = true := by simp; omega
    have HF := Lib.hid (show R = false from by rw [HR.out, show (le == 0) = false from by simpa using hce]; simp)
    clear HR
    go_wp2_with fail
    go_ret
    exact ⟨by rw [HF.out]; rfl, HF3.out⟩
  subst hce
  go_wp2_with fail
  refine (H4.out _ HF3.out).mono ?_
  rintro _ w8 ⟨rfl, hb⟩
  clear c0 c1 c2 c3 c4 c5 hl1
  have hk8 := HB3.out.fr0 hb
  have HF8 := Lib.hid (HF3.out.trans hb)
  have c0 := hk8.cell 0
  have c2 := hk8.cell 2
  have c1 := hk8.cell 1
  have c3 := hk8.cell 3
  have c4 := hk8.cell 4
  have c5 := hk8.cell 5
  have hl1 := hk8.lt
  simp only [List.getElem?_toArray, List.getElem?_cons_succ, List.getElem?_cons_zero] at c0 c1 c2 c3 c4 c5
  have HB8 := Lib.hid hk8
  clear hb hk8
  cases x4
  · have HF := Lib.hid (show R = false from by rw [HR.out]; simp)
    clear HR
    go_wp2_with fail
    go_ret
    exact ⟨by rw [HF.out]; rfl, HF8.out⟩
  go_wp2_with fail
  refine (H5.out _ HF8.out).mono ?_
  rintro _ w9 ⟨rfl, hb⟩
  have HF9 := Lib.hid (HF8.out.trans hb)
  clear hb
  have HF := Lib.hid (show R = x5 from by rw [HR.out]; simp)
  clear HR
  go_wp2_with fail
  go_ret
  exact ⟨by rw [HF.out]; rfl, HF9.out⟩
set_option maxRecDepth 100000 in
set_option maxHeartbeats 6400000 in
theorem mst_k3 (nm : ByteArray) (args : Exs) (cond : Cds) (body els : Sts) (at_ : Int) (w : World) (S : Nat → Prop) (Z : Prop) (A2 A3 A4 A5 : Option Addr) (q2 q3 q4 q5 : Nat) (hs : nm.size ≤ 9223372036854775807) (hS : ∀ b, S b → b < w.heap.size) (hz1 : szX args) (hz2 : szC cond)
    (hx : SlR (fun b o => ExR w S Z args b o) args.len 64 A2 q2) (hy : SlR (fun b o => CdR w S Z cond b o) cond.len 64 A3 q3) (hl4 : body.len ≤ 9223372036854775807) (hl5 : els.len ≤ 9223372036854775807)
    (h4 : ∀ W, Fr NoT w W → Calls Tryz.prog 45 #[.slice A4 body.len q4] W (EqPost (okS body) W)) (h5 : ∀ W, Fr NoT w W → Calls Tryz.prog 45 #[.slice A5 els.len q5] W (EqPost (okS els) W)) :
    Calls Tryz.prog 73 #[.agg #[.int .u8 3, .string nm, .slice A2 args.len q2, .slice A3 cond.len q3, .slice A4 body.len q4, .slice A5 els.len q5, .int .i64 at_]] w (EqPost (okT 3 nm args cond body els at_) w) := by
  have hl2 : args.len ≤ 9223372036854775807 := Nat.le_trans hx.1 hx.2.1.1
  have hl3 : cond.len ≤ 9223372036854775807 := Nat.le_trans hy.1 hy.2.1.1
  obtain ⟨R, hR⟩ : ∃ R, R = okT 3 nm args cond body els at_ := ⟨_, rfl⟩
  rw [← hR]
  have hnd : nameB nm.data.toList = true → (nm.toList == []) = false := nmd_no
  have hR : R = ((nameB nm.data.toList) && ((args.len : Int) == 2) && ((cond.len : Int) == 0) && (body.len == 0) && (els.len == 0) && okX args && okC cond && okS body && okS els) := hR.trans (by rfl)
  have hmx := fun (W : World) (hf : Fr NoT w W) => mexprs_any args W S Z A2 q2 2 (fun b h => Nat.lt_of_lt_of_le (hS b h) hf.size) hz1 (hx.imp fun _ _ hx => ExR.keep (hf.same fun b hb => ⟨hS b hb, id⟩) hx)
  obtain ⟨l, hl⟩ : ∃ l, l = args.len := ⟨_, rfl⟩
  obtain ⟨lc, hlc⟩ : ∃ l, l = cond.len := ⟨_, rfl⟩
  obtain ⟨lb, hlb⟩ : ∃ l, l = body.len := ⟨_, rfl⟩
  obtain ⟨le, hle⟩ : ∃ l, l = els.len := ⟨_, rfl⟩
  obtain ⟨q, hq⟩ : ∃ q, q = nameB nm.data.toList := ⟨_, rfl⟩
  obtain ⟨b, hb⟩ : ∃ b, b = (nm.toList == []) := ⟨_, rfl⟩
  obtain ⟨u, hu⟩ : ∃ u, u = okC cond := ⟨_, rfl⟩
  obtain ⟨x4, hx4⟩ : ∃ u, u = okS body := ⟨_, rfl⟩
  obtain ⟨x5, hx5⟩ : ∃ u, u = okS els := ⟨_, rfl⟩
  have hnm := fun (W : World) => rname_any nm hs W
  rw [← hl] at hl2 hmx
  rw [← hlc] at hl3
  rw [← hlb] at hl4 h4
  rw [← hle] at hl5 h5
  rw [← hq] at hnm hnd
  rw [← hb] at hnd
  rw [← hx4] at h4
  rw [← hx5] at h5
  obtain ⟨v1, hv1⟩ : ∃ v, v = (((l : Int) == 2) && okX args) := ⟨_, rfl⟩
  rw [← hv1] at hmx
  have hR2 : R = (q && v1 && ((lc : Int) == 0) && u && (lb == 0) && (le == 0) && x4 && x5) := by
    rw [hR, hv1, ← hl, ← hlc, ← hlb, ← hle, ← hu, ← hx4, ← hx5, ← hq]
    ac_rfl
  rw [← hl, ← hlc, ← hlb, ← hle]
  have HR := Lib.hid hR2
  have HNM := Lib.hid hnm
  have HMV := Lib.hid hmx
  have H4 := Lib.hid h4
  have H5 := Lib.hid h5
  have HQ := Lib.hid hnd
  have HLC := Lib.hid hlc
  have HU := Lib.hid hu
  have HS := Lib.hid hS
  have eb : (nm.toList == []) = b := hb.symm
  have eb2 : (nm.toList != []) = !b := by rw [hb]; rfl
  have hf1 : Fr NoT w (w.alloc (.cells #[.int .u8 3, .string nm, .slice A2 l q2, .slice A3 lc q3, .slice A4 lb q4, .slice A5 le q5, .int .i64 at_] 72)) := (Fr.refl _ _).alloc _
  have HF1 := Lib.hid hf1
  have HB1 := Lib.hid (Bk.new w 72 #[.int .u8 3, .string nm, .slice A2 l q2, .slice A3 lc q3, .slice A4 lb q4, .slice A5 le q5, .int .i64 at_])
  clear hf1 hR hR2 hmx h4 h5 hnd hlc hlb hle hl hu hS hb hnm hx hy hz1 hz2 hs hq hx4 hx5 hv1
  go_enter Tryz.func73, Tryz.ntmps73
  go_wp2_with fail
  refine (HNM.out _).mono ?_
  rintro _ w2 ⟨rfl, hb0⟩
  have hb := Fr.below (T := NoT) hb0
  have hk2 := HB1.out.fr0 hb
  have HF2 := Lib.hid (HF1.out.trans hb)
  have c0 := hk2.cell 0
  have c2 := hk2.cell 2
  have c1 := hk2.cell 1
  have c3 := hk2.cell 3
  have c4 := hk2.cell 4
  have c5 := hk2.cell 5
  have hl1 := hk2.lt
  simp only [List.getElem?_toArray, List.getElem?_cons_succ, List.getElem?_cons_zero] at c0 c1 c2 c3 c4 c5
  have HB2 := Lib.hid hk2
  clear hb hk2
  clear hb0
  cases q
  · have HF := Lib.hid (show R = false from by rw [HR.out]; simp)
    clear HR
    go_wp2_with fail
    go_ret
    exact ⟨by rw [HF.out]; rfl, HF2.out⟩
  go_wp2_with fail
  refine (HMV.out _ HF2.out).mono ?_
  rintro _ w3 ⟨rfl, hb⟩
  clear c0 c1 c2 c3 c4 c5 hl1
  have hk3 := HB2.out.fr0 hb
  have HF3 := Lib.hid (HF2.out.trans hb)
  have c0 := hk3.cell 0
  have c2 := hk3.cell 2
  have c1 := hk3.cell 1
  have c3 := hk3.cell 3
  have c4 := hk3.cell 4
  have c5 := hk3.cell 5
  have hl1 := hk3.lt
  simp only [List.getElem?_toArray, List.getElem?_cons_succ, List.getElem?_cons_zero] at c0 c1 c2 c3 c4 c5
  have HB3 := Lib.hid hk3
  clear hb hk3
  cases v1
  · have HF := Lib.hid (show R = false from by rw [HR.out]; simp)
    clear HR
    go_wp2_with fail
    go_ret
    exact ⟨by rw [HF.out]; rfl, HF3.out⟩
  have hcc : lc = 0 ∨ lc = 1 ∨ (lc ≠ 0 ∧ lc ≠ 1) := by omega
  rcases hcc with rfl | rfl | ⟨n0, n1⟩
  rotate_left
  · have HF := Lib.hid (show R = false from by rw [HR.out]; simp)
    clear HR
    go_wp2_with fail
    go_ret
    exact ⟨by rw [HF.out]; rfl, HF3.out⟩
  · have e1 : ((lc : Int) == 1) = false := by simp; omega
    have e2 : ((lc : Int) != 0) = true := by simp; omega
    have HF := Lib.hid (show R = false from by rw [HR.out, show ((lc : Int) == 0) = false from by simp; omega]; simp)
    clear HR
    go_wp2_with fail
    go_ret
    exact ⟨by rw [HF.out]; rfl, HF3.out⟩
  have hu1 : u = true := by
    rw [HU.out]
    have := HLC.out
    cases cond with
    | nil => rfl
    | cons _ _ _ _ _ => simp [Cds.len] at this
  subst hu1
  by_cases hcb : lb = 0
  rotate_left
  · have e1 : decide ((0 : Int) < (lb : Int)) = true := by simp; omega
    have HF := Lib.hid (show R = false from by rw [HR.out, show (lb == 0) = false from by simpa using hcb]; simp)
    clear HR
    go_wp2_with fail
    go_ret
    exact ⟨by rw [HF.out]; rfl, HF3.out⟩
  subst hcb
  by_cases hce : le = 0
  rotate_left
  · have e2 : decide ((0 : Int) < (le : Int)) = true := by simp; omega
    have HF := Lib.hid (show R = false from by rw [HR.out, show (le == 0) = false from by simpa using hce]; simp)
    clear HR
    go_wp2_with fail
    go_ret
    exact ⟨by rw [HF.out]; rfl, HF3.out⟩
  subst hce
  go_wp2_with fail
  refine (H4.out _ HF3.out).mono ?_
  rintro _ w8 ⟨rfl, hb⟩
  clear c0 c1 c2 c3 c4 c5 hl1
  have hk8 := HB3.out.fr0 hb
  have HF8 := Lib.hid (HF3.out.trans hb)
  have c0 := hk8.cell 0
  have c2 := hk8.cell 2
  have c1 := hk8.cell 1
  have c3 := hk8.cell 3
  have c4 := hk8.cell 4
  have c5 := hk8.cell 5
  have hl1 := hk8.lt
  simp only [List.getElem?_toArray, List.getElem?_cons_succ, List.getElem?_cons_zero] at c0 c1 c2 c3 c4 c5
  have HB8 := Lib.hid hk8
  clear hb hk8
  cases x4
  · have HF := Lib.hid (show R = false from by rw [HR.out]; simp)
    clear HR
    go_wp2_with fail
    go_ret
    exact ⟨by rw [HF.out]; rfl, HF8.out⟩
  go_wp2_with fail
  refine (H5.out _ HF8.out).mono ?_
  rintro _ w9 ⟨rfl, hb⟩
  have HF9 := Lib.hid (HF8.out.trans hb)
  clear hb
  have HF := Lib.hid (show R = x5 from by rw [HR.out]; simp)
  clear HR
  go_wp2_with fail
  go_ret
  exact ⟨by rw [HF.out]; rfl, HF9.out⟩
end Go.Proofs.YteabedhnpnapgaaGreatDoor
