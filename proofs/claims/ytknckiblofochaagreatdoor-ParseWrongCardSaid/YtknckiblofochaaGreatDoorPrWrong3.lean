/-
  law09.ParseWrong: the way by error 91; the cut text's error 0.
-/
import Derived.Test.YtknckiblofochaaGreatDoorPrWrongB
namespace Go.Proofs.YtknckiblofochaaGreatDoor
open Go.RowKit Go.Shelf
set_option linter.unusedVariables false
set_option linter.unusedSimpArgs false

set_option maxRecDepth 100000 in
set_option maxHeartbeats 3200000 in
theorem pwrong_3 (s o tx : ByteArray) (w : World) (p : Nat) (a b c : Tre) (pb : Int) (em : Int) (m : List Tk) (pm : Nat) (x : Tk) (l : List Tk) (hs : s.size ≤ 4096) (ho : o.size ≤ 4096) (hps : p < s.size) (htz : tx.size ≤ 4096) (htx : tx = ⟨x.text.toArray⟩) (hll : (x :: l).length ≤ 4096) (hml : em = 0 → m.length ≤ 4096) (hm0 : a.main.len = 0)
    (h1 : Calls Tryz.prog 27 #[] w (TruePost w)) (h4 : ∀ W, Fr NoT w W → Calls Tryz.prog 26 #[.string s] W (ParsP (a, (p : Int), 91) W)) (h5 : ∀ W, Fr NoT w W → Calls Tryz.prog 26 #[.string (s.extract 0 p)] W (ParsP (b, pb, 0) W))
    (h6 : ∀ W, Fr NoT w W → Calls Tryz.prog 29 #[.string (s.extract p s.size)] W (TokPost (x :: l, 0, 0) W)) (h7 : ∀ W, Fr NoT w W → Calls Tryz.prog 29 #[.string o] W (TokPost (m, pm, em) W))
    (h8 : em = 0 → p + tx.size + 1 + o.size ≤ 4096 → ∀ W, Fr NoT w W → Calls Tryz.prog 26 #[.string (s.extract 0 p ++ tx ++ ⟨#[32]⟩ ++ o)] W (ParsP (c, (p : Int), 91) W)) :
    Calls Tryz.prog 8 #[.string s, .string o] w (TruePost w) := by
  have H1 := Lib.hid h1
  have H4 := Lib.hid h4
  have H5 := Lib.hid h5
  have H6 := Lib.hid h6
  have H7 := Lib.hid h7
  have H8 := Lib.hid h8
  have HTX := Lib.hid htx
  have HLL := Lib.hid hll
  have HML := Lib.hid hml
  have HM0 := Lib.hid hm0
  have HTZ := Lib.hid htz
  have e1 : decide ((4096 : Int) < s.size) = false := by simp; omega
  have e2 : decide ((4096 : Int) < o.size) = false := by simp; omega
  have e4 : decide ((p : Int) < 0) = false := by simp
  have e5 : decide ((s.size : Int) < p) = false := by simp; omega
  have e6 : decide ((s.size : Int) ≤ p) = false := by simp; omega
  clear h1 h4 h5 h6 h7 h8 htx hll hml hm0 htz
  go_enter Tryz.func8, Tryz.ntmps8
  go_wp2_with fail
  refine H1.out.mono ?_
  rintro _ w1 ⟨rfl, hb⟩
  have HF1 := Lib.hid (show Fr NoT w w1 from Fr.below hb)
  clear hb H1
  go_wp2_with fail
  refine (H4.out _ HF1.out).mono ?_
  rintro _ w3 ⟨Av, Aa, Ap, Am, cv, ca, cp, cm, rfl, hT, hb3⟩
  simp only [trV]
  rw [HM0.out]
  have HF3 := Lib.hid ((HF1.out.trans (Fr.below hb3)).alloc (.cells #[.slice Av a.vars.length cv, .slice Aa a.arrays.length ca, .slice Ap a.procs.length cp, .slice Am 0 cm] 27))
  have hcm := hT.main.2.1.1
  clear hT hb3 H4
  go_wp2_with fail
  refine (H5.out _ HF3.out).mono ?_
  rintro _ w4 ⟨Bv, Ba, Bp, Bm, dv, da, dp, dm, rfl, hT, hb4⟩
  simp only [trV]
  have HF4 := Lib.hid ((HF3.out.trans (Fr.below hb4)).alloc (.cells #[.slice Bv b.vars.length dv, .slice Ba b.arrays.length da, .slice Bp b.procs.length dp, .slice Bm b.main.len dm] 27))
  clear hT hb4 HF3 H5 hcm
  go_wp2_with fail
  refine (H6.out _ HF4.out).mono ?_
  rintro _ w5 ⟨v, rfl, hro, hb5⟩
  obtain ⟨g, cap, ev, hg, hgl, hc⟩ := tkQ_cells (k := 0) (t := x) hro rfl
  subst ev
  have x1 := hc 1 (by omega)
  simp only [tkC, List.getElem?_cons_zero, List.getElem?_cons_succ, Nat.zero_mul, Nat.zero_add] at x1
  have HF5 := Lib.hid (HF4.out.trans (Fr.below hb5))
  rw [← HTX.out] at x1
  obtain ⟨n, hn⟩ : ∃ n, n = (x :: l).length := ⟨_, rfl⟩
  have hn1 : n ≤ 4096 := by rw [hn]; exact HLL.out
  have hn0 : 0 < n := by rw [hn]; simp
  rw [← hn]
  have hni : (0 : Int) < (n : Int) := by omega
  clear hro hb5 hc HF4 H6 hn
  go_wp2_with fail
  refine (H7.out _ HF5.out).mono ?_
  rintro _ w6 ⟨v, rfl, hro, hb6⟩
  obtain ⟨q0, cap2, rfl⟩ := rowQ_form hro
  have hg6 := Nat.lt_of_lt_of_le hgl hb6.size
  have x16 := (hb6.cell (p := ⟨g, 1, none⟩) hgl).trans x1
  have HF6 := Lib.hid (HF5.out.trans (Fr.below hb6))
  obtain ⟨k, hk⟩ : ∃ k, k = m.length := ⟨_, rfl⟩
  rw [← hk] at HML ⊢
  clear x1 hro hb6 hk HF5 H7 HM0 e1 e2 e4 e5 e6
  have htz := HTZ.out
  by_cases hem : em = 0
  rotate_left
  · have e9 : (em != 0) = true := by simpa using hem
    clear hem
    go_wp2_with fail
    go_ret
    exact ⟨rfl, HF6.out.plain⟩
  subst hem
  by_cases hbig : 4096 < p + tx.size + 1 + o.size
  · have e9 : decide ((4096 : Int) < (p : Int) + tx.size + 1 + o.size) = true := by simp; omega
    clear hbig
    go_wp2_with fail
    go_ret
    exact ⟨rfl, HF6.out.plain⟩
  have e9 : decide ((4096 : Int) < (p : Int) + tx.size + 1 + o.size) = false := by simp; omega
  have hkk : k ≤ 4096 := HML.out rfl
  have e10 : decide ((4096 : Int) < (k : Int)) = false := by simp; omega
  have H9 := Lib.hid (H8.out rfl (by omega))
  have z0 : s.size ≤ 9223372036854775807 := by omega
  have z1 : p + tx.size ≤ 9223372036854775807 := by omega
  have z2 : p + tx.size + 1 ≤ 9223372036854775807 := by omega
  have z3 : p + tx.size + 1 + o.size ≤ 9223372036854775807 := by omega
  have z4 : (s.extract 0 p).size + tx.size ≤ 9223372036854775807 := by rw [ByteArray.size_extract]; omega
  have z5 : (s.extract 0 p).size + tx.size + 1 ≤ 9223372036854775807 := by rw [ByteArray.size_extract]; omega
  have z6 : (s.extract 0 p).size + tx.size + 1 + o.size ≤ 9223372036854775807 := by rw [ByteArray.size_extract]; omega
  have hps2 : p ≤ s.size := by omega
  have q1 : ¬ 9223372036854775807 < p + tx.size := by omega
  have q2 : ¬ 9223372036854775807 < p + tx.size + 1 := by omega
  have q3 : ¬ 9223372036854775807 < p + tx.size + 1 + o.size := by omega
  have hk := Bk.new w6 27 #[.slice none 0 0, .slice none 0 0, .slice none 0 0, .slice none 0 0]
  have HKN := Lib.hid hk
  clear hbig H8 HML hk
  go_wp2_with fail
  go_region_law
    (first
      | (refine at_value _ _ _ (by rfl) ?_
         go_simp
         go_at_call 26
         with_reducible refine (H9.out w6.drew (Fr.drew HF6.out)).mono ?_
         rintro e w8 ⟨Cv, Ca, Cp, Cm, fv, fa, fp, fm, rfl, hT, hb8⟩
         have HF8 := Lib.hid ((Fr.drew HF6.out).trans (Fr.below hb8))
         have hg8 := Nat.lt_of_lt_of_le hg6 ((Fr.drew (Fr.refl NoT w6)).trans (Fr.below hb8)).size
         clear hT hb8
         unfold trV
         dsimp only)
      | (refine at_value _ _ _ (by rfl) ?_
         go_simp
         go_at_call 26
         with_reducible refine (H9.out (w6.alloc (.cells #[.slice none 0 0, .slice none 0 0, .slice none 0 0, .slice none 0 0] 27)).drew (Fr.drew (HF6.out.alloc _))).mono ?_
         rintro e w8 ⟨Cv, Ca, Cp, Cm, fv, fa, fp, fm, rfl, hT, hb8⟩
         have HF8 := Lib.hid ((Fr.drew (HF6.out.alloc (.cells #[.slice none 0 0, .slice none 0 0, .slice none 0 0, .slice none 0 0] 27))).trans (Fr.below hb8))
         have hk8 := (HKN.out.fr0 (Fr.drew (Fr.refl NoT _))).fr0 (Fr.below hb8)
         have b0 := hk8.cell 0
         have b1 := hk8.cell 1
         have b2 := hk8.cell 2
         have b3 := hk8.cell 3
         have f0 := hk8.frozen 0
         have f1 := hk8.frozen 1
         have f2 := hk8.frozen 2
         have f3 := hk8.frozen 3
         have hl8 := hk8.lt
         simp only [List.getElem?_toArray, List.getElem?_cons_succ, List.getElem?_cons_zero] at b0 b1 b2 b3
         have hw6 := HF6.out.size
         clear hT hb8 hk8
         unfold trV
         dsimp only))
  all_goals
    go_wp2_with fail
    go_ret
    first
      | exact ⟨rfl, (HF8.out.alloc _).plain⟩
      | exact ⟨rfl, ((((HF8.out.high hw6 0 _).high hw6 1 _).high hw6 2 _).high hw6 3 _).plain⟩
end Go.Proofs.YtknckiblofochaaGreatDoor
