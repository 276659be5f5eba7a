/-
  law09.ParseDeep.
-/
import Derived.Test.YtknckiblofochaaGreatDoorJnPs
import Derived.Test.YtknckiblofochaaGreatDoorJnPl
import Derived.Test.YtknckiblofochaaGreatDoorRqSameT
namespace Go.Proofs.YtknckiblofochaaGreatDoor
open Go.RowKit Go.Shelf
set_option linter.unusedVariables false
set_option linter.unusedSimpArgs false

theorem pdeep_long (s : ByteArray) (w : World) (he : NameEnv w) (hs : ¬ s.size ≤ 1000) : Calls Tryz.prog 10 #[.string s] w (TruePost w) := by
  have H1 := Lib.hid (palive_any w he)
  have e1 : decide ((1000 : Int) < s.size) = true := by simp; omega
  clear hs he
  go_enter Tryz.func10, Tryz.ntmps10
  go_wp2_with fail
  refine H1.out.mono ?_
  rintro _ w1 ⟨rfl, hb⟩
  go_wp2_with fail
  go_ret
  exact ⟨rfl, hb⟩
def deepA (s : ByteArray) : ByteArray := ⟨#[109, 97, 105, 110, 123, 120, 61]⟩ ++ s ++ ⟨#[59, 125]⟩
def deepB (s : ByteArray) : ByteArray := ⟨#[109, 97, 105, 110, 123, 120, 61, 40]⟩ ++ s ++ ⟨#[41, 59, 125]⟩
theorem deepA_list (s : ByteArray) : (deepA s).data.toList = mainL ++ (s.data.toList ++ [59, 125]) := by
  unfold deepA mainL
  simp
theorem deepB_list (s : ByteArray) : (deepB s).data.toList = mainL ++ (40 :: (s.data.toList ++ [41, 59, 125])) := by
  unfold deepB mainL
  simp
set_option maxRecDepth 100000 in
set_option maxHeartbeats 3200000 in
theorem pdeep_ok (s : ByteArray) (w : World) (he : NameEnv w) (hs : s.size ≤ 1000) : Calls Tryz.prog 10 #[.string s] w (TruePost w) := by
  have H1 := Lib.hid (palive_any w he)
  have za : (deepA s).size = s.size + 9 := by rw [← size_len, deepA_list]; simp [mainL]
  have zb : (deepB s).size = s.size + 11 := by rw [← size_len, deepB_list]; simp [mainL]
  have h3 := fun W (h : Fr NoT w W) => parse_any (deepA s) (by omega) W (he.keep h.plain)
  have h4 := fun W (h : Fr NoT w W) => parse_any (deepB s) (by omega) W (he.keep h.plain)
  have hpd := parse_deep (t := s.data.toList) (by rw [size_len]; exact hs)
  rw [deepA_list] at h3
  rw [deepB_list] at h4
  obtain ⟨⟨a, pa, ea⟩, hA⟩ : ∃ q, q = parseB (mainL ++ (s.data.toList ++ [59, 125])) := ⟨_, rfl⟩
  obtain ⟨⟨b, pb, eb⟩, hB⟩ : ∃ q, q = parseB (mainL ++ (40 :: (s.data.toList ++ [41, 59, 125]))) := ⟨_, rfl⟩
  rw [← hA] at h3 hpd
  rw [← hB] at h4 hpd
  simp only at hpd
  unfold deepA at h3
  unfold deepB at h4
  have H3 := Lib.hid h3
  have H4 := Lib.hid h4
  have HPD := Lib.hid hpd
  have e0 : decide ((1000 : Int) < s.size) = false := by simp; omega
  have z1 : 7 + s.size ≤ 9223372036854775807 := by omega
  have z2 : 7 + s.size + 2 ≤ 9223372036854775807 := by omega
  have z3 : 8 + s.size ≤ 9223372036854775807 := by omega
  have z4 : 8 + s.size + 3 ≤ 9223372036854775807 := by omega
  clear h3 h4 hpd hA hB za zb he
  go_enter Tryz.func10, Tryz.ntmps10
  go_wp2_with fail
  refine H1.out.mono ?_
  rintro _ w1 ⟨rfl, hb⟩
  have HF1 := Lib.hid (show Fr NoT w w1 from Fr.below hb)
  clear hb H1
  go_wp2_with fail
  refine (H3.out _ HF1.out).mono ?_
  rintro _ w3 ⟨Av, Aa, Ap, Am, cv, ca, cp, cm, rfl, hT, hb3⟩
  simp only [trV]
  have HF3 := Lib.hid ((HF1.out.trans (Fr.below hb3)).alloc (.cells #[.slice Av a.vars.length cv, .slice Aa a.arrays.length ca, .slice Ap a.procs.length cp, .slice Am a.main.len cm] 27))
  have HK3 := Lib.hid (Bk.new w3 27 #[.slice Av a.vars.length cv, .slice Aa a.arrays.length ca, .slice Ap a.procs.length cp, .slice Am a.main.len cm])
  have HT3 := Lib.hid hT
  have hlm : a.main.len ≤ 9223372036854775807 := Nat.le_trans hT.main.1 hT.main.2.1.1
  clear hT hb3
  go_wp2_with fail
  refine (H4.out _ HF3.out).mono ?_
  rintro _ w4 ⟨Bv, Ba, Bp, Bm, dv, da, dp, dm, rfl, hT, hb4⟩
  simp only [trV]
  have HF4 := Lib.hid ((HF3.out.trans (Fr.below hb4)).alloc (.cells #[.slice Bv b.vars.length dv, .slice Ba b.arrays.length da, .slice Bp b.procs.length dp, .slice Bm b.main.len dm] 27))
  have hk4 := (HK3.out.fr0 (Fr.below hb4)).alloc (.cells #[.slice Bv b.vars.length dv, .slice Ba b.arrays.length da, .slice Bp b.procs.length dp, .slice Bm b.main.len dm] 27)
  have hsm : Fr NoT w3 (w4.alloc (.cells #[.slice Bv b.vars.length dv, .slice Ba b.arrays.length da, .slice Bp b.procs.length dp, .slice Bm b.main.len dm] 27)) := (((Fr.refl NoT w3).alloc _).trans (Fr.below hb4)).alloc _
  have hal := ralikeT_any a b (w4.alloc (.cells #[.slice Bv b.vars.length dv, .slice Ba b.arrays.length da, .slice Bp b.procs.length dp, .slice Bm b.main.len dm] 27)) _ _ False False Av Aa Ap Am Bv Ba Bp Bm cv ca cp cm dv da dp dm (fun b hb => Nat.lt_of_lt_of_le hb.2 hsm.size) (fun b hb => Nat.lt_of_lt_of_le hb.2 (by simp)) (HT3.out.keep (hsm.same fun b hb => ⟨hb.2, id⟩)) (hT.keep (((Fr.refl NoT w4).alloc _).same fun b hb => ⟨hb.2, id⟩))
  unfold trV at hal
  have HAL := Lib.hid hal
  obtain ⟨x0, x1, x2, x3, hxl⟩ := bk4 hk4
  clear hT hb4 hk4 hsm hal
  by_cases hea : ea = 0
  rotate_left
  · have e1 : (ea != 0) = true := by simpa using hea
    clear hea
    go_wp2_with fail
    go_ret
    exact ⟨rfl, HF4.out.plain⟩
  by_cases hml : a.main.len = 1
  rotate_left
  · subst hea
    have e1 : ((a.main.len : Int) != 1) = true := by simp; omega
    have e2 : ((a.main.len : Int) == 1) = false := by simp; omega
    clear hml
    go_wp2_with fail
    go_ret
    exact ⟨rfl, HF4.out.plain⟩
  have hpd := HPD.out hea hml
  subst hea
  rw [hml] at x3 HAL
  rcases hpd with rfl | ⟨rfl, hbare⟩
  · clear hml
    go_wp2_with fail
    go_ret
    exact ⟨rfl, HF4.out.plain⟩
  · have hal := HAL.out
    rw [eqT_alike hbare.symm] at hal
    have HAL2 := Lib.hid hal
    clear hal HAL hbare hml
    go_wp2_with (go_at_call 15; refine HAL2.out.mono ?_; rintro _ w5 ⟨rfl, hy⟩; have HY := Lib.hid hy; clear hy)
    go_ret
    exact ⟨rfl, (HF4.out.trans HY.out).plain⟩
theorem pdeep_any (s : ByteArray) (w : World) (he : NameEnv w) : Calls Tryz.prog 10 #[.string s] w (TruePost w) := by
  by_cases hs : s.size ≤ 1000
  · exact pdeep_ok s w he hs
  · exact pdeep_long s w he hs
end Go.Proofs.YtknckiblofochaaGreatDoor
