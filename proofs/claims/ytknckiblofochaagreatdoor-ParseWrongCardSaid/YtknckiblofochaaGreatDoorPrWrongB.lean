/-
  law09.ParseWrong.
-/
import Derived.Test.YtknckiblofochaaGreatDoorJnPs
import Derived.Test.YtknckiblofochaaGreatDoorPlWrong
namespace Go.Proofs.YtknckiblofochaaGreatDoor
open Go.RowKit Go.Shelf
set_option linter.unusedVariables false
set_option linter.unusedSimpArgs false

set_option maxRecDepth 100000 in
set_option maxHeartbeats 1600000 in
/-- one of the texts is too long -/
theorem pwrong_long (s o : ByteArray) (w : World) (he : NameEnv w) (hs : 4096 < s.size ∨ 4096 < o.size) : Calls Tryz.prog 8 #[.string s, .string o] w (TruePost w) := by
  have H1 := Lib.hid (palive_any w he)
  clear he
  by_cases h1 : 4096 < s.size
  · have e1 : decide ((4096 : Int) < s.size) = true := by simp; omega
    clear hs h1
    go_enter Tryz.func8, Tryz.ntmps8
    go_wp2_with fail
    refine H1.out.mono ?_
    rintro _ w1 ⟨rfl, hb⟩
    go_wp2_with fail
    go_ret
    exact ⟨rfl, hb⟩
  · have h2 : 4096 < o.size := by omega
    have e1 : decide ((4096 : Int) < s.size) = false := by simp; omega
    have e2 : decide ((4096 : Int) < o.size) = true := by simp; omega
    clear hs h1 h2
    go_enter Tryz.func8, Tryz.ntmps8
    go_wp2_with fail
    refine H1.out.mono ?_
    rintro _ w1 ⟨rfl, hb⟩
    go_wp2_with fail
    go_ret
    exact ⟨rfl, hb⟩
set_option maxRecDepth 100000 in
set_option maxHeartbeats 1600000 in
/-- nothing is wrong -/
theorem pwrong_right (s o : ByteArray) (w : World) (he : NameEnv w) (hs : s.size ≤ 4096) (ho : o.size ≤ 4096) (h : (parseB s.data.toList).2.2 = 0) : Calls Tryz.prog 8 #[.string s, .string o] w (TruePost w) := by
  have H1 := Lib.hid (palive_any w he)
  have h3 := fun W (h : Fr NoT w W) => parse_any s (by omega) W (he.keep h.plain)
  have h0 := parse_at0 h
  obtain ⟨⟨a, pa, ea⟩, hA⟩ : ∃ q, q = parseB s.data.toList := ⟨_, rfl⟩
  rw [← hA] at h3 h h0
  simp only at h h0
  subst h h0
  have H3 := Lib.hid h3
  have e1 : decide ((4096 : Int) < s.size) = false := by simp; omega
  have e2 : decide ((4096 : Int) < o.size) = false := by simp; omega
  clear he h3 hA
  go_enter Tryz.func8, Tryz.ntmps8
  go_wp2_with fail
  refine H1.out.mono ?_
  rintro _ w1 ⟨rfl, hb⟩
  have HF1 := Lib.hid (show Fr NoT w w1 from Fr.below hb)
  clear hb H1
  go_wp2_with fail
  refine (H3.out _ HF1.out).mono ?_
  rintro _ w3 ⟨Av, Aa, Ap, Am, cv, ca, cp, cm, rfl, hT, hb3⟩
  simp only [trV]
  have HF3 := Lib.hid ((HF1.out.trans (Fr.below hb3)).alloc (.cells #[.slice Av a.vars.length cv, .slice Aa a.arrays.length ca, .slice Ap a.procs.length cp, .slice Am a.main.len cm] 27))
  clear hT hb3
  go_wp2_with fail
  go_ret
  exact ⟨rfl, HF3.out.plain⟩
set_option maxRecDepth 100000 in
set_option maxHeartbeats 1600000 in
/-- something is wrong, but no error of a program's form, or where the text ends -/
theorem pwrong_else (s o : ByteArray) (w : World) (he : NameEnv w) (hs : s.size ≤ 4096) (ho : o.size ≤ 4096) (h : (parseB s.data.toList).2.2 ≠ 0)
    (h2 : ¬ (((parseB s.data.toList).2.2 = 90 ∨ (parseB s.data.toList).2.2 = 91) ∧ (parseB s.data.toList).2.1 < s.size)) : Calls Tryz.prog 8 #[.string s, .string o] w (TruePost w) := by
  have H1 := Lib.hid (palive_any w he)
  have h3 := fun W (h : Fr NoT w W) => parse_any s (by omega) W (he.keep h.plain)
  obtain ⟨hm0, hp0, hp1, -⟩ := parse_wrong h
  rw [size_len] at hp1
  obtain ⟨⟨a, pa, ea⟩, hA⟩ : ∃ q, q = parseB s.data.toList := ⟨_, rfl⟩
  rw [← hA] at h3 h h2 hm0 hp0 hp1
  simp only at h h2 hm0 hp0 hp1
  have H3 := Lib.hid h3
  have e1 : decide ((4096 : Int) < s.size) = false := by simp; omega
  have e2 : decide ((4096 : Int) < o.size) = false := by simp; omega
  have e3 : (ea == 0) = false := by simpa using h
  have e4 : decide (pa < 0) = false := by simpa using hp0
  have e5 : decide ((s.size : Int) < pa) = false := by simpa using hp1
  have HH := Lib.hid h2
  clear he h3 hA h2
  go_enter Tryz.func8, Tryz.ntmps8
  go_wp2_with fail
  refine H1.out.mono ?_
  rintro _ w1 ⟨rfl, hb⟩
  have HF1 := Lib.hid (show Fr NoT w w1 from Fr.below hb)
  clear hb H1
  go_wp2_with fail
  refine (H3.out _ HF1.out).mono ?_
  rintro _ w3 ⟨Av, Aa, Ap, Am, cv, ca, cp, cm, rfl, hT, hb3⟩
  simp only [trV]
  have HF3 := Lib.hid ((HF1.out.trans (Fr.below hb3)).alloc (.cells #[.slice Av a.vars.length cv, .slice Aa a.arrays.length ca, .slice Ap a.procs.length cp, .slice Am a.main.len cm] 27))
  have hcm := hT.main.2.1.1
  rw [hm0]
  rw [hm0] at HF3
  clear hT hb3
  by_cases h90 : ea = 90
  · subst h90
    have hge := HH.out
    have e6 : decide ((s.size : Int) ≤ pa) = true := by simp; omega
    clear hge
    go_wp2_with fail
    go_ret
    exact ⟨rfl, HF3.out.plain⟩
  · by_cases h91 : ea = 91
    · subst h91
      have hge := HH.out
      have e6 : decide ((s.size : Int) ≤ pa) = true := by simp; omega
      clear hge
      go_wp2_with fail
      go_ret
      exact ⟨rfl, HF3.out.plain⟩
    · have e6 : (ea != 90) = true := by simpa using h90
      have e7 : (ea != 91) = true := by simpa using h91
      clear h90 h91
      go_wp2_with fail
      go_ret
      exact ⟨rfl, HF3.out.plain⟩
end Go.Proofs.YtknckiblofochaaGreatDoor
