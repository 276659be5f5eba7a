/-
  law11: told, alive, calls; CheckNames.
-/
import Derived.Test.YtfkdbifnhgadaaaGreatDoorJnCkF
import Derived.Test.YtfkdbifnhgadaaaGreatDoorJnPlW
import Derived.Test.YtfkdbifnhgadaaaGreatDoorJnPs
import Derived.Test.YtfkdbifnhgadaaaGreatDoorJnCl
namespace Go.Proofs.YtfkdbifnhgadaaaGreatDoor
open Go.RowKit Go.Shelf
set_option linter.unusedVariables false
set_option linter.unusedSimpArgs false

def TruePost (W : World) (e : Ending) (w' : World) : Prop := e = .returned (.bool true) ∧ Below W.heap.size W w'
/-- what is wrong with a text's program, and where -/
def toldB (s : List UInt8) : Int × Int := if (parseB s).2.2 = 0 then treeC (parseB s).1 else (parseB s).2
set_option maxRecDepth 100000 in
set_option maxHeartbeats 1600000 in
theorem told_any (s : ByteArray) (hs : s.size ≤ 9223372036854775807) (w : World) (he : NameEnv w) : Calls Tryz.prog 13 #[.string s] w (AtE (toldB s.data.toList) w) := by
  have h1 := parse_any s hs w he
  have hsz := @parseB_sz s.data.toList
  have hF : toldB s.data.toList = if (parseB s.data.toList).2.2 = 0 then treeC (parseB s.data.toList).1 else (parseB s.data.toList).2 := rfl
  obtain ⟨F, hF0⟩ : ∃ F, F = toldB s.data.toList := ⟨_, rfl⟩
  rw [← hF0] at hF ⊢
  obtain ⟨⟨t, a, e⟩, hp⟩ : ∃ q, q = parseB s.data.toList := ⟨_, rfl⟩
  rw [← hp] at h1 hsz hF
  simp only at hsz hF
  have H1 := Lib.hid h1
  have HE := Lib.hid he
  clear h1 hF0 hp he
  by_cases hz : e = 0
  · subst hz
    rw [if_pos rfl] at hF
    have HZ := Lib.hid (hsz rfl)
    have HF := Lib.hid hF
    clear hsz hF
    go_enter Tryz.func13, Tryz.ntmps13
    go_wp2_with fail
    refine H1.out.mono ?_
    rintro _ w1 ⟨Av, Aa, Ap, Am, cv, ca, cp, cm, rfl, hT, hb⟩
    have hf1 : Fr NoT w (w1.alloc (.cells #[.slice Av t.vars.length cv, .slice Aa t.arrays.length ca, .slice Ap t.procs.length cp, .slice Am t.main.len cm] 27)) := (Fr.below hb).alloc _
    have hfa : Fr NoT w1 (w1.alloc (.cells #[.slice Av t.vars.length cv, .slice Aa t.arrays.length ca, .slice Ap t.procs.length cp, .slice Am t.main.len cm] 27)) := (Fr.refl _ _).alloc _
    have h2 := ctree_any t _ (New w.heap.size w1) False Av Aa Ap Am cv ca cp cm (HE.out.keep hf1.plain) (fun b hb => Nat.lt_of_lt_of_le hb.2 hfa.size) HZ.out (hT.keep (hfa.same fun b hb => ⟨hb.2, id⟩))
    rw [← HF.out] at h2
    unfold trV at h2 ⊢
    have H2 := Lib.hid h2
    have HF1 := Lib.hid hf1
    clear hT hb hf1 hfa h2
    go_wp2_with fail
    refine H2.out.mono ?_
    rintro _ w2 ⟨rfl, hf2⟩
    have HF2 := Lib.hid (HF1.out.trans hf2)
    clear hf2
    go_wp2_with fail
    go_ret2
    exact ⟨rfl, HF2.out⟩
  · have e1 : (e != 0) = true := by simpa using hz
    rw [if_neg hz] at hF
    subst hF
    clear hz hsz
    go_enter Tryz.func13, Tryz.ntmps13
    go_wp2_with fail
    refine H1.out.mono ?_
    rintro _ w1 ⟨Av, Aa, Ap, Am, cv, ca, cp, cm, rfl, hT, hb⟩
    unfold trV
    have HF1 := Lib.hid ((Fr.below (T := NoT) hb).alloc (.cells #[.slice Av t.vars.length cv, .slice Aa t.arrays.length ca, .slice Ap t.procs.length cp, .slice Am t.main.len cm] 27))
    clear hT hb
    go_wp2_with fail
    go_ret2
    exact ⟨rfl, HF1.out⟩
theorem told_at {l : List UInt8} (w : World) (he : NameEnv w) (hl : l.length ≤ 9223372036854775807) {a e : Int} (h : toldB l = (a, e)) : ∀ W, Fr NoT w W → Calls Tryz.prog 13 #[.string ⟨l.toArray⟩] W (AtE (a, e) W) := fun W hf => by
  have := told_any ⟨l.toArray⟩ (by simpa [ByteArray.size] using hl) W (he.keep hf.plain)
  rw [show (⟨l.toArray⟩ : ByteArray).data.toList = l from by simp, h] at this
  exact this
theorem toldB_1 : toldB [109, 97, 105, 110, 123, 120, 61, 49, 59, 125] = (5, 110) := by kernel_rfl
theorem toldB_2 : toldB [118, 97, 114, 32, 120, 59, 109, 97, 105, 110, 123, 120, 61, 49, 59, 125] = (0, 0) := by kernel_rfl
theorem toldB_3 : toldB [118, 97, 114, 32, 120, 59, 109, 97, 105, 110, 123, 120, 91, 48, 93, 61, 49, 59, 125] = (11, 112) := by kernel_rfl
theorem toldB_4 : toldB [118, 97, 114, 32, 120, 44, 120, 59, 109, 97, 105, 110, 123, 125] = (6, 111) := by kernel_rfl
set_option maxRecDepth 100000 in
set_option maxHeartbeats 800000 in
theorem calive_any (w : World) (he : NameEnv w) : Calls Tryz.prog 14 #[] w (TruePost w) := by
  have H1 := Lib.hid (told_at w he (by decide) toldB_1)
  have H2 := Lib.hid (told_at w he (by decide) toldB_2)
  clear he
  go_enter Tryz.func14, Tryz.ntmps14
  go_wp2_with fail
  refine (H1.out _ (Fr.refl _ _)).mono ?_
  rintro _ w1 ⟨rfl, hf1⟩
  have HF1 := Lib.hid hf1
  clear hf1
  go_wp2_with fail
  refine (H2.out _ HF1.out).mono ?_
  rintro _ w2 ⟨rfl, hf2⟩
  have HF2 := Lib.hid (HF1.out.trans hf2)
  clear hf2
  go_wp2_with fail
  go_ret
  exact ⟨rfl, HF2.out.plain⟩
set_option maxRecDepth 100000 in
set_option maxHeartbeats 800000 in
theorem cnames_any (w : World) (he : NameEnv w) : Calls Tryz.prog 4 #[] w (TruePost w) := by
  have H1 := Lib.hid (told_at w he (by decide) toldB_3)
  have H2 := Lib.hid (told_at w he (by decide) toldB_4)
  have H3 := Lib.hid (fun W (h : Fr NoT w W) => calive_any W (he.keep h.plain))
  clear he
  go_enter Tryz.func4, Tryz.ntmps4
  go_wp2_with fail
  refine (H1.out _ (Fr.refl _ _)).mono ?_
  rintro _ w1 ⟨rfl, hf1⟩
  have HF1 := Lib.hid hf1
  clear hf1
  go_wp2_with fail
  refine (H2.out _ HF1.out).mono ?_
  rintro _ w2 ⟨rfl, hf2⟩
  have HF2 := Lib.hid (HF1.out.trans hf2)
  clear hf2
  go_wp2_with fail
  refine (H3.out _ HF2.out).mono ?_
  rintro _ w3 ⟨rfl, hf3⟩
  have HF3 := Lib.hid (HF2.out.trans (Fr.below hf3))
  clear hf3
  go_wp2_with fail
  go_ret
  exact ⟨rfl, HF3.out.plain⟩
end Go.Proofs.YtfkdbifnhgadaaaGreatDoor
