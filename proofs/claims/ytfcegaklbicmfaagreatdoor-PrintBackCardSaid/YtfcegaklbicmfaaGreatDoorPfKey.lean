/-
  parse: keywords: a map from words to kinds and methods.
-/
import Derived.Test.YtfcegaklbicmfaaGreatDoorJnPf
import Derived.Test.YtfcegaklbicmfaaGreatDoorMpKey
set_option linter.unusedVariables false
set_option linter.unusedSimpArgs false
namespace Go.Proofs.YtfcegaklbicmfaaGreatDoor
open Go.RowKit Go.Shelf Go.Maps

def begV (k : Int) (g : Nat) : Value := .agg #[.int .u8 k, .func (.func g) #[] #[]]
def KwM (w : World) (b n : Nat) (tab : List (List UInt8 × Value)) : Prop :=
 ∃ D, w.ownsMap Tryz.prog 9 heldB b n D ∧ ∀ t : List UInt8, Maps.has D (.string t) = (tab.lookup t).isSome ∧ (∀ v, tab.lookup t = some v → ∀ z, D.atKey (.string t) z = .held v) ∧ (tab.lookup t = none → ∀ z, D.atKey (.string t) z = z)
theorem KwM.made (w : World) : KwM (w.alloc (.map #[] 0)) w.heap.size 0 [] := ⟨_, World.ownsMap_made _ _ _ _, fun t => ⟨rfl, fun v h => by simp at h, fun _ z => rfl⟩⟩
theorem KwM.put {w : World} {b n : Nat} {tab : List (List UInt8 × Value)} (h : KwM w b n tab) {t : List UInt8} (ht : t.length ≤ maxLen) (v : Value) (hn : n < maxLen) :
  ∃ w', (Instr.mapUpdate 241 (.map (some b)) (.string ⟨t.toArray⟩) v).run Tryz.prog w = .ok () w' ∧ KwM w' b (n + 1) ((t, v) :: tab) ∧ w.grownBy w' (some b) := by
 obtain ⟨D, hown, hD⟩ := h
 obtain ⟨w', hrun, hown', hg⟩ := hown.update strKey Tryz.underlying241 hn (keyS ht) (val := v) (d := .held v) (ps := []) rfl
 refine ⟨w', hrun, ⟨_, hown', fun x => ?_⟩, hg⟩
 have kx : WideAt.IsKeyLit (.string t) := strKey.key (keyS ht)
 by_cases e : x = t
 ·subst e
  refine ⟨by rw [has_put_same hown.isMap kx]; simp, fun u hu z => ?_, fun hu => by simp at hu⟩
  rw [atKey_put_same hown.isMap kx]
  simp at hu
  rw [hu]
 ·have e1 : (x == t) = false := by simpa using e
  have e2 : (Lit.string x) ≠ .string t := fun h => e (by simpa using h)
  refine ⟨by rw [has_put_other e2, (hD x).1]; simp [List.lookup, e1], fun u hu z => ?_, fun hu z => ?_⟩
  ·rw [atKey_put_other e2]
   exact (hD x).2.1 u (by simpa [List.lookup, e1] using hu) z
  ·rw [atKey_put_other e2]
   exact (hD x).2.2 (by simpa [List.lookup, e1] using hu) z
theorem KwM.kept {w w' : World} {b n : Nat} {tab : List (List UInt8 × Value)} (h : KwM w b n tab) {row : Option Nat} (hg : w.grownBy w' row) (hne : some b ≠ row) : KwM w' b n tab := by
 obtain ⟨D, hown, hD⟩ := h
 exact ⟨D, hown.kept hg hne, hD⟩
theorem zeroBegun (w : World) : (zeroValue 239).run Tryz.prog w = .ok (.agg #[.int .u8 0, .nilFunc]) w := by kernel_rfl
def zeroBeg : Value := .agg #[.int .u8 0, .nilFunc]
theorem KwM.look {w : World} {b n : Nat} {tab : List (List UInt8 × Value)} (h : KwM w b n tab) {t : List UInt8} (ht : t.length ≤ maxLen) :
  (Instr.lookup 241 (.map (some b)) (.string ⟨t.toArray⟩) true).run Tryz.prog w = .ok (.tuple #[(tab.lookup t).getD zeroBeg, .bool (tab.lookup t).isSome]) w := by
 obtain ⟨D, hown, hD⟩ := h
 obtain ⟨v, ps, hrun, hv⟩ := hown.look_ok strKey Tryz.underlying241 (zeroBegun w) (zd := .held _) (zp := []) rfl (keyS ht)
 rw [(hD t).1] at hrun
 rw [hrun]
 cases hl : tab.lookup t with
 | none =>
  rw [(hD t).2.2 hl] at hv
  simp only [heldB, Option.some.injEq, Prod.mk.injEq, DataW.held.injEq] at hv
  rw [hv.1]
  rfl
 | some u =>
  rw [(hD t).2.1 u hl] at hv
  simp only [heldB, Option.some.injEq, Prod.mk.injEq, DataW.held.injEq] at hv
  rw [hv.1]
  rfl
def kwTab : List (List UInt8 × Value) := [([99, 97, 108, 108], begV 9 (kwF 9)), ([119, 104, 105, 108, 101], begV 8 (kwF 8)), ([105, 102], begV 7 (kwF 7)), ([97, 115, 115, 101, 114, 116], begV 6 (kwF 6)), ([97, 115, 115, 117, 109, 101], begV 5 (kwF 5)), ([105, 110, 112, 117, 116], begV 4 (kwF 4)), ([115, 107, 105, 112], begV 1 (kwF 1))]
theorem kwTab_key (t : List UInt8) : kwTab.lookup t = if keyK t = 0 then none else some (begV (keyK t) (kwF (keyK t))) := by
 unfold keyK kwTab
 by_cases h1 : t = [115, 107, 105, 112]
 ·subst h1; rfl
 by_cases h2 : t = [105, 110, 112, 117, 116]
 ·subst h2; rfl
 by_cases h3 : t = [97, 115, 115, 117, 109, 101]
 ·subst h3; rfl
 by_cases h4 : t = [97, 115, 115, 101, 114, 116]
 ·subst h4; rfl
 by_cases h5 : t = [105, 102]
 ·subst h5; rfl
 by_cases h6 : t = [119, 104, 105, 108, 101]
 ·subst h6; rfl
 by_cases h7 : t = [99, 97, 108, 108]
 ·subst h7; rfl
 have e1 : (t == [115, 107, 105, 112]) = false := by simpa using h1
 have e2 : (t == [105, 110, 112, 117, 116]) = false := by simpa using h2
 have e3 : (t == [97, 115, 115, 117, 109, 101]) = false := by simpa using h3
 have e4 : (t == [97, 115, 115, 101, 114, 116]) = false := by simpa using h4
 have e5 : (t == [105, 102]) = false := by simpa using h5
 have e6 : (t == [119, 104, 105, 108, 101]) = false := by simpa using h6
 have e7 : (t == [99, 97, 108, 108]) = false := by simpa using h7
 simp only [List.lookup, e1, e2, e3, e4, e5, e6, e7, if_neg h1, if_neg h2, if_neg h3, if_neg h4, if_neg h5, if_neg h6, if_neg h7]
 rfl
set_option maxRecDepth 100000 in
theorem keywords_any (w : World) : Calls Tryz.prog 182 #[] w fun e w' => ∃ b, e = .returned (.map (some b)) ∧ w.heap.size ≤ b ∧ KwM w' b 7 kwTab ∧ Fr NoT w w' := by
 have hmm := @run_makeMap Tryz.prog
 obtain ⟨w1, u1, k1, g1⟩ := (KwM.made w).put (t := [115, 107, 105, 112]) (by decide) (begV 1 (kwF 1)) (by decide)
 obtain ⟨w2, u2, k2, g2⟩ := k1.put (t := [105, 110, 112, 117, 116]) (by decide) (begV 4 (kwF 4)) (by decide)
 obtain ⟨w3, u3, k3, g3⟩ := k2.put (t := [97, 115, 115, 117, 109, 101]) (by decide) (begV 5 (kwF 5)) (by decide)
 obtain ⟨w4, u4, k4, g4⟩ := k3.put (t := [97, 115, 115, 101, 114, 116]) (by decide) (begV 6 (kwF 6)) (by decide)
 obtain ⟨w5, u5, k5, g5⟩ := k4.put (t := [105, 102]) (by decide) (begV 7 (kwF 7)) (by decide)
 obtain ⟨w6, u6, k6, g6⟩ := k5.put (t := [119, 104, 105, 108, 101]) (by decide) (begV 8 (kwF 8)) (by decide)
 obtain ⟨w7, u7, k7, g7⟩ := k6.put (t := [99, 97, 108, 108]) (by decide) (begV 9 (kwF 9)) (by decide)
 have hf : Fr NoT w w7 := by
  have h0 : Fr (fun b => b = w.heap.size) w w7 := (((((((Fr.refl _ w).alloc (.map #[] 0)).trans (Fr.grown g1 fun g e _ => (Option.some.inj e).symm)).trans (Fr.grown g2 fun g e _ => (Option.some.inj e).symm)).trans (Fr.grown g3 fun g e _ => (Option.some.inj e).symm)).trans (Fr.grown g4 fun g e _ => (Option.some.inj e).symm)).trans (Fr.grown g5 fun g e _ => (Option.some.inj e).symm)).trans (Fr.grown g6 fun g e _ => (Option.some.inj e).symm) |>.trans (Fr.grown g7 fun g e _ => (Option.some.inj e).symm)
  exact h0.mono fun i hi e => absurd hi (by have e : i = w.heap.size := e; omega)
 have HK := Lib.hid k7
 have HF := Lib.hid hf
 simp only [begV, show kwF 1 = 201 from by rfl, show kwF 4 = 202 from by rfl, show kwF 5 = 203 from by rfl, show kwF 6 = 203 from by rfl, show kwF 7 = 204 from by rfl, show kwF 8 = 205 from by rfl, show kwF 9 = 206 from by rfl] at u1 u2 u3 u4 u5 u6 u7
 clear k1 k2 k3 k4 k5 k6 k7 g1 g2 g3 g4 g5 g6 g7 hf
 go_enter Tryz.func182, Tryz.ntmps182
 go_wp2_with fail
 go_ret
 exact ⟨w.heap.size, rfl, Nat.le_refl _, HK.out, HF.out⟩
end Go.Proofs.YtfcegaklbicmfaaGreatDoor
