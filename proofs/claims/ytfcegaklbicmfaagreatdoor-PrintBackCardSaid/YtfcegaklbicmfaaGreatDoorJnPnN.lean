/-
  law10: printed, alive; PrintNames.
-/
import Derived.Test.YtfcegaklbicmfaaGreatDoorJnPnV
import Derived.Test.YtfcegaklbicmfaaGreatDoorJnPs
import Derived.Test.YtfcegaklbicmfaaGreatDoorJnPnG
import Derived.Test.YtfcegaklbicmfaaGreatDoorJnPq
set_option linter.unusedVariables false
set_option linter.unusedSimpArgs false
set_option maxHeartbeats 3200000
set_option maxRecDepth 100000
namespace Go.Proofs.YtfcegaklbicmfaaGreatDoor
open Go.RowKit Go.Shelf

def prB (t : Tre) : List UInt8 := if okTr t = true then printB t else []
def prE (t : Tre) : Int := if okTr t = true then 0 else 8
theorem print_any (t : Tre) (w : World) (S : Nat → Prop) (Z : Prop) (Av Aa Ap Am : Option Addr) (cv ca cp cm : Nat) (he : NameEnv w) (hS : ∀ b, S b → b < w.heap.size) (hsz : SzT t) (hx : TrR w S Z t Av Aa Ap Am cv ca cp cm) (hlen : okTr t = true → sumT (treT t) ≤ 140737488355328) :
  Calls Tryz.prog 18 #[trV t Av Aa Ap Am cv ca cp cm] w fun e w' => e = .returned (.tuple #[.string ⟨(prB t).toArray⟩, .int .i64 (prE t)]) ∧ Fr NoT w w' := by
 cases ht : okTr t
 ·unfold prB prE
  rw [ht]
  exact print_bad t w S Z Av Aa Ap Am cv ca cp cm he.toSp hS hsz hx ht
 ·unfold prB prE
  rw [ht]
  exact print_ok t w S Z Av Aa Ap Am cv ca cp cm he.toSp he.lex.tab hS hsz hx ht (hlen ht)
def prtB (l : List UInt8) : List UInt8 := if (parseB l).2.2 = 0 ∧ prE (parseB l).1 = 0 then prB (parseB l).1 else []
theorem printed_any (s : ByteArray) (hs : s.size ≤ 9223372036854775807) (w : World) (he : NameEnv w) (hsz : SzT (parseB s.data.toList).1) (hlen : okTr (parseB s.data.toList).1 = true → sumT (treT (parseB s.data.toList).1) ≤ 140737488355328) :
  Calls Tryz.prog 22 #[.string s] w fun e w' => e = .returned (.string ⟨(prtB s.data.toList).toArray⟩) ∧ Fr NoT w w' := by
 have h1 := parse_any s hs w he
 obtain ⟨TX, hTX⟩ : ∃ y, y = prtB s.data.toList := ⟨_, rfl⟩
 have hT2 : TX = if (parseB s.data.toList).2.2 = 0 ∧ prE (parseB s.data.toList).1 = 0 then prB (parseB s.data.toList).1 else [] := hTX
 rw [← hTX]
 clear hTX
 obtain ⟨⟨t, a, e⟩, hq⟩ : ∃ y, y = parseB s.data.toList := ⟨_, rfl⟩
 rw [← hq] at h1 hsz hlen hT2
 simp only at hsz hlen hT2
 have h2 := fun (W : World) (S : Nat → Prop) (Av Aa Ap Am : Option Addr) (cv ca cp cm : Nat) (hf : Fr NoT w W) (hS : ∀ b, S b → b < W.heap.size) (hx : TrR W S False t Av Aa Ap Am cv ca cp cm) => print_any t W S False Av Aa Ap Am cv ca cp cm (he.keep hf.plain) hS hsz hx hlen
 obtain ⟨pb, hpb⟩ : ∃ y, y = prB t := ⟨_, rfl⟩
 obtain ⟨pe, hpe⟩ : ∃ y, y = prE t := ⟨_, rfl⟩
 rw [← hpb, ← hpe] at h2 hT2
 obtain ⟨n1, hn1⟩ : ∃ n, n = t.vars.length := ⟨_, rfl⟩
 obtain ⟨n2, hn2⟩ : ∃ n, n = t.arrays.length := ⟨_, rfl⟩
 obtain ⟨n3, hn3⟩ : ∃ n, n = t.procs.length := ⟨_, rfl⟩
 obtain ⟨n4, hn4⟩ : ∃ n, n = t.main.len := ⟨_, rfl⟩
 unfold ParsP at h1
 unfold trV at h1 h2
 simp only at h1
 rw [← hn1, ← hn2, ← hn3, ← hn4] at h1 h2
 have H1 := Lib.hid h1
 have H2 := Lib.hid h2
 have HT := Lib.hid hT2
 have hc : ((e != 0) = true ∧ TX = []) ∨ ((e != 0) = false ∧ (pe != 0) = true ∧ TX = []) ∨ ((e != 0) = false ∧ (pe != 0) = false ∧ TX = pb) := by
  by_cases h : e = 0
  ·by_cases h' : pe = 0
   ·exact .inr (.inr ⟨by simpa using h, by simpa using h', by rw [hT2, if_pos ⟨h, h'⟩]⟩)
   ·exact .inr (.inl ⟨by simpa using h, by simpa using h', by rw [hT2, if_neg (fun hh => h' hh.2)]⟩)
  ·exact .inl ⟨by simpa using h, by rw [hT2, if_neg (fun hh => h hh.1)]⟩
 clear h1 h2 hT2 hsz hlen hq hpb hpe hn1 hn2 hn3 hn4 he hs
 go_enter Tryz.func22, Tryz.ntmps22
 go_wp2_with fail
 refine H1.out.mono ?_
 rintro _ w1 ⟨Av, Aa, Ap, Am, cv, ca, cp, cm, rfl, hT, hb⟩
 obtain ⟨W, hW⟩ : ∃ W, W = w1.alloc (.cells #[.slice Av n1 cv, .slice Aa n2 ca, .slice Ap n3 cp, .slice Am n4 cm] 27) := ⟨_, rfl⟩
 have hf : Fr NoT w1 W := by rw [hW]; exact (Fr.refl _ _).alloc _
 have HC := Lib.hid (H2.out W (New w.heap.size w1) Av Aa Ap Am cv ca cp cm ((Fr.below hb).trans hf) (fun b hb => Nat.lt_of_lt_of_le hb.2 hf.size) (hT.keep (hf.same fun b hb => ⟨hb.2, id⟩)))
 have HWE := Lib.hid hW
 have HF := Lib.hid ((Fr.below (T := NoT) hb).trans hf)
 clear hT hb hW hf H1 H2
 go_wp2_with fail
 rw [← HWE.out]
 refine HC.out.mono ?_
 rintro _ w2 ⟨rfl, hf2⟩
 have HF2 := Lib.hid (HF.out.trans hf2)
 clear hf2 HC
 rcases hc with ⟨e1, rfl⟩ | ⟨e1, e2, rfl⟩ | ⟨e1, e2, rfl⟩
 all_goals
  go_wp2_with fail
  go_ret
  exact ⟨rfl, HF2.out⟩
def pa0 : List UInt8 := [118, 97, 114, 32, 32, 120, 32, 59, 32, 109, 97, 105, 110, 32, 123, 32, 120, 32, 61, 32, 40, 40, 120, 41, 32, 43, 32, 50, 41, 32, 42, 32, 51, 32, 59, 32, 125]
theorem pa_prt : prtB pa0 = [118, 97, 114, 32, 120, 59, 109, 97, 105, 110, 123, 120, 61, 40, 120, 43, 50, 41, 42, 51, 59, 125] := by kernel_rfl

def TruePost (W : World) (e : Ending) (w' : World) : Prop := e = .returned (.bool true) ∧ Below W.heap.size W w'
theorem pa_ok : okTr (parseB pa0).1 = true := by kernel_rfl
theorem pa_room : decide (sumT (treT (parseB pa0).1) ≤ 140737488355328) = true := by kernel_rfl
theorem palive_any (w : World) (he : NameEnv w) : Calls Tryz.prog 19 #[] w (TruePost w) := by
 have h1 := printed_any ⟨pa0.toArray⟩ (by decide) w he (szT_ok pa_ok) (fun _ => of_decide_eq_true pa_room)
 rw [show (⟨pa0.toArray⟩ : ByteArray).data.toList = pa0 from rfl, pa_prt] at h1
 unfold pa0 at h1
 have H1 := Lib.hid h1
 have HE : (⟨#[118, 97, 114, 32, 120, 59, 109, 97, 105, 110, 123, 120, 61, 40, 120, 43, 50, 41, 42, 51, 59, 125]⟩ : ByteArray).toList = [118, 97, 114, 32, 120, 59, 109, 97, 105, 110, 123, 120, 61, 40, 120, 43, 50, 41, 42, 51, 59, 125] := by kernel_rfl
 clear h1 he
 go_enter Tryz.func19, Tryz.ntmps19
 go_wp2_with fail
 refine H1.out.mono ?_
 rintro _ w1 ⟨rfl, hf⟩
 have HF := Lib.hid hf
 clear hf H1
 go_wp2_with fail
 go_ret
 exact ⟨rfl, HF.out.plain⟩

theorem pback_no (s : ByteArray) (hs : s.size ≤ 9223372036854775807) (w : World) (he : NameEnv w) (h : (parseB s.data.toList).2.2 ≠ 0) : Calls Tryz.prog 8 #[.string s] w (TruePost w) := by
 have H1 := Lib.hid (fun W (h : Fr NoT w W) => palive_any W (he.keep h.plain))
 have h2 := fun W (h : Fr NoT w W) => parse_any s hs W (he.keep h.plain)
 obtain ⟨⟨t, a, e⟩, hq⟩ : ∃ y, y = parseB s.data.toList := ⟨_, rfl⟩
 rw [← hq] at h2 h
 have he1 : (e != 0) = true := by simpa using h
 obtain ⟨n1, hn1⟩ : ∃ n, n = t.vars.length := ⟨_, rfl⟩
 obtain ⟨n2, hn2⟩ : ∃ n, n = t.arrays.length := ⟨_, rfl⟩
 obtain ⟨n3, hn3⟩ : ∃ n, n = t.procs.length := ⟨_, rfl⟩
 obtain ⟨n4, hn4⟩ : ∃ n, n = t.main.len := ⟨_, rfl⟩
 have h3 : ∀ W, Fr NoT w W → Calls Tryz.prog 21 #[.string s] W (fun f w' => ∃ (A1 A2 A3 A4 : Option Addr) (c1 c2 c3 c4 : Nat), f = .returned (.tuple #[.agg #[.slice A1 n1 c1, .slice A2 n2 c2, .slice A3 n3 c3, .slice A4 n4 c4], .int .i64 a, .int .i64 e]) ∧ Fr NoT W w') :=
  fun W h => (h2 W h).mono fun f w' ⟨A1, A2, A3, A4, c1, c2, c3, c4, e1, _, e3⟩ => ⟨A1, A2, A3, A4, c1, c2, c3, c4, by rw [e1, hn1, hn2, hn3, hn4]; rfl, Fr.below e3⟩
 have H2 := Lib.hid h3
 have hk : decide ((100000 : Int) < (s.size : Int)) = true ∨ decide ((100000 : Int) < (s.size : Int)) = false := by
  cases decide ((100000 : Int) < (s.size : Int))
  ·exact .inr rfl
  ·exact .inl rfl
 have hk2 : (decide ((100000 : Int) < (s.size : Int)) = true ∧ decide (100000 < s.size) = true) ∨ (decide ((100000 : Int) < (s.size : Int)) = false ∧ decide (100000 < s.size) = false) := by
  by_cases hx : 100000 < s.size
  ·exact .inl ⟨by simp; omega, by simp; omega⟩
  ·exact .inr ⟨by simp; omega, by simp; omega⟩
 clear h2 h3 h he hq hn1 hn2 hn3 hn4 hk
 rcases hk2 with ⟨k1, k2⟩ | ⟨k1, k2⟩
 ·go_enter Tryz.func8, Tryz.ntmps8
  go_wp2_with fail
  refine (H1.out w (Fr.refl _ _)).mono ?_
  rintro _ w1 ⟨rfl, hb1⟩
  have HF := Lib.hid hb1
  clear hb1 H1 H2
  go_wp2_with fail
  go_ret
  exact ⟨rfl, HF.out⟩
 ·go_enter Tryz.func8, Tryz.ntmps8
  go_wp2_with fail
  refine (H1.out w (Fr.refl _ _)).mono ?_
  rintro _ w1 ⟨rfl, hb1⟩
  have HF := Lib.hid (Fr.below (T := NoT) hb1)
  clear hb1 H1
  go_wp2_with fail
  refine (H2.out w1 HF.out).mono ?_
  rintro _ w2 ⟨A1, A2, A3, A4, c1, c2, c3, c4, rfl, hf2⟩
  have HF2 := Lib.hid (HF.out.trans (hf2.alloc (.cells #[.slice A1 n1 c1, .slice A2 n2 c2, .slice A3 n3 c3, .slice A4 n4 c4] 27)))
  clear hf2 H2
  go_wp2_with fail
  go_ret
  exact ⟨rfl, HF2.out.plain⟩
theorem pback_yes (s : ByteArray) (hs : s.size ≤ 9223372036854775807) (w : World) (he : NameEnv w) (h : (parseB s.data.toList).2.2 = 0) : Calls Tryz.prog 8 #[.string s] w (TruePost w) := by
 obtain ⟨b1, b2, b3, b4, b5, b6, b7⟩ := back_law h
 have H1 := Lib.hid (fun W (h : Fr NoT w W) => palive_any W (he.keep h.plain))
 have h2 := fun W (h : Fr NoT w W) => parse_any s hs W (he.keep h.plain)
 have hsl : s.size = s.data.toList.length := by rw [Array.length_toList]; rfl
 obtain ⟨⟨t, a, e⟩, hq⟩ : ∃ y, y = parseB s.data.toList := ⟨_, rfl⟩
 rw [← hq] at h2 h b1 b2 b4 b5 b6 b7
 simp only at h b1 b2 b4 b5 b6 b7
 subst h
 obtain ⟨s2, hs2⟩ : ∃ y : ByteArray, y = ⟨(printB t).toArray⟩ := ⟨_, rfl⟩
 have hs2l : s2.data.toList = printB t := by rw [hs2]
 have hs2z : s2.size = (printB t).length := by rw [hs2]; show (printB t).toArray.size = _; simp
 have h3 := fun (W : World) (S : Nat → Prop) (Av Aa Ap Am : Option Addr) (cv ca cp cm : Nat) (hf : Fr NoT w W) (hS : ∀ b, S b → b < W.heap.size) (hx : TrR W S False t Av Aa Ap Am cv ca cp cm) => print_any t W S False Av Aa Ap Am cv ca cp cm (he.keep hf.plain) hS (szT_ok b1) hx (fun _ => b4)
 rw [show prB t = printB t from if_pos b1, show prE t = 0 from if_pos b1, ← hs2] at h3
 have h4 := fun W (h : Fr NoT w W) => parse_any s2 (by omega) W (he.keep h.plain)
 rw [hs2l] at h4
 have b9 := back_law b5
 have b8 := b9.1
 have b10 := b9.2.2.2.1
 clear b9
 have h6 := fun W (h : Fr NoT w W) => printed_any s2 (by omega) W (he.keep h.plain) (by rw [hs2l]; exact szT_ok b8) (fun _ => by rw [hs2l]; exact b10)
 rw [show prtB s2.data.toList = printB t from by
  rw [hs2l]
  unfold prtB
  rw [if_pos ⟨b5, show prE (parseB (printB t)).1 = 0 from if_pos b8⟩, show prB (parseB (printB t)).1 = printB (parseB (printB t)).1 from if_pos b8]
  exact b7, ← hs2] at h6
 obtain ⟨⟨u, a2, e2⟩, hq2⟩ : ∃ y, y = parseB (printB t) := ⟨_, rfl⟩
 rw [← hq2] at h4 b5 b6
 simp only at b5 b6
 subst b5
 have h5 := fun W (S1 S2 : Nat → Prop) (Av Aa Ap Am Bv Ba Bp Bm : Option Addr) (cv ca cp cm dv da dp dm : Nat) (g1 : ∀ b, S1 b → b < W.heap.size) (g2 : ∀ b, S2 b → b < W.heap.size) (x1 : TrR W S1 False t Av Aa Ap Am cv ca cp cm) (x2 : TrR W S2 False u Bv Ba Bp Bm dv da dp dm) => psame_any t u W S1 S2 False False Av Aa Ap Am Bv Ba Bp Bm cv ca cp cm dv da dp dm g1 g2 x1 x2
 rw [eqT_alike b6.symm] at h5
 obtain ⟨n1, hn1⟩ : ∃ n, n = t.vars.length := ⟨_, rfl⟩
 obtain ⟨n2, hn2⟩ : ∃ n, n = t.arrays.length := ⟨_, rfl⟩
 obtain ⟨n3, hn3⟩ : ∃ n, n = t.procs.length := ⟨_, rfl⟩
 obtain ⟨n4, hn4⟩ : ∃ n, n = t.main.len := ⟨_, rfl⟩
 obtain ⟨m1, hm1⟩ : ∃ n, n = u.vars.length := ⟨_, rfl⟩
 obtain ⟨m2, hm2⟩ : ∃ n, n = u.arrays.length := ⟨_, rfl⟩
 obtain ⟨m3, hm3⟩ : ∃ n, n = u.procs.length := ⟨_, rfl⟩
 obtain ⟨m4, hm4⟩ : ∃ n, n = u.main.len := ⟨_, rfl⟩
 unfold ParsP trV at h2 h4
 unfold trV at h3 h5
 simp only at h2 h4
 rw [← hn1, ← hn2, ← hn3, ← hn4] at h3 h5
 rw [← hm1, ← hm2, ← hm3, ← hm4] at h5
 simp only [← hn1, ← hn2, ← hn3, ← hn4] at h2
 simp only [← hm1, ← hm2, ← hm3, ← hm4] at h4
 have H2 := Lib.hid h2
 have H3 := Lib.hid h3
 have H4 := Lib.hid h4
 have H5 := Lib.hid h5
 have H6 := Lib.hid h6
 have k1 : decide ((100000 : Int) < (s.size : Int)) = false := by simp; omega
 have k2 : decide (100000 < s.size) = false := by simp; omega
 have k3 : decide ((s2.size : Int) ≤ (s.size : Int)) = true := by simp; omega
 have k4 : decide (s2.size ≤ s.size) = true := by simp; omega
 have k5 : (s2.toList == s2.toList) = true := by simp
 clear h2 h3 h4 h5 h6 he hq hq2 hn1 hn2 hn3 hn4 hm1 hm2 hm3 hm4 b1 b2 b3 b4 b6 b7 b8 b10 hs2 hs2l hs2z hsl
 go_enter Tryz.func8, Tryz.ntmps8
 go_wp2_with fail
 refine (H1.out w (Fr.refl _ _)).mono ?_
 rintro _ w1 ⟨rfl, hb1⟩
 have HF1 := Lib.hid (Fr.below (T := NoT) hb1)
 clear hb1 H1
 go_wp2_with fail
 refine (H2.out w1 HF1.out).mono ?_
 rintro _ w2 ⟨Av, Aa, Ap, Am, cv, ca, cp, cm, rfl, hT, hb⟩
 obtain ⟨W, hW⟩ : ∃ W, W = w2.alloc (.cells #[.slice Av n1 cv, .slice Aa n2 ca, .slice Ap n3 cp, .slice Am n4 cm] 27) := ⟨_, rfl⟩
 have hf : Fr NoT w2 W := by rw [hW]; exact (Fr.refl _ _).alloc _
 have hk : Bk W w2.heap.size 27 #[.slice Av n1 cv, .slice Aa n2 ca, .slice Ap n3 cp, .slice Am n4 cm] := by rw [hW]; exact Bk.new w2 _ _
 have hT1 := hT.keep (hf.same fun b hb => ⟨hb.2, id⟩)
 have hS1 : ∀ b, New w1.heap.size w2 b → b < W.heap.size := fun b hb => Nat.lt_of_lt_of_le hb.2 hf.size
 have HC := Lib.hid (H3.out W _ Av Aa Ap Am cv ca cp cm (HF1.out.trans ((Fr.below hb).trans hf)) hS1 hT1)
 have HF2 := Lib.hid (HF1.out.trans ((Fr.below (T := NoT) hb).trans hf))
 have HT1 := Lib.hid (And.intro hS1 (And.intro hT1 hk))
 have HWE := Lib.hid hW
 clear hT hb hW hf hk hT1 hS1 H2 H3
 go_wp2_with fail
 rw [← HWE.out]
 refine HC.out.mono ?_
 rintro _ w3 ⟨rfl, hf3⟩
 have HF3 := Lib.hid (HF2.out.trans hf3)
 have HT3 := Lib.hid (And.intro (fun b hb => Nat.lt_of_lt_of_le (HT1.out.1 b hb) hf3.size) (And.intro (HT1.out.2.1.keep (hf3.same fun b hb => ⟨HT1.out.1 b hb, id⟩)) (HT1.out.2.2.fr0 hf3)))
 clear hf3 HC HWE HT1 HF2
 go_wp2_with fail
 refine (H4.out w3 HF3.out).mono ?_
 rintro _ w4 ⟨Bv, Ba, Bp, Bm, dv, da, dp, dm, rfl, hT, hb⟩
 have hf4 : Fr NoT w3 w4 := Fr.below hb
 obtain ⟨W4, hW⟩ : ∃ W, W = w4.alloc (.cells #[.slice Bv m1 dv, .slice Ba m2 da, .slice Bp m3 dp, .slice Bm m4 dm] 27) := ⟨_, rfl⟩
 have hf : Fr NoT w4 W4 := by rw [hW]; exact (Fr.refl _ _).alloc _
 have hk4 : Bk W4 w4.heap.size 27 #[.slice Bv m1 dv, .slice Ba m2 da, .slice Bp m3 dp, .slice Bm m4 dm] := by rw [hW]; exact Bk.new w4 _ _
 have hf34 := hf4.trans hf
 have hk1 := HT3.out.2.2.fr0 hf34
 have HC := Lib.hid (H5.out W4 _ _ Av Aa Ap Am Bv Ba Bp Bm cv ca cp cm dv da dp dm (fun b hb => Nat.lt_of_lt_of_le (HT3.out.1 b hb) hf34.size) (fun b (hb : New w3.heap.size w4 b) => Nat.lt_of_lt_of_le hb.2 hf.size) (HT3.out.2.1.keep (hf34.same fun b hb => ⟨HT3.out.1 b hb, id⟩)) (hT.keep (hf.same fun b hb => ⟨hb.2, id⟩)))
 have HF4 := Lib.hid (HF3.out.trans hf34)
 have x0 := hk1.cell 0
 have x1 := hk1.cell 1
 have x2 := hk1.cell 2
 have x3 := hk1.cell 3
 have xl := hk1.lt
 have xl4 : w2.heap.size < w4.heap.size := Nat.lt_of_lt_of_le HT3.out.2.2.lt hf4.size
 have y0 := (hf.cell (p := ⟨w2.heap.size, 0, none⟩) xl4 id).symm.trans x0
 have y1 := (hf.cell (p := ⟨w2.heap.size, 1, none⟩) xl4 id).symm.trans x1
 have y2 := (hf.cell (p := ⟨w2.heap.size, 2, none⟩) xl4 id).symm.trans x2
 have y3 := (hf.cell (p := ⟨w2.heap.size, 3, none⟩) xl4 id).symm.trans x3
 simp only [getsL] at y0 y1 y2 y3
 have HWE := Lib.hid hW
 clear hT hb hW hf hk4 hf34 hk1 hf4 x0 x1 x2 x3 xl H4 H5 HT3 HF3
 go_wp2_with fail
 rw [← HWE.out]
 refine HC.out.mono ?_
 rintro _ w5 ⟨rfl, hf5⟩
 have HF5 := Lib.hid (HF4.out.trans hf5)
 have HC6 := Lib.hid (H6.out w5 HF5.out)
 clear hf5 HC HWE y0 y1 y2 y3 xl4 HF4 H6
 go_wp2_with fail
 refine HC6.out.mono ?_
 rintro _ w6 ⟨rfl, hf6⟩
 have HF6 := Lib.hid (HF5.out.trans hf6)
 clear hf6 HC6
 go_wp2_with fail
 go_ret
 exact ⟨rfl, HF6.out.plain⟩
theorem pback_any (s : ByteArray) (hs : s.size ≤ 9223372036854775807) (w : World) (he : NameEnv w) : Calls Tryz.prog 8 #[.string s] w (TruePost w) := by
 by_cases h : (parseB s.data.toList).2.2 = 0
 ·exact pback_yes s hs w he h
 ·exact pback_no s hs w he h
end Go.Proofs.YtfcegaklbicmfaaGreatDoor
