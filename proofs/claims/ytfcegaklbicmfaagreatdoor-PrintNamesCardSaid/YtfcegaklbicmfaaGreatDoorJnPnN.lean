/-
  law10: printed, alive; PrintNames.
-/
import Derived.Test.YtfcegaklbicmfaaGreatDoorJnPnV
import Derived.Test.YtfcegaklbicmfaaGreatDoorJnPs
import Derived.Test.YtfcegaklbicmfaaGreatDoorJnPnG
set_option linter.unusedVariables false
set_option linter.unusedSimpArgs false
set_option maxHeartbeats 1600000
set_option maxRecDepth 100000
namespace Go.Proofs.YtfcegaklbicmfaaGreatDoor
open Go.RowKit Go.Shelf

def prB (t : Tre) : List UInt8 := if okTr t = true then printB t else []
def prE (t : Tre) : Int := if okTr t = true then 0 else 8
theorem print_any (t : Tre) (w : World) (S : Nat → Prop) (Z : Prop) (Av Aa Ap Am : Option Addr) (cv ca cp cm : Nat) (he : NameEnv w) (hS : ∀ b, S b → b < w.heap.size) (hsz : SzT t) (hx : TrR w S Z t Av Aa Ap Am cv ca cp cm) (hlen : okTr t = true → sumT (treT t) ≤ 140737488355328) :
  Calls Tryz.prog 18 #[trV t Av Aa Ap Am cv ca cp cm] w fun e w' => e = .returned (.tuple #[.string ⟨(prB t).toArray⟩, .int .i64 (prE t)]) ∧ Fr NoT w w' := by
 cases ht : okTr t
 ·unfold prB prE
  rw [ht]
  exact print_bad t w S Z Av Aa Ap Am cv ca cp cm he.toSp hS hsz hx ht
 ·unfold prB prE
  rw [ht]
  exact print_ok t w S Z Av Aa Ap Am cv ca cp cm he.toSp he.lex.tab hS hsz hx ht (hlen ht)
def prtB (l : List UInt8) : List UInt8 := if (parseB l).2.2 = 0 ∧ prE (parseB l).1 = 0 then prB (parseB l).1 else []
theorem printed_any (s : ByteArray) (hs : s.size ≤ 9223372036854775807) (w : World) (he : NameEnv w) (hsz : SzT (parseB s.data.toList).1) (hlen : okTr (parseB s.data.toList).1 = true → sumT (treT (parseB s.data.toList).1) ≤ 140737488355328) :
  Calls Tryz.prog 22 #[.string s] w fun e w' => e = .returned (.string ⟨(prtB s.data.toList).toArray⟩) ∧ Fr NoT w w' := by
 have h1 := parse_any s hs w he
 obtain ⟨TX, hTX⟩ : ∃ y, y = prtB s.data.toList := ⟨_, rfl⟩
 have hT2 : TX = if (parseB s.data.toList).2.2 = 0 ∧ prE (parseB s.data.toList).1 = 0 then prB (parseB s.data.toList).1 else [] := hTX
 rw [← hTX]
 clear hTX
 obtain ⟨⟨t, a, e⟩, hq⟩ : ∃ y, y = parseB s.data.toList := ⟨_, rfl⟩
 rw [← hq] at h1 hsz hlen hT2
 simp only at hsz hlen hT2
 have h2 := fun (W : World) (S : Nat → Prop) (Av Aa Ap Am : Option Addr) (cv ca cp cm : Nat) (hf : Fr NoT w W) (hS : ∀ b, S b → b < W.heap.size) (hx : TrR W S False t Av Aa Ap Am cv ca cp cm) => print_any t W S False Av Aa Ap Am cv ca cp cm (he.keep hf.plain) hS hsz hx hlen
 obtain ⟨pb, hpb⟩ : ∃ y, y = prB t := ⟨_, rfl⟩
 obtain ⟨pe, hpe⟩ : ∃ y, y = prE t := ⟨_, rfl⟩
 rw [← hpb, ← hpe] at h2 hT2
 obtain ⟨n1, hn1⟩ : ∃ n, n = t.vars.length := ⟨_, rfl⟩
 obtain ⟨n2, hn2⟩ : ∃ n, n = t.arrays.length := ⟨_, rfl⟩
 obtain ⟨n3, hn3⟩ : ∃ n, n = t.procs.length := ⟨_, rfl⟩
 obtain ⟨n4, hn4⟩ : ∃ n, n = t.main.len := ⟨_, rfl⟩
 unfold ParsP at h1
 unfold trV at h1 h2
 simp only at h1
 rw [← hn1, ← hn2, ← hn3, ← hn4] at h1 h2
 have H1 := Lib.hid h1
 have H2 := Lib.hid h2
 have HT := Lib.hid hT2
 have hc : ((e != 0) = true ∧ TX = []) ∨ ((e != 0) = false ∧ (pe != 0) = true ∧ TX = []) ∨ ((e != 0) = false ∧ (pe != 0) = false ∧ TX = pb) := by
  by_cases h : e = 0
  ·by_cases h' : pe = 0
   ·exact .inr (.inr ⟨by simpa using h, by simpa using h', by rw [hT2, if_pos ⟨h, h'⟩]⟩)
   ·exact .inr (.inl ⟨by simpa using h, by simpa using h', by rw [hT2, if_neg (fun hh => h' hh.2)]⟩)
  ·exact .inl ⟨by simpa using h, by rw [hT2, if_neg (fun hh => h hh.1)]⟩
 clear h1 h2 hT2 hsz hlen hq hpb hpe hn1 hn2 hn3 hn4 he hs
 go_enter Tryz.func22, Tryz.ntmps22
 go_wp2_with fail
 refine H1.out.mono ?_
 rintro _ w1 ⟨Av, Aa, Ap, Am, cv, ca, cp, cm, rfl, hT, hb⟩
 obtain ⟨W, hW⟩ : ∃ W, W = w1.alloc (.cells #[.slice Av n1 cv, .slice Aa n2 ca, .slice Ap n3 cp, .slice Am n4 cm] 27) := ⟨_, rfl⟩
 have hf : Fr NoT w1 W := by rw [hW]; exact (Fr.refl _ _).alloc _
 have HC := Lib.hid (H2.out W (New w.heap.size w1) Av Aa Ap Am cv ca cp cm ((Fr.below hb).trans hf) (fun b hb => Nat.lt_of_lt_of_le hb.2 hf.size) (hT.keep (hf.same fun b hb => ⟨hb.2, id⟩)))
 have HWE := Lib.hid hW
 have HF := Lib.hid ((Fr.below (T := NoT) hb).trans hf)
 clear hT hb hW hf H1 H2
 go_wp2_with fail
 rw [← HWE.out]
 refine HC.out.mono ?_
 rintro _ w2 ⟨rfl, hf2⟩
 have HF2 := Lib.hid (HF.out.trans hf2)
 clear hf2 HC
 rcases hc with ⟨e1, rfl⟩ | ⟨e1, e2, rfl⟩ | ⟨e1, e2, rfl⟩
 all_goals
  go_wp2_with fail
  go_ret
  exact ⟨rfl, HF2.out⟩
def pa0 : List UInt8 := [118, 97, 114, 32, 32, 120, 32, 59, 32, 109, 97, 105, 110, 32, 123, 32, 120, 32, 61, 32, 40, 40, 120, 41, 32, 43, 32, 50, 41, 32, 42, 32, 51, 32, 59, 32, 125]
theorem pa_prt : prtB pa0 = [118, 97, 114, 32, 120, 59, 109, 97, 105, 110, 123, 120, 61, 40, 120, 43, 50, 41, 42, 51, 59, 125] := by kernel_rfl

def TruePost (W : World) (e : Ending) (w' : World) : Prop := e = .returned (.bool true) ∧ Below W.heap.size W w'
theorem pa_ok : okTr (parseB pa0).1 = true := by kernel_rfl
theorem pa_room : decide (sumT (treT (parseB pa0).1) ≤ 140737488355328) = true := by kernel_rfl
theorem palive_any (w : World) (he : NameEnv w) : Calls Tryz.prog 19 #[] w (TruePost w) := by
 have h1 := printed_any ⟨pa0.toArray⟩ (by decide) w he (szT_ok pa_ok) (fun _ => of_decide_eq_true pa_room)
 rw [show (⟨pa0.toArray⟩ : ByteArray).data.toList = pa0 from rfl, pa_prt] at h1
 unfold pa0 at h1
 have H1 := Lib.hid h1
 have HE : (⟨#[118, 97, 114, 32, 120, 59, 109, 97, 105, 110, 123, 120, 61, 40, 120, 43, 50, 41, 42, 51, 59, 125]⟩ : ByteArray).toList = [118, 97, 114, 32, 120, 59, 109, 97, 105, 110, 123, 120, 61, 40, 120, 43, 50, 41, 42, 51, 59, 125] := by kernel_rfl
 clear h1 he
 go_enter Tryz.func19, Tryz.ntmps19
 go_wp2_with fail
 refine H1.out.mono ?_
 rintro _ w1 ⟨rfl, hf⟩
 have HF := Lib.hid hf
 clear hf H1
 go_wp2_with fail
 go_ret
 exact ⟨rfl, HF.out.plain⟩
def badT : Tre := ⟨[], [], [], .cons 0 ⟨#[]⟩ .nil .nil .nil .nil 0 .nil⟩
theorem badT_ok : okTr badT = false := by kernel_rfl
theorem badT_R {w W : World} (h : Bk W w.heap.size 35 #[.int .u8 0, .string ⟨#[]⟩, .slice none 0 0, .slice none 0 0, .slice none 0 0, .slice none 0 0, .int .i64 0]) : TrR W (fun b => b = w.heap.size) False badT none none none (some ⟨w.heap.size, 0, none⟩) 0 0 0 1 := by
 have sl0 : ∀ (P : Nat → Nat → Prop) (n : Nat), SlR P 0 n none 0 := fun P n => ⟨Nat.le_refl 0, ⟨by decide, by simp⟩, fun h => absurd h (Nat.lt_irrefl 0)⟩
 refine ⟨sl0 _ _, sl0 _ _, sl0 _ _, ⟨Nat.le_refl 1, ⟨by decide, by decide⟩, fun _ => ⟨_, _, rfl, ⟨rfl, fun h => h.elim, ⟨by decide, by decide⟩, ⟨by decide, by decide⟩, h.cell 0, h.cell 1, h.cell 6⟩, ⟨_, _, h.cell 2, sl0 _ _⟩, ⟨_, _, h.cell 3, sl0 _ _⟩, ⟨_, _, h.cell 4, sl0 _ _⟩, ⟨_, _, h.cell 5, sl0 _ _⟩, trivial⟩⟩⟩
theorem badT_sz : SzT badT := by
 refine ⟨fun x hx => (by simp [badT] at hx), fun x hx => (by simp [badT] at hx), fun x hx => (by simp [badT] at hx), ?_⟩
 exact ⟨by decide, trivial, trivial, trivial, trivial, trivial⟩
theorem pnames_any (w : World) (he : NameEnv w) : Calls Tryz.prog 5 #[] w (TruePost w) := by
 have hstep : ∀ W : World, Fr NoT w W → Fr NoT w (W.alloc (.cells #[.int .u8 0, .string ⟨#[]⟩, .slice none 0 0, .slice none 0 0, .slice none 0 0, .slice none 0 0, .int .i64 0] 35)) ∧ NameEnv (W.alloc (.cells #[.int .u8 0, .string ⟨#[]⟩, .slice none 0 0, .slice none 0 0, .slice none 0 0, .slice none 0 0, .int .i64 0] 35)) ∧ TrR (W.alloc (.cells #[.int .u8 0, .string ⟨#[]⟩, .slice none 0 0, .slice none 0 0, .slice none 0 0, .slice none 0 0, .int .i64 0] 35)) (fun b => b = W.heap.size) False badT none none none (some ⟨W.heap.size, 0, none⟩) 0 0 0 1 ∧ (∀ b, b = W.heap.size → b < (W.alloc (.cells #[.int .u8 0, .string ⟨#[]⟩, .slice none 0 0, .slice none 0 0, .slice none 0 0, .slice none 0 0, .int .i64 0] 35)).heap.size) := fun W hf => by
  have hf2 : Fr NoT w (W.alloc (.cells #[.int .u8 0, .string ⟨#[]⟩, .slice none 0 0, .slice none 0 0, .slice none 0 0, .slice none 0 0, .int .i64 0] 35)) := hf.alloc _
  exact ⟨hf2, he.keep hf2.plain, badT_R (Bk.new W _ _), fun b hb => by rw [hb]; exact (Bk.new W _ _).lt⟩
 have H1 := Lib.hid (fun (W : World) (hf : Fr NoT w W) => show Calls Tryz.prog 17 #[.agg #[.slice none 0 0, .slice none 0 0, .slice none 0 0, .slice (some ⟨W.heap.size, 0, none⟩) 1 1]] _ (ErrI 8 _) from by
  have := pcheck_any badT _ _ False none none none (some ⟨W.heap.size, 0, none⟩) 0 0 0 1 (hstep W hf).2.1.toSp (hstep W hf).2.2.2 badT_sz (hstep W hf).2.2.1
  rw [badT_ok] at this
  exact this)
 have H2 := Lib.hid (fun (W : World) (hf : Fr NoT w W) => show Calls Tryz.prog 18 #[.agg #[.slice none 0 0, .slice none 0 0, .slice none 0 0, .slice (some ⟨W.heap.size, 0, none⟩) 1 1]] _ _ from
  print_bad badT _ _ False none none none (some ⟨W.heap.size, 0, none⟩) 0 0 0 1 (hstep W hf).2.1.toSp (hstep W hf).2.2.2 badT_sz (hstep W hf).2.2.1 badT_ok)
 have H3 := Lib.hid (fun (W : World) (hf : Fr NoT w W) => palive_any W (he.keep hf.plain))
 have H4 := Lib.hid (fun (W : World) (hf : Fr NoT w W) => show Calls Tryz.prog 17 #[.agg #[.slice none 0 0, .slice none 0 0, .slice none 0 0, .slice none 0 0]] W (ErrI 0 W) from
  pcheck_any noT W (fun _ => False) False none none none none 0 0 0 0 (he.keep hf.plain).toSp (fun b h => h.elim) ⟨fun x hx => (by simp [noT] at hx), fun x hx => (by simp [noT] at hx), fun x hx => (by simp [noT] at hx), trivial⟩ (noT_R _ _))
 have HS := Lib.hid (fun (W : World) (hf : Fr NoT w W) => (hstep W hf).1)
 clear he hstep
 go_enter Tryz.func5, Tryz.ntmps5
 go_wp2_with fail
 refine (H1.out w (Fr.refl _ _)).mono ?_
 rintro _ w1 ⟨rfl, hf1⟩
 have HF1 := Lib.hid ((HS.out w (Fr.refl _ _)).trans hf1)
 clear hf1 H1
 go_wp2_with fail
 refine (H2.out w1 HF1.out).mono ?_
 rintro _ w2 ⟨rfl, hf2⟩
 have HF2 := Lib.hid ((HS.out w1 HF1.out).trans hf2)
 clear hf2 H2
 go_wp2_with fail
 refine (H3.out w2 HF2.out).mono ?_
 rintro _ w3 ⟨rfl, hf3⟩
 have HF3 := Lib.hid (HF2.out.trans (Fr.below hf3))
 clear hf3 H3
 go_wp2_with fail
 refine (H4.out w3 HF3.out).mono ?_
 rintro _ w4 ⟨rfl, hf4⟩
 have HF4 := Lib.hid (HF3.out.trans hf4)
 clear hf4 H4
 go_wp2_with fail
 go_ret
 exact ⟨rfl, HF4.out.plain⟩
end Go.Proofs.YtfcegaklbicmfaaGreatDoor
