/-
  law12: twice, alive; InlineNames.
-/
import Derived.Test.YtfcegaklbicmfaaGreatDoorInTop
import Derived.Test.YtfcegaklbicmfaaGreatDoorJnPs
set_option linter.unusedVariables false
set_option linter.unusedSimpArgs false
namespace Go.Proofs.YtfcegaklbicmfaaGreatDoor
open Go.RowKit Go.Shelf

def TruePost (W : World) (e : Ending) (w' : World) : Prop := e = .returned (.bool true) ∧ Below W.heap.size W w'
def tw0 : List UInt8 := [118, 97, 114, 32, 120, 59, 112, 114, 111, 99, 32, 112, 40, 117, 41, 123, 120, 61, 117, 43, 49, 59, 125, 109, 97, 105, 110, 123, 99, 97, 108, 108, 32, 112, 40, 50, 41, 59, 99, 97, 108, 108, 32, 112, 40, 120, 41, 59, 125]
def bX : ByteArray := ⟨#[120]⟩
def bU1 : ByteArray := ⟨#[112, 46, 49, 46, 117]⟩
def bU2 : ByteArray := ⟨#[112, 46, 50, 46, 117]⟩
def tw1 : Tre := ⟨[⟨bX, 4⟩], [], [⟨⟨#[112]⟩, [⟨⟨#[117]⟩, 13⟩], .cons 2 bX (.cons 5 ⟨#[]⟩ 0 (.cons 2 ⟨#[117]⟩ 0 .nil 18 (.cons 1 ⟨#[]⟩ 1 .nil 20 .nil)) 19 .nil) .nil .nil .nil 16 .nil, 11⟩],
 .cons 9 ⟨#[112]⟩ (.cons 1 ⟨#[]⟩ 2 .nil 35 .nil) .nil .nil .nil 28 (.cons 9 ⟨#[112]⟩ (.cons 2 bX 0 .nil 45 .nil) .nil .nil .nil 38 .nil)⟩
theorem tw_parse : parseB tw0 = (tw1, 0, 0) := by kernel_rfl
def tw2 : Tre := ⟨[⟨bX, 4⟩, ⟨bU1, 13⟩, ⟨bU2, 13⟩], [], [],
 .cons 1 ⟨#[]⟩ .nil .nil .nil .nil 28 (.cons 2 bU1 (.cons 1 ⟨#[]⟩ 2 .nil 35 .nil) .nil .nil .nil 28 (.cons 2 bX (.cons 5 ⟨#[]⟩ 0 (.cons 2 bU1 0 .nil 18 (.cons 1 ⟨#[]⟩ 1 .nil 20 .nil)) 19 .nil) .nil .nil .nil 16
  (.cons 1 ⟨#[]⟩ .nil .nil .nil .nil 38 (.cons 2 bU2 (.cons 2 bX 0 .nil 45 .nil) .nil .nil .nil 38 (.cons 2 bX (.cons 5 ⟨#[]⟩ 0 (.cons 2 bU2 0 .nil 18 (.cons 1 ⟨#[]⟩ 1 .nil 20 .nil)) 19 .nil) .nil .nil .nil 16 .nil)))))⟩
theorem tw_inl : inlT tw1 = (tw2, 0) := by kernel_rfl
theorem tw_sz : SzT tw1 := by
 refine ⟨by decide +kernel, by decide +kernel, fun x hx => ?_, ?_⟩
 ·obtain rfl : x = ⟨⟨#[112]⟩, [⟨⟨#[117]⟩, 13⟩], .cons 2 bX (.cons 5 ⟨#[]⟩ 0 (.cons 2 ⟨#[117]⟩ 0 .nil 18 (.cons 1 ⟨#[]⟩ 1 .nil 20 .nil)) 19 .nil) .nil .nil .nil 16 .nil, 11⟩ := List.mem_singleton.1 hx
  refine ⟨by decide, by decide +kernel, ?_⟩
  repeat' first | exact trivial | apply And.intro | (show ByteArray.size _ ≤ _; decide)
 ·show szS tw1.main
  repeat' first | exact trivial | apply And.intro | (show ByteArray.size _ ≤ _; decide)
theorem twice_any (w : World) (he : NameEnv w) : Calls Tryz.prog 11 #[] w (InlP (tw2, 0) w) := by
 obtain ⟨w1, hw1⟩ : ∃ y, y = w.alloc (.cells #[.slice none 0 0, .slice none 0 0, .slice none 0 0, .slice none 0 0] 27) := ⟨_, rfl⟩
 have hf1 : Fr NoT w w1 := by rw [hw1]; exact (Fr.refl _ _).alloc _
 have hk1 : Bk w1 w.heap.size 27 #[.slice none 0 0, .slice none 0 0, .slice none 0 0, .slice none 0 0] := by rw [hw1]; exact Bk.new _ _ _
 have h1 := parse_any ⟨tw0.toArray⟩ (by decide) w1 (he.keep hf1.plain)
 rw [show (⟨tw0.toArray⟩ : ByteArray).data.toList = tw0 from rfl, tw_parse] at h1
 unfold tw0 at h1
 have HW1 := Lib.hid hw1
 have HF1 := Lib.hid hf1
 have HK1 := Lib.hid hk1
 clear hw1 hf1 hk1
 have H1 := Lib.hid (show Calls Tryz.prog 21 _ w1 (fun e w' => ∃ Av Aa Ap Am cv ca cp cm, e = .returned (.tuple #[.agg #[.slice Av 1 cv, .slice Aa 0 ca, .slice Ap 1 cp, .slice Am 2 cm], .int .i64 0, .int .i64 0]) ∧ TrR w' (New w1.heap.size w') False tw1 Av Aa Ap Am cv ca cp cm ∧ Below w1.heap.size w1 w') from h1)
 have HE := Lib.hid he
 clear h1 he
 go_enter Tryz.func11, Tryz.ntmps11
 go_wp2_with fail
 rw [← HW1.out]
 refine H1.out.mono ?_
 rintro _ w2 ⟨Av, Aa, Ap, Am, cv, ca, cp, cm, rfl, hT, hb⟩
 have hf2 : Fr NoT w1 w2 := Fr.below hb
 obtain ⟨w3, hw3⟩ : ∃ y, y = w2.alloc (.cells #[.slice Av 1 cv, .slice Aa 0 ca, .slice Ap 1 cp, .slice Am 2 cm] 27) := ⟨_, rfl⟩
 have hf3 : Fr NoT w2 w3 := by rw [hw3]; exact (Fr.refl _ _).alloc _
 have hf03 : Fr NoT w w3 := (HF1.out.trans hf2).trans hf3
 have h3 := inl_any tw1 w3 (New w1.heap.size w2) False Av Aa Ap Am cv ca cp cm (HE.out.keep hf03.plain).toSp (HE.out.keep hf03.plain).lex.tab (fun b hb => Nat.lt_of_lt_of_le hb.2 hf3.size) tw_sz (hT.keep (hf3.same fun b hb => ⟨hb.2, id⟩))
 rw [tw_inl] at h3
 have H3 := Lib.hid (show Calls Tryz.prog 14 #[.agg #[.slice Av 1 cv, .slice Aa 0 ca, .slice Ap 1 cp, .slice Am 2 cm]] w3 (fun e w' => ∃ Av Aa Ap Am cv ca cp cm, e = .returned (.tuple #[.agg #[.slice Av 3 cv, .slice Aa 0 ca, .slice Ap 0 cp, .slice Am 6 cm], .int .i64 0]) ∧ TrR w' (New w3.heap.size w') False tw2 Av Aa Ap Am cv ca cp cm ∧ Fr NoT w3 w') from h3)
 have HW3 := Lib.hid hw3
 have HF03 := Lib.hid hf03
 have HK3 := Lib.hid ((HK1.out.fr0 hf2).fr0 hf3)
 clear hT hb hf2 hw3 hf3 hf03 h3
 go_wp2_with fail
 rw [← HW3.out]
 go_at_call 14
 refine H3.out.mono ?_
 rintro _ w4 ⟨Bv, Ba, Bp, Bm, dv, da, dp, dm, rfl, hT4, hf4⟩
 have hk4 := HK3.out.fr0 hf4
 have z0 := hk4.frozen 0
 have z1 := hk4.frozen 1
 have z2 := hk4.frozen 2
 have z3 := hk4.frozen 3
 have y0 := hk4.cell 0
 have y1 := hk4.cell 1
 have y2 := hk4.cell 2
 have y3 := hk4.cell 3
 have yl := hk4.lt
 simp only [List.getElem?_toArray, List.getElem?_cons_succ, List.getElem?_cons_zero] at y0 y1 y2 y3
 obtain ⟨wf, hwf⟩ : ∃ y, y = (((w4.setCell ⟨w.heap.size, 0, none⟩ (.slice Bv 3 dv)).setCell ⟨w.heap.size, 1, none⟩ (.slice Ba 0 da)).setCell ⟨w.heap.size, 2, none⟩ (.slice Bp 0 dp)).setCell ⟨w.heap.size, 3, none⟩ (.slice Bm 6 dm) := ⟨_, rfl⟩
 have hff0 : Fr (fun i => i = w.heap.size) w4 wf := by rw [hwf]; exact Fr.own (Fr.own (Fr.own (Fr.own (Fr.refl _ _) _ _) _ _) _ _) _ _
 have hkf : Bk wf w.heap.size 27 #[.slice Bv 3 dv, .slice Ba 0 da, .slice Bp 0 dp, .slice Bm 6 dm] := by
  have := (((hk4.set_ 0 (.slice Bv 3 dv)).set_ 1 (.slice Ba 0 da)).set_ 2 (.slice Bp 0 dp)).set_ 3 (.slice Bm 6 dm)
  rw [hwf]; simpa using this
 have hff : Fr NoT w wf := Fr.thenT (HF03.out.trans hf4) hff0 fun i hi e => by have e : i = w.heap.size := e; omega
 have hz3 : w.heap.size < w3.heap.size := HK3.out.lt
 have hz4 := hf4.size
 have hzf := hff0.size
 have HT4 := Lib.hid (TrR.more (fun b (hb : New w3.heap.size w4 b) => (⟨by have := hb.1; omega, by have := hb.2; omega⟩ : New w.heap.size wf b)) (hT4.keep (hff0.same fun b hb => ⟨hb.2, fun e => by have e : b = w.heap.size := e; have := hb.1; omega⟩)))
 have HWF := Lib.hid hwf
 have HFF := Lib.hid hff
 have HKF := Lib.hid hkf
 clear hT4 hf4 hk4 hwf hff hff0 hkf hz3 hz4 hzf
 go_wp2_with fail
 rw [← HWF.out]
 refine bodyPost_ret (res_cell_tmp (p := 0) (q := 1) (ty := 27) rfl _ _ w.heap.size 27 _ (0, 0) _ rfl HKF.out Tryz.underlying27 rfl sizeTr) rfl ?_
 exact ⟨Bv, Ba, Bp, Bm, dv, da, dp, dm, rfl, HT4.out, HFF.out⟩
theorem bU1_l : bU1.toList = [112, 46, 49, 46, 117] := by kernel_rfl
theorem bU2_l : bU2.toList = [112, 46, 50, 46, 117] := by kernel_rfl
theorem bX_l : bX.toList = [120] := by kernel_rfl
theorem twice_at (w : World) (he : NameEnv w) : Calls Tryz.prog 11 #[] w (fun e w' => ∃ Av Aa Ap Am cv ca cp cm, e = .returned (.tuple #[.agg #[.slice Av 3 cv, .slice Aa 0 ca, .slice Ap 0 cp, .slice Am 6 cm], .int .i64 0]) ∧ TrR w' (New w.heap.size w') False tw2 Av Aa Ap Am cv ca cp cm ∧ Fr NoT w w') := twice_any w he
set_option maxRecDepth 100000 in
set_option maxHeartbeats 1600000 in
theorem ialive_any (w : World) (he : NameEnv w) : Calls Tryz.prog 12 #[] w (TruePost w) := by
 have H1 := Lib.hid (twice_at w he)
 clear he
 go_enter Tryz.func12, Tryz.ntmps12
 go_wp2_with fail
 refine H1.out.mono ?_
 rintro _ w1 ⟨Av, Aa, Ap, Am, cv, ca, cp, cm, rfl, hT, hf⟩
 obtain ⟨b, o, rfl, _, ⟨⟨hb1, hb2⟩, _, _, k1, _⟩, ⟨_, _, _, k2, _⟩, _⟩ := hT.vars.2.2 (by decide)
 have hcv := hT.vars.1
 have hcm := hT.main.1
 have HF := Lib.hid hf
 have q1 := bU1_l
 have q2 := bU2_l
 clear hT H1 hf
 go_wp2_with fail
 go_ret
 exact ⟨rfl, (HF.out.alloc _).plain⟩
set_option maxRecDepth 100000 in
set_option maxHeartbeats 1600000 in
theorem inames_any (w : World) (he : NameEnv w) : Calls Tryz.prog 3 #[] w (TruePost w) := by
 have H1 := Lib.hid (twice_at w he)
 have H2 := Lib.hid (fun W (h : Fr NoT w W) => ialive_any W (he.keep h.plain))
 clear he
 go_enter Tryz.func3, Tryz.ntmps3
 go_wp2_with fail
 refine H1.out.mono ?_
 rintro _ w1 ⟨Av, Aa, Ap, Am, cv, ca, cp, cm, rfl, hT, hf⟩
 obtain ⟨w2, hw2⟩ : ∃ y, y = w1.alloc (.cells #[.slice Av 3 cv, .slice Aa 0 ca, .slice Ap 0 cp, .slice Am 6 cm] 27) := ⟨_, rfl⟩
 have hf2 : Fr NoT w1 w2 := by rw [hw2]; exact (Fr.refl _ _).alloc _
 have hk2 : Bk w2 w1.heap.size 27 #[.slice Av 3 cv, .slice Aa 0 ca, .slice Ap 0 cp, .slice Am 6 cm] := by rw [hw2]; exact Bk.new _ _ _
 have hm := hT.main.imp fun _ _ h => StR.keep (hf2.same fun b hb => ⟨hb.2, id⟩) h
 have HW2 := Lib.hid hw2
 have HF2 := Lib.hid (hf.trans hf2)
 have HK2 := Lib.hid hk2
 have HM := Lib.hid hm
 clear hT hf hw2 hf2 hk2 hm H1
 go_wp2_with fail
 rw [← HW2.out]
 refine (H2.out w2 HF2.out).mono ?_
 rintro _ w3 ⟨rfl, hb3⟩
 have hf3 : Fr NoT w2 w3 := Fr.below hb3
 have hz12 : w1.heap.size < w2.heap.size := HK2.out.lt
 have hm3 := HM.out.imp fun _ _ h => StR.keep (hf3.same fun b (hb : New w.heap.size w1 b) => ⟨by have := hb.2; omega, id⟩) h
 have hk3 := HK2.out.fr0 hf3
 obtain ⟨-, hcm, hm⟩ := hm3
 obtain ⟨b, o, rfl, hS⟩ := hm (by decide)
 have hA := StR.drop 1 hS
 have hB := StR.drop 5 hS
 have zb := hk3.cell 3
 have zl := hk3.lt
 simp only [List.getElem?_toArray, List.getElem?_cons_succ, List.getElem?_cons_zero] at zb
 obtain ⟨⟨⟨hb0, hb1⟩, _, _, _, m0, -, -⟩, -⟩ := hS
 obtain ⟨⟨_, _, _, _, k0, k1, k6⟩, ⟨A2, c2, k2, _, _, hx2⟩, ⟨A3, c3, k3, _⟩, ⟨A4, c4, k4, _⟩, ⟨A5, c5, k5, _⟩, _⟩ := hA
 obtain ⟨bx, ox, rfl, ⟨⟨hbx0, hbx1⟩, _, _, _, _, e0, e1, e2, e4⟩, _⟩ := hx2 (by decide)
 obtain ⟨⟨_, _, _, _, l0, l1, l6⟩, ⟨B2, d2, l2, _, _, hy2⟩, ⟨B3, d3, l3, _⟩, ⟨B4, d4, l4, _⟩, ⟨B5, d5, l5, _⟩, _⟩ := hB
 obtain ⟨by_, oy, rfl, ⟨⟨hby0, hby1⟩, _, _, _, _, f0, f1, f2, f4⟩, ⟨B6, d6, f3, _, _, hz2⟩, _⟩ := hy2 (by decide)
 obtain ⟨bz, oz, rfl, ⟨⟨hbz0, hbz1⟩, _, _, _, _, g0, g1, g2, g4⟩, _⟩ := hz2 (by decide)
 have hz3 := hf3.size
 have hw1 : w1.heap.size < w3.heap.size := by omega
 have hbl : b < w3.heap.size := by omega
 have hbxl : bx < w3.heap.size := by omega
 have hbyl : by_ < w3.heap.size := by omega
 have hbzl : bz < w3.heap.size := by omega
 have HS : Hid (∀ W', Fr NoT w3 W' → W'.cell? ⟨w1.heap.size, 3, none⟩ = some (.slice (some ⟨b, o, none⟩) 6 cm) ∧ W'.cell? ⟨b, o + 1 * 7, none⟩ = some (.int .u8 2) ∧ W'.cell? ⟨b, o + 1 * 7 + 1, none⟩ = some (.string bU1) ∧ W'.cell? ⟨b, o + 1 * 7 + 2, none⟩ = some (.slice (some ⟨bx, ox, none⟩) 1 c2) ∧ W'.cell? ⟨b, o + 1 * 7 + 3, none⟩ = some (.slice A3 0 c3) ∧ W'.cell? ⟨b, o + 1 * 7 + 4, none⟩ = some (.slice A4 0 c4) ∧ W'.cell? ⟨b, o + 1 * 7 + 5, none⟩ = some (.slice A5 0 c5) ∧ W'.cell? ⟨b, o + 1 * 7 + 6, none⟩ = some (.int .i64 28) ∧ W'.cell? ⟨b, o + 5 * 7, none⟩ = some (.int .u8 2) ∧ W'.cell? ⟨b, o + 5 * 7 + 1, none⟩ = some (.string bX) ∧ W'.cell? ⟨b, o + 5 * 7 + 2, none⟩ = some (.slice (some ⟨by_, oy, none⟩) 1 d2) ∧ W'.cell? ⟨b, o + 5 * 7 + 3, none⟩ = some (.slice B3 0 d3) ∧ W'.cell? ⟨b, o + 5 * 7 + 4, none⟩ = some (.slice B4 0 d4) ∧ W'.cell? ⟨b, o + 5 * 7 + 5, none⟩ = some (.slice B5 0 d5) ∧ W'.cell? ⟨b, o + 5 * 7 + 6, none⟩ = some (.int .i64 16)) :=
  Lib.hid (fun W' hf => by
   have q : ∀ {p : Addr} {v : Value}, p.block < w3.heap.size → w3.cell? p = some v → W'.cell? p = some v := fun hp h => (hf.cell hp id).trans h
   exact ⟨q hw1 zb, q hbl k0, q hbl k1, q hbl k2, q hbl k3, q hbl k4, q hbl k5, q hbl k6, q hbl l0, q hbl l1, q hbl l2, q hbl l3, q hbl l4, q hbl l5, q hbl l6⟩)
 have HR : Hid (∀ W', Fr NoT w3 W' → W'.cell? ⟨w1.heap.size, 3, none⟩ = some (.slice (some ⟨b, o, none⟩) 6 cm) ∧ W'.cell? ⟨b, o, none⟩ = some (.int .u8 1) ∧ W'.cell? ⟨bx, ox + 2, none⟩ = some (.int .i64 2) ∧ W'.cell? ⟨by_, oy, none⟩ = some (.int .u8 5) ∧ W'.cell? ⟨by_, oy + 3, none⟩ = some (.slice (some ⟨bz, oz, none⟩) 2 d6) ∧ W'.cell? ⟨bz, oz + 1, none⟩ = some (.string bU2)) :=
  Lib.hid (fun W' hf => by
   have q : ∀ {p : Addr} {v : Value}, p.block < w3.heap.size → w3.cell? p = some v → W'.cell? p = some v := fun hp h => (hf.cell hp id).trans h
   exact ⟨q hw1 zb, q hbl m0, q hbxl e2, q hbyl f0, q hbyl f3, q hbzl g1⟩)
 have HF := Lib.hid (HF2.out.trans hf3)
 clear hk3 hb3 hf3 hm m0 k0 k1 k2 k3 k4 k5 k6 l0 l1 l2 l3 l4 l5 l6 e0 e1 e2 e4 f0 f1 f2 f3 f4 g0 g1 g2 g4 hx2 hy2 hz2 zb zl hb0 hb1 hbx0 hbx1 hby0 hby1 hbz0 hbz1 HM HF2 HK2 HW2 hz12 hz3
 go_wp2_with fail
 go_cut [3, 4] (fun s3 s4 wx => ∃ X Y, s3 = .pointer (some ⟨X, 0, none⟩) ∧ s4 = .pointer (some ⟨Y, 0, none⟩) ∧ Hid (Bk wx X 35 #[.int .u8 2, .string bU1, .slice (some ⟨bx, ox, none⟩) 1 c2, .slice A3 0 c3, .slice A4 0 c4, .slice A5 0 c5, .int .i64 28]) ∧ Hid (Bk wx Y 35 #[.int .u8 2, .string bX, .slice (some ⟨by_, oy, none⟩) 1 d2, .slice B3 0 d3, .slice B4 0 d4, .slice B5 0 d5, .int .i64 16]) ∧ Hid (Fr NoT w3 wx))
 case first =>
  refine wp_region_E (fun W' => W'.cell? ⟨w1.heap.size, 3, none⟩ = some (.slice (some ⟨b, o, none⟩) 6 cm) ∧ W'.cell? ⟨b, o + 1 * 7, none⟩ = some (.int .u8 2) ∧ W'.cell? ⟨b, o + 1 * 7 + 1, none⟩ = some (.string bU1) ∧ W'.cell? ⟨b, o + 1 * 7 + 2, none⟩ = some (.slice (some ⟨bx, ox, none⟩) 1 c2) ∧ W'.cell? ⟨b, o + 1 * 7 + 3, none⟩ = some (.slice A3 0 c3) ∧ W'.cell? ⟨b, o + 1 * 7 + 4, none⟩ = some (.slice A4 0 c4) ∧ W'.cell? ⟨b, o + 1 * 7 + 5, none⟩ = some (.slice A5 0 c5) ∧ W'.cell? ⟨b, o + 1 * 7 + 6, none⟩ = some (.int .i64 28) ∧ W'.cell? ⟨b, o + 5 * 7, none⟩ = some (.int .u8 2) ∧ W'.cell? ⟨b, o + 5 * 7 + 1, none⟩ = some (.string bX) ∧ W'.cell? ⟨b, o + 5 * 7 + 2, none⟩ = some (.slice (some ⟨by_, oy, none⟩) 1 d2) ∧ W'.cell? ⟨b, o + 5 * 7 + 3, none⟩ = some (.slice B3 0 d3) ∧ W'.cell? ⟨b, o + 5 * 7 + 4, none⟩ = some (.slice B4 0 d4) ∧ W'.cell? ⟨b, o + 5 * 7 + 5, none⟩ = some (.slice B5 0 d5) ∧ W'.cell? ⟨b, o + 5 * 7 + 6, none⟩ = some (.int .i64 16)) (fun i => decide (i < 11)) (by kernel_rfl) (HS.out _ ((Fr.refl NoT w3).drew)) (fun hHeld => ?_)
  refine wpE_pure 0 (v := ?_) rfl (by kernel_rfl) (fun _ _ _ h => h) (by rfl) ?_ ?_; rotate_left
  ·intro wz; go_simp; try with_reducible rfl
  try simp only [Act.put, List.setIfInBounds_toArray, List.set_cons_zero, List.set_cons_succ]
  refine wpE_take 1 (v := ?_) rfl (by kernel_rfl) (fun _ _ _ h => h) hHeld (by rfl) ?_ ?_; rotate_left
  ·intro wz hSz; (try dsimp only at hSz); go_simp; try with_reducible rfl
  try simp only [Act.put, List.setIfInBounds_toArray, List.set_cons_zero, List.set_cons_succ]
  refine wpE_pure 2 (v := ?_) rfl (by kernel_rfl) (fun _ _ _ h => h) (by rfl) ?_ ?_; rotate_left
  ·intro wz; go_simp; try with_reducible rfl
  try simp only [Act.put, List.setIfInBounds_toArray, List.set_cons_zero, List.set_cons_succ]
  refine wpE_take 3 (v := ?_) rfl (by kernel_rfl) (fun _ _ _ h => h) hHeld (by rfl) ?_ ?_; rotate_left
  ·intro wz hSz; (try dsimp only at hSz); go_simp; try with_reducible rfl
  try simp only [Act.put, List.setIfInBounds_toArray, List.set_cons_zero, List.set_cons_succ]
  refine wpE_pure 4 (v := ?_) rfl (by kernel_rfl) (fun _ _ _ h => h) (by rfl) ?_ ?_; rotate_left
  ·intro wz; go_simp; try with_reducible rfl
  try simp only [Act.put, List.setIfInBounds_toArray, List.set_cons_zero, List.set_cons_succ]
  refine wpE_take 5 (v := ?_) rfl (by kernel_rfl) (fun _ _ _ h => h) hHeld (by rfl) ?_ ?_; rotate_left
  ·intro wz hSz; (try dsimp only at hSz); go_simp; try with_reducible rfl
  try simp only [Act.put, List.setIfInBounds_toArray, List.set_cons_zero, List.set_cons_succ]
  refine wpE_pure 6 (v := ?_) rfl (by kernel_rfl) (fun _ _ _ h => h) (by rfl) ?_ ?_; rotate_left
  ·intro wz; go_simp; try with_reducible rfl
  try simp only [Act.put, List.setIfInBounds_toArray, List.set_cons_zero, List.set_cons_succ]
  refine wpE_take 7 (v := ?_) rfl (by kernel_rfl) (fun _ _ _ h => h) hHeld (by rfl) ?_ ?_; rotate_left
  ·intro wz hSz; (try dsimp only at hSz); go_simp; try with_reducible rfl
  try simp only [Act.put, List.setIfInBounds_toArray, List.set_cons_zero, List.set_cons_succ]
  refine wpE_two 8 9 rfl rfl (by kernel_rfl) (fun K' hK => ?_) (fun K' hK => ?_)
  ·go_simp
   obtain ⟨wA, hwA⟩ : ∃ y, y = (w3.alloc (.cells #[.int .u8 0, .string ⟨#[]⟩, .slice none 0 0, .slice none 0 0, .slice none 0 0, .slice none 0 0, .int .i64 0] 35)).drew := ⟨_, rfl⟩
   rw [← hwA]
   have hfA : Fr NoT w3 wA := by rw [hwA]; exact ((Fr.refl _ _).alloc _).drew
   have hsA := HS.out wA hfA
   try dsimp only
   refine hK _ _ (fun _ _ => hsA) ?_
   clear hK K' hHeld
   try simp only [Act.put, List.setIfInBounds_toArray, List.set_cons_zero, List.set_cons_succ]
   have hXA : Bk wA w3.heap.size 35 #[.int .u8 0, .string ⟨#[]⟩, .slice none 0 0, .slice none 0 0, .slice none 0 0, .slice none 0 0, .int .i64 0] := by rw [hwA]; exact (Bk.new _ _ _).fr0 ((Fr.refl _ _).drew)
   have HFA := Lib.hid hfA
   have HXA := Lib.hid hXA
   clear hwA hfA hXA
   refine wpE_next 9 rfl (by kernel_rfl) (fun K' hK => ?_)
   go_simp
   obtain ⟨wB, hwB⟩ : ∃ y, y = wA.alloc (.cells #[.int .u8 0, .string ⟨#[]⟩, .slice none 0 0, .slice none 0 0, .slice none 0 0, .slice none 0 0, .int .i64 0] 35) := ⟨_, rfl⟩
   rw [← hwB]
   have hfB : Fr NoT w3 wB := by rw [hwB]; exact HFA.out.alloc _
   have hsB := HS.out wB hfB
   try dsimp only
   refine hK _ _ (fun _ _ => hsB) ?_
   clear hK K' hsA hsB
   try simp only [Act.put, List.setIfInBounds_toArray, List.set_cons_zero, List.set_cons_succ]
   have hXB : Bk wB wA.heap.size 35 #[.int .u8 0, .string ⟨#[]⟩, .slice none 0 0, .slice none 0 0, .slice none 0 0, .slice none 0 0, .int .i64 0] := by rw [hwB]; exact Bk.new _ _ _
   have hAB : Fr NoT wA wB := by rw [hwB]; exact (Fr.refl _ _).alloc _
   have HXA' := Lib.hid (HXA.out.fr0 hAB)
   have HXB := Lib.hid hXB
   have HFB := Lib.hid hfB
   have HZA := Lib.hid (show w3.heap.size < wA.heap.size from HXA.out.lt)
   clear hwB hfB hXB hAB
   have hzA := HZA.out
   have yf0 := HXA'.out.frozen 0
   have yf1 := HXA'.out.frozen 1
   have yf2 := HXA'.out.frozen 2
   have yf3 := HXA'.out.frozen 3
   have yf4 := HXA'.out.frozen 4
   have yf5 := HXA'.out.frozen 5
   have yf6 := HXA'.out.frozen 6
   have yc0 := HXA'.out.cell 0
   have yc1 := HXA'.out.cell 1
   have yc2 := HXA'.out.cell 2
   have yc3 := HXA'.out.cell 3
   have yc4 := HXA'.out.cell 4
   have yc5 := HXA'.out.cell 5
   have yc6 := HXA'.out.cell 6
   simp only [List.getElem?_toArray, List.getElem?_cons_succ, List.getElem?_cons_zero] at yc0 yc1 yc2 yc3 yc4 yc5 yc6
   have yl := HXA'.out.lt
   have zf0 := HXB.out.frozen 0
   have zf1 := HXB.out.frozen 1
   have zf2 := HXB.out.frozen 2
   have zf3 := HXB.out.frozen 3
   have zf4 := HXB.out.frozen 4
   have zf5 := HXB.out.frozen 5
   have zf6 := HXB.out.frozen 6
   have zc0 := HXB.out.cell 0
   have zc1 := HXB.out.cell 1
   have zc2 := HXB.out.cell 2
   have zc3 := HXB.out.cell 3
   have zc4 := HXB.out.cell 4
   have zc5 := HXB.out.cell 5
   have zc6 := HXB.out.cell 6
   simp only [List.getElem?_toArray, List.getElem?_cons_succ, List.getElem?_cons_zero] at zc0 zc1 zc2 zc3 zc4 zc5 zc6
   have zl := HXB.out.lt
   refine wpE_next 10 rfl (by kernel_rfl) (fun KK hK => ?_)
   go_simp
   refine hK _ _ (fun _ _ => HS.out _ (((((((HFB.out.high (by omega) _ _).high (by omega) _ _).high (by omega) _ _).high (by omega) _ _).high (by omega) _ _).high (by omega) _ _).high (by omega) _ _)) ?_
   clear hK KK
   try simp only [Act.put, List.setIfInBounds_toArray, List.set_cons_zero, List.set_cons_succ]
   refine wpE_next 11 rfl (by kernel_rfl) (fun KK hK => ?_)
   go_simp
   refine hK _ _ (fun h => absurd h (by decide)) ?_
   clear hK KK
   try simp only [Act.put, List.setIfInBounds_toArray, List.set_cons_zero, List.set_cons_succ]
   refine wpE_done (by kernel_rfl) ?_
   go_wp2_with fail
   go_meet
   obtain ⟨wM, hwM⟩ : ∃ y, y = (((((((wB.setCell ⟨w3.heap.size, 0, none⟩ (.int .u8 2)).setCell ⟨w3.heap.size, 1, none⟩ (.string bU1)).setCell ⟨w3.heap.size, 2, none⟩ (.slice (some ⟨bx, ox, none⟩) 1 c2)).setCell ⟨w3.heap.size, 3, none⟩ (.slice A3 0 c3)).setCell ⟨w3.heap.size, 4, none⟩ (.slice A4 0 c4)).setCell ⟨w3.heap.size, 5, none⟩ (.slice A5 0 c5)).setCell ⟨w3.heap.size, 6, none⟩ (.int .i64 28)) := ⟨_, rfl⟩
   rw [← hwM]
   have hfM : Fr (fun i => i = w3.heap.size) wB wM := by rw [hwM]; exact Fr.own (Fr.own (Fr.own (Fr.own (Fr.own (Fr.own (Fr.own (Fr.refl _ _) _ _) _ _) _ _) _ _) _ _) _ _) _ _
   have hX : Bk wM w3.heap.size 35 #[.int .u8 2, .string bU1, .slice (some ⟨bx, ox, none⟩) 1 c2, .slice A3 0 c3, .slice A4 0 c4, .slice A5 0 c5, .int .i64 28] := by
    have := ((((((HXA'.out.set_ 0 (.int .u8 2)).set_ 1 (.string bU1)).set_ 2 (.slice (some ⟨bx, ox, none⟩) 1 c2)).set_ 3 (.slice A3 0 c3)).set_ 4 (.slice A4 0 c4)).set_ 5 (.slice A5 0 c5)).set_ 6 (.int .i64 28)
    rw [hwM]; simpa using this
   have hfN : Fr NoT w3 wM := by rw [hwM]; exact ((((((HFB.out.high (by omega) _ _).high (by omega) _ _).high (by omega) _ _).high (by omega) _ _).high (by omega) _ _).high (by omega) _ _).high (by omega) _ _
   have hY := (((((((Bk.fr (T := fun i => i = w3.heap.size) HXB.out hfM (by omega)).set_ 0 (.int .u8 2)).set_ 1 (.string bX)).set_ 2 (.slice (some ⟨by_, oy, none⟩) 1 d2)).set_ 3 (.slice B3 0 d3)).set_ 4 (.slice B4 0 d4)).set_ 5 (.slice B5 0 d5)).set_ 6 (.int .i64 16)
   exact ⟨_, _, rfl, rfl, Lib.hid (Bk.fr (T := fun i => i = wA.heap.size) hX (Fr.own (Fr.own (Fr.own (Fr.own (Fr.own (Fr.own (Fr.own (Fr.refl _ _) _ _) _ _) _ _) _ _) _ _) _ _) _ _) (by omega)), Lib.hid (by simpa using hY), Lib.hid (((((((hfN.high (by omega) _ _).high (by omega) _ _).high (by omega) _ _).high (by omega) _ _).high (by omega) _ _).high (by omega) _ _).high (by omega) _ _)⟩
  ·go_simp
   obtain ⟨wA, hwA⟩ : ∃ y, y = (w3.alloc (.cells #[.int .u8 0, .string ⟨#[]⟩, .slice none 0 0, .slice none 0 0, .slice none 0 0, .slice none 0 0, .int .i64 0] 35)).drew := ⟨_, rfl⟩
   rw [← hwA]
   have hfA : Fr NoT w3 wA := by rw [hwA]; exact ((Fr.refl _ _).alloc _).drew
   have hsA := HS.out wA hfA
   try dsimp only
   refine hK _ _ (fun _ _ => hsA) ?_
   clear hK K' hHeld
   try simp only [Act.put, List.setIfInBounds_toArray, List.set_cons_zero, List.set_cons_succ]
   have hXA : Bk wA w3.heap.size 35 #[.int .u8 0, .string ⟨#[]⟩, .slice none 0 0, .slice none 0 0, .slice none 0 0, .slice none 0 0, .int .i64 0] := by rw [hwA]; exact (Bk.new _ _ _).fr0 ((Fr.refl _ _).drew)
   have HFA := Lib.hid hfA
   have HXA := Lib.hid hXA
   clear hwA hfA hXA
   refine wpE_next 8 rfl (by kernel_rfl) (fun K' hK => ?_)
   go_simp
   obtain ⟨wB, hwB⟩ : ∃ y, y = wA.alloc (.cells #[.int .u8 0, .string ⟨#[]⟩, .slice none 0 0, .slice none 0 0, .slice none 0 0, .slice none 0 0, .int .i64 0] 35) := ⟨_, rfl⟩
   rw [← hwB]
   have hfB : Fr NoT w3 wB := by rw [hwB]; exact HFA.out.alloc _
   have hsB := HS.out wB hfB
   try dsimp only
   refine hK _ _ (fun _ _ => hsB) ?_
   clear hK K' hsA hsB
   try simp only [Act.put, List.setIfInBounds_toArray, List.set_cons_zero, List.set_cons_succ]
   have hXB : Bk wB wA.heap.size 35 #[.int .u8 0, .string ⟨#[]⟩, .slice none 0 0, .slice none 0 0, .slice none 0 0, .slice none 0 0, .int .i64 0] := by rw [hwB]; exact Bk.new _ _ _
   have hAB : Fr NoT wA wB := by rw [hwB]; exact (Fr.refl _ _).alloc _
   have HXA' := Lib.hid (HXA.out.fr0 hAB)
   have HXB := Lib.hid hXB
   have HFB := Lib.hid hfB
   have HZA := Lib.hid (show w3.heap.size < wA.heap.size from HXA.out.lt)
   clear hwB hfB hXB hAB
   have hzA := HZA.out
   have yf0 := HXA'.out.frozen 0
   have yf1 := HXA'.out.frozen 1
   have yf2 := HXA'.out.frozen 2
   have yf3 := HXA'.out.frozen 3
   have yf4 := HXA'.out.frozen 4
   have yf5 := HXA'.out.frozen 5
   have yf6 := HXA'.out.frozen 6
   have yc0 := HXA'.out.cell 0
   have yc1 := HXA'.out.cell 1
   have yc2 := HXA'.out.cell 2
   have yc3 := HXA'.out.cell 3
   have yc4 := HXA'.out.cell 4
   have yc5 := HXA'.out.cell 5
   have yc6 := HXA'.out.cell 6
   simp only [List.getElem?_toArray, List.getElem?_cons_succ, List.getElem?_cons_zero] at yc0 yc1 yc2 yc3 yc4 yc5 yc6
   have yl := HXA'.out.lt
   have zf0 := HXB.out.frozen 0
   have zf1 := HXB.out.frozen 1
   have zf2 := HXB.out.frozen 2
   have zf3 := HXB.out.frozen 3
   have zf4 := HXB.out.frozen 4
   have zf5 := HXB.out.frozen 5
   have zf6 := HXB.out.frozen 6
   have zc0 := HXB.out.cell 0
   have zc1 := HXB.out.cell 1
   have zc2 := HXB.out.cell 2
   have zc3 := HXB.out.cell 3
   have zc4 := HXB.out.cell 4
   have zc5 := HXB.out.cell 5
   have zc6 := HXB.out.cell 6
   simp only [List.getElem?_toArray, List.getElem?_cons_succ, List.getElem?_cons_zero] at zc0 zc1 zc2 zc3 zc4 zc5 zc6
   have zl := HXB.out.lt
   refine wpE_next 10 rfl (by kernel_rfl) (fun KK hK => ?_)
   go_simp
   refine hK _ _ (fun _ _ => HS.out _ (((((((HFB.out.high (by omega) _ _).high (by omega) _ _).high (by omega) _ _).high (by omega) _ _).high (by omega) _ _).high (by omega) _ _).high (by omega) _ _)) ?_
   clear hK KK
   try simp only [Act.put, List.setIfInBounds_toArray, List.set_cons_zero, List.set_cons_succ]
   refine wpE_next 11 rfl (by kernel_rfl) (fun KK hK => ?_)
   go_simp
   refine hK _ _ (fun h => absurd h (by decide)) ?_
   clear hK KK
   try simp only [Act.put, List.setIfInBounds_toArray, List.set_cons_zero, List.set_cons_succ]
   refine wpE_done (by kernel_rfl) ?_
   go_wp2_with fail
   go_meet
   obtain ⟨wM, hwM⟩ : ∃ y, y = (((((((wB.setCell ⟨wA.heap.size, 0, none⟩ (.int .u8 2)).setCell ⟨wA.heap.size, 1, none⟩ (.string bU1)).setCell ⟨wA.heap.size, 2, none⟩ (.slice (some ⟨bx, ox, none⟩) 1 c2)).setCell ⟨wA.heap.size, 3, none⟩ (.slice A3 0 c3)).setCell ⟨wA.heap.size, 4, none⟩ (.slice A4 0 c4)).setCell ⟨wA.heap.size, 5, none⟩ (.slice A5 0 c5)).setCell ⟨wA.heap.size, 6, none⟩ (.int .i64 28)) := ⟨_, rfl⟩
   rw [← hwM]
   have hfM : Fr (fun i => i = wA.heap.size) wB wM := by rw [hwM]; exact Fr.own (Fr.own (Fr.own (Fr.own (Fr.own (Fr.own (Fr.own (Fr.refl _ _) _ _) _ _) _ _) _ _) _ _) _ _) _ _
   have hX : Bk wM wA.heap.size 35 #[.int .u8 2, .string bU1, .slice (some ⟨bx, ox, none⟩) 1 c2, .slice A3 0 c3, .slice A4 0 c4, .slice A5 0 c5, .int .i64 28] := by
    have := ((((((HXB.out.set_ 0 (.int .u8 2)).set_ 1 (.string bU1)).set_ 2 (.slice (some ⟨bx, ox, none⟩) 1 c2)).set_ 3 (.slice A3 0 c3)).set_ 4 (.slice A4 0 c4)).set_ 5 (.slice A5 0 c5)).set_ 6 (.int .i64 28)
    rw [hwM]; simpa using this
   have hfN : Fr NoT w3 wM := by rw [hwM]; exact ((((((HFB.out.high (by omega) _ _).high (by omega) _ _).high (by omega) _ _).high (by omega) _ _).high (by omega) _ _).high (by omega) _ _).high (by omega) _ _
   have hY := (((((((Bk.fr (T := fun i => i = wA.heap.size) HXA'.out hfM (by omega)).set_ 0 (.int .u8 2)).set_ 1 (.string bX)).set_ 2 (.slice (some ⟨by_, oy, none⟩) 1 d2)).set_ 3 (.slice B3 0 d3)).set_ 4 (.slice B4 0 d4)).set_ 5 (.slice B5 0 d5)).set_ 6 (.int .i64 16)
   exact ⟨_, _, rfl, rfl, Lib.hid (Bk.fr (T := fun i => i = w3.heap.size) hX (Fr.own (Fr.own (Fr.own (Fr.own (Fr.own (Fr.own (Fr.own (Fr.refl _ _) _ _) _ _) _ _) _ _) _ _) _ _) _ _) (by omega)), Lib.hid (by simpa using hY), Lib.hid (((((((hfN.high (by omega) _ _).high (by omega) _ _).high (by omega) _ _).high (by omega) _ _).high (by omega) _ _).high (by omega) _ _).high (by omega) _ _)⟩
 case rest =>
  obtain ⟨X, Y, rfl, rfl, hX, hY, hF⟩ := hcut
  obtain ⟨r0, r1, r2, r3, r4, r5⟩ := HR.out _ hF.out
  have x1 := hX.out.cell 1
  have x2 := hX.out.cell 2
  have xl := hX.out.lt
  have y1 := hY.out.cell 1
  have y2 := hY.out.cell 2
  have yl := hY.out.lt
  simp only [List.getElem?_toArray, List.getElem?_cons_succ, List.getElem?_cons_zero] at x1 x2 y1 y2
  have q1 := bU1_l
  have q2 := bU2_l
  have q3 := bX_l
  clear HS HR hX hY
  go_wp2_with fail
  go_ret
  exact ⟨rfl, (HF.out.trans hF.out).plain⟩
end Go.Proofs.YtfcegaklbicmfaaGreatDoor
