/-
  ref11: stmts.
-/
import Derived.Test.YteabedhnpnapgaaGreatDoorRtNamed
import Derived.Test.YteabedhnpnapgaaGreatDoorJnCkC
namespace Go.Proofs.YteabedhnpnapgaaGreatDoor
open Go.RowKit Go.Shelf
set_option linter.unusedVariables false
set_option linter.unusedSimpArgs false

/-- the first one of two that is wrong -/
def orI (p q : Int × Int) : Int × Int := if p.2 = 0 then q else p
theorem orI_no {p q : Int × Int} (h : ¬ p.2 = 0) : orI p q = p := if_neg h
theorem orI_ok {p q : Int × Int} (h : p.2 = 0) : orI p q = q := if_pos h
/-- what is wrong with statements, and where -/
def stsI (ws : Wl) : Sts → Int × Int
  | .nil => (0, 0)
  | .cons k nm args cond body els at_ r =>
    if nmdI ws k nm (args.len : Int) = 0 then
      (if (orI (orI (orI (exsI ws args) (cdsI ws cond)) (stsI ws body)) (stsI ws els)).2 = 0 then stsI ws r else orI (orI (orI (exsI ws args) (cdsI ws cond)) (stsI ws body)) (stsI ws els))
    else (at_, nmdI ws k nm (args.len : Int))
theorem stsI_step {ws : Wl} {xs : Sts} {i : Nat} {a0 a1 a2 a3 a4 a5 a6 ar} (hd : Sts.drop i xs = .cons a0 a1 a2 a3 a4 a5 a6 ar) :
    stsI ws (Sts.drop i xs) = if nmdI ws a0 a1 (a2.len : Int) = 0 then
      (if (orI (orI (orI (exsI ws a2) (cdsI ws a3)) (stsI ws a4)) (stsI ws a5)).2 = 0 then stsI ws (Sts.drop (i + 1) xs) else orI (orI (orI (exsI ws a2) (cdsI ws a3)) (stsI ws a4)) (stsI ws a5))
    else (a6, nmdI ws a0 a1 (a2.len : Int)) := by
  rw [Sts.drop_succ i xs hd, hd]; rfl
def RsC (ws : Wl) (An Ak Am : Option Addr) (cn ck cm : Nat) (xs : Sts) : Prop := ∀ (W : World) (S : Nat → Prop) (Z : Prop) (A : Option Addr) (c : Nat), WdR W ws An Ak Am cn ck cm → (∀ b, S b → b < W.heap.size) → SlR (fun b o => StR W S Z xs b o) xs.len 128 A c →
  Calls Tryz.prog 23 #[wdV ws An Ak Am cn ck cm, .slice A xs.len c] W (AtE (stsI ws xs) W)
def RsI (ws : Wl) (An Ak Am : Option Addr) (cn ck cm : Nat) (xs : Sts) : Prop := ∀ (i : Nat) (a0 : Int) (a1 : ByteArray) (a2 : Exs) (a3 : Cds) (a4 a5 : Sts) (a6 : Int) (ar : Sts), Sts.drop i xs = .cons a0 a1 a2 a3 a4 a5 a6 ar → RsC ws An Ak Am cn ck cm a4 ∧ RsC ws An Ak Am cn ck cm a5
set_option maxRecDepth 100000 in
set_option maxHeartbeats 3200000 in
theorem rs_one (ws : Wl) (An Ak Am : Option Addr) (cn ck cm : Nat) (xs : Sts) (hall0 : RsI ws An Ak Am cn ck cm xs) : RsC ws An Ak Am cn ck cm xs := by
  intro w S Z A c hw hS hx
  have hl : xs.len ≤ 9223372036854775807 := Nat.le_trans hx.1 hx.2.1.1
  have HA := Lib.hid hall0
  have HX := Lib.hid hx
  have HS := Lib.hid hS
  have HW := Lib.hid hw
  obtain ⟨m, hm⟩ : ∃ m, m = xs.len := ⟨_, rfl⟩
  rw [← hm] at hl ⊢
  have HM := Lib.hid hm
  obtain ⟨F, hF⟩ : ∃ F, F = stsI ws xs := ⟨_, rfl⟩
  rw [← hF]
  have HF := Lib.hid hF
  unfold wdV
  obtain ⟨nw, hnw⟩ : ∃ m, m = ws.length := ⟨_, rfl⟩
  rw [← hnw]
  have HNW := Lib.hid hnw
  obtain ⟨w1, hw1⟩ : ∃ w1, w1 = w.alloc (.cells #[.slice An nw cn, .slice Ak nw ck, .slice Am nw cm] 63) := ⟨_, rfl⟩
  have HK1 := Lib.hid (show Bk w1 w.heap.size 63 #[.slice An nw cn, .slice Ak nw ck, .slice Am nw cm] from by rw [hw1]; exact Bk.new _ _ _)
  have HF1 := Lib.hid (show Fr NoT w w1 from by rw [hw1]; exact (Fr.refl _ _).alloc _)
  have HW1 := Lib.hid hw1
  clear hall0 hx hS hm hF hw hnw hw1
  go_enter Tryz.func23, Tryz.ntmps23
  go_wp2_with fail
  rw [← HW1.out]
  go_loopw [6] (fun i wr => ∃ k : Nat, k ≤ m ∧ i = .int .i64 k ∧ Hid (Fr NoT w1 wr) ∧ Hid (F = stsI ws (Sts.drop k xs))) (fun i _ => m - (intOf i).toNat)
  case atStart => exact ⟨0, Nat.zero_le _, rfl, Fr.refl _ _, HF.out⟩
  case round =>
    clear HF
    obtain ⟨k, hk, rfl, hb1, hall⟩ := hrel
    have hkk := HK1.out.fr0 hb1.out
    have x0 := hkk.cell 0
    have x1 := hkk.cell 1
    have x2 := hkk.cell 2
    have hl1 := hkk.lt
    simp only [List.getElem?_toArray, List.getElem?_cons_succ, List.getElem?_cons_zero] at x0 x1 x2
    have hb : Fr NoT w wr := HF1.out.trans hb1.out
    clear hkk
    by_cases hlt : k < m
    · obtain ⟨a0, a1, a2, a3, a4, a5, a6, ar, hd⟩ := Sts.drop_cons (show k < xs.len from by rw [← HM.out]; exact hlt)
      obtain ⟨b, o, rfl, hat⟩ := HX.out.2.2 (by rw [← HM.out]; omega)
      have hat1 := (StR.keep (hb.same fun b hb => ⟨HS.out b hb, id⟩) hat).drop k
      rw [hd] at hat1
      obtain ⟨⟨hbS, _, r0, r1, c0, c1, c6⟩, ⟨A2, q2, c2, s2⟩, ⟨A3, q3, c3, s3⟩, ⟨A4, q4, c4, s4⟩, ⟨A5, q5, c5, s5⟩, _⟩ := hat1
      have hxr : b < wr.heap.size := Nat.lt_of_lt_of_le (HS.out _ hbS) hb.size
      have hlt' : (k : Int) < (m : Int) := by omega
      have hge : (0 : Int) ≤ (k : Int) := by omega
      have hSr : ∀ b, S b → b < wr.heap.size := fun b h => Nat.lt_of_lt_of_le (HS.out b h) hb.size
      obtain ⟨hr4, hr5⟩ := HA.out k a0 a1 a2 a3 a4 a5 a6 ar hd
      have g0 := fun (W : World) (hf : Fr NoT wr W) => rnamed_any ws a0 a1 A2 A3 A4 A5 a2.len a3.len a4.len a5.len q2 q3 q4 q5 a6 W An Ak Am cn ck cm (Nat.le_trans s2.1 s2.2.1.1) (HW.out.keep (hb.trans hf))
      have g2 := fun (W : World) (hf : Fr NoT wr W) => rexprs_any ws An Ak Am cn ck cm a2 W S Z A2 q2 (HW.out.keep (hb.trans hf)) (fun b h => Nat.lt_of_lt_of_le (hSr b h) hf.size) (s2.imp fun _ _ hx => ExR.keep (hf.same fun b hb => ⟨hSr b hb, id⟩) hx)
      have g3 := fun (W : World) (hf : Fr NoT wr W) => rconds_any ws An Ak Am cn ck cm a3 W S Z A3 q3 (HW.out.keep (hb.trans hf)) (fun b h => Nat.lt_of_lt_of_le (hSr b h) hf.size) (s3.imp fun _ _ hx => CdR.keep (hf.same fun b hb => ⟨hSr b hb, id⟩) hx)
      have g4 := fun (W : World) (hf : Fr NoT wr W) => hr4 W S Z A4 q4 (HW.out.keep (hb.trans hf)) (fun b h => Nat.lt_of_lt_of_le (hSr b h) hf.size) (s4.imp fun _ _ hx => StR.keep (hf.same fun b hb => ⟨hSr b hb, id⟩) hx)
      have g5 := fun (W : World) (hf : Fr NoT wr W) => hr5 W S Z A5 q5 (HW.out.keep (hb.trans hf)) (fun b h => Nat.lt_of_lt_of_le (hSr b h) hf.size) (s5.imp fun _ _ hx => StR.keep (hf.same fun b hb => ⟨hSr b hb, id⟩) hx)
      have hst := hall.out.trans (stsI_step hd)
      obtain ⟨v0, hv0⟩ : ∃ v, v = nmdI ws a0 a1 (a2.len : Int) := ⟨_, rfl⟩
      obtain ⟨p2, hp2⟩ : ∃ v, v = exsI ws a2 := ⟨_, rfl⟩
      obtain ⟨p3, hp3⟩ : ∃ v, v = cdsI ws a3 := ⟨_, rfl⟩
      obtain ⟨p4, hp4⟩ : ∃ v, v = stsI ws a4 := ⟨_, rfl⟩
      obtain ⟨p5, hp5⟩ : ∃ v, v = stsI ws a5 := ⟨_, rfl⟩
      rw [← hv0, ← hp2, ← hp3, ← hp4, ← hp5] at hst
      rw [← hv0] at g0
      rw [← hp2] at g2
      rw [← hp3] at g3
      rw [← hp4] at g4
      rw [← hp5] at g5
      unfold wdV at g0 g2 g3 g4 g5
      rw [← HNW.out] at g0 g2 g3 g4 g5
      obtain ⟨l2, hl2⟩ : ∃ l, l = a2.len := ⟨_, rfl⟩
      obtain ⟨l3, hl3⟩ : ∃ l, l = a3.len := ⟨_, rfl⟩
      obtain ⟨l4, hl4⟩ : ∃ l, l = a4.len := ⟨_, rfl⟩
      obtain ⟨l5, hl5⟩ : ∃ l, l = a5.len := ⟨_, rfl⟩
      rw [← hl2] at g0 g2 c2
      rw [← hl3] at g0 g3 c3
      rw [← hl4] at g0 g4 c4
      rw [← hl5] at g0 g5 c5
      have G0 := Lib.hid g0
      have G2 := Lib.hid g2
      have G3 := Lib.hid g3
      have G4 := Lib.hid g4
      have G5 := Lib.hid g5
      have HST := Lib.hid hst
      have HB := Lib.hid hb
      obtain ⟨w5, hw5⟩ : ∃ w5, w5 = wr.alloc (.cells #[.int .u8 a0, .string a1, .slice A2 l2 q2, .slice A3 l3 q3, .slice A4 l4 q4, .slice A5 l5 q5, .int .i64 a6] 72) := ⟨_, rfl⟩
      have HS5 := Lib.hid (show Bk w5 wr.heap.size 72 #[.int .u8 a0, .string a1, .slice A2 l2 q2, .slice A3 l3 q3, .slice A4 l4 q4, .slice A5 l5 q5, .int .i64 a6] from by rw [hw5]; exact Bk.new _ _ _)
      have HR5 := Lib.hid (show Fr NoT wr w5 from by rw [hw5]; exact (Fr.refl _ _).alloc _)
      have HB1 := Lib.hid (hb1.out.trans HR5.out)
      have HW5 := Lib.hid hw5
      clear hd hat hall hb hb1 hbS s2 s3 s4 s5 r0 r1 g0 g2 g3 g4 g5 hst hv0 hp2 hp3 hp4 hp5 hl2 hl3 hl4 hl5 hSr hr4 hr5 hw5
      go_wp2_with fail
      rw [← HW5.out]
      clear x0 x1 x2 hl1 c0 c1 c2 c3 c4 c5 c6 hxr
      have hk1 := HK1.out.fr0 (HB1.out.trans (Fr.refl _ _))
      have hk2 := HS5.out.fr0 (Fr.refl _ _)
      have x0 := hk1.cell 0
      have x1 := hk1.cell 1
      have x2 := hk1.cell 2
      have y0 := hk2.cell 0
      have y1 := hk2.cell 1
      have y2 := hk2.cell 2
      have y3 := hk2.cell 3
      have y4 := hk2.cell 4
      have y5 := hk2.cell 5
      have y6 := hk2.cell 6
      have hl1 := hk1.lt
      have hl2 := hk2.lt
      simp only [List.getElem?_toArray, List.getElem?_cons_succ, List.getElem?_cons_zero] at x0 x1 x2 y0 y1 y2 y3 y4 y5 y6
      clear hk1 hk2
      refine (G0.out _ HR5.out).mono ?_
      rintro _ w6 ⟨rfl, hf⟩
      clear x0 x1 x2 y0 y1 y2 y3 y4 y5 y6 hl1 hl2
      have hk1 := HK1.out.fr0 (HB1.out.trans hf)
      have hk2 := HS5.out.fr0 hf
      have x0 := hk1.cell 0
      have x1 := hk1.cell 1
      have x2 := hk1.cell 2
      have y0 := hk2.cell 0
      have y1 := hk2.cell 1
      have y2 := hk2.cell 2
      have y3 := hk2.cell 3
      have y4 := hk2.cell 4
      have y5 := hk2.cell 5
      have y6 := hk2.cell 6
      have hl1 := hk1.lt
      have hl2 := hk2.lt
      simp only [List.getElem?_toArray, List.getElem?_cons_succ, List.getElem?_cons_zero] at x0 x1 x2 y0 y1 y2 y3 y4 y5 y6
      clear hk1 hk2
      have HF6 := Lib.hid hf
      clear hf
      by_cases hz : v0 = 0
      rotate_left
      · have HN := Lib.hid (show F = (a6, v0) from by rw [HST.out, if_neg hz])
        have e1 : (v0 != 0) = true := by simpa using hz
        clear HST hz
        go_wp2_with fail
        go_ret2
        exact ⟨by rw [HN.out]; rfl, (HB.out.trans HR5.out).trans HF6.out⟩
      subst hz
      obtain ⟨P, hP⟩ : ∃ P, P = orI (orI (orI p2 p3) p4) p5 := ⟨_, rfl⟩
      have HST2 := Lib.hid (show F = if P.2 = 0 then stsI ws (Sts.drop (k + 1) xs) else P from by rw [HST.out, if_pos rfl, hP])
      have HP := Lib.hid hP
      clear HST hP
      go_wp2_with fail
      refine (G2.out _ (HR5.out.trans HF6.out)).mono ?_
      rintro _ w7 ⟨rfl, hf⟩
      obtain ⟨u1, u2⟩ := p2
      clear x0 x1 x2 y0 y1 y2 y3 y4 y5 y6 hl1 hl2
      have hk1 := HK1.out.fr0 (HB1.out.trans (HF6.out.trans hf))
      have hk2 := HS5.out.fr0 (HF6.out.trans hf)
      have x0 := hk1.cell 0
      have x1 := hk1.cell 1
      have x2 := hk1.cell 2
      have y0 := hk2.cell 0
      have y1 := hk2.cell 1
      have y2 := hk2.cell 2
      have y3 := hk2.cell 3
      have y4 := hk2.cell 4
      have y5 := hk2.cell 5
      have y6 := hk2.cell 6
      have hl1 := hk1.lt
      have hl2 := hk2.lt
      simp only [List.getElem?_toArray, List.getElem?_cons_succ, List.getElem?_cons_zero] at x0 x1 x2 y0 y1 y2 y3 y4 y5 y6
      clear hk1 hk2
      have HF7 := Lib.hid (HF6.out.trans hf)
      clear hf
      by_cases hz : u2 = 0
      rotate_left
      · have HPP := Lib.hid (show P = (u1, u2) from by rw [HP.out, orI_no (p := (u1, u2)) hz, orI_no (p := (u1, u2)) hz, orI_no (p := (u1, u2)) hz])
        have e2 : (u2 == 0) = false := by simpa using hz
        have e1 : (u2 != 0) = true := by simpa using hz
        have HN := Lib.hid (show F = (u1, u2) from by rw [HST2.out, HPP.out, if_neg hz])
        clear HST2 hz
        go_wp2_with fail
        go_ret2
        exact ⟨by rw [HN.out]; rfl, (HB.out.trans HR5.out).trans HF7.out⟩
      subst hz
      have HP3 := Lib.hid (show P = orI (orI p3 p4) p5 from by rw [HP.out, orI_ok (p := (u1, 0)) rfl])
      clear HP
      go_wp2_with fail
      refine (G3.out _ (HR5.out.trans HF7.out)).mono ?_
      rintro _ w8 ⟨rfl, hf⟩
      obtain ⟨t1, t2⟩ := p3
      clear x0 x1 x2 y0 y1 y2 y3 y4 y5 y6 hl1 hl2
      have hk1 := HK1.out.fr0 (HB1.out.trans (HF7.out.trans hf))
      have hk2 := HS5.out.fr0 (HF7.out.trans hf)
      have x0 := hk1.cell 0
      have x1 := hk1.cell 1
      have x2 := hk1.cell 2
      have y0 := hk2.cell 0
      have y1 := hk2.cell 1
      have y2 := hk2.cell 2
      have y3 := hk2.cell 3
      have y4 := hk2.cell 4
      have y5 := hk2.cell 5
      have y6 := hk2.cell 6
      have hl1 := hk1.lt
      have hl2 := hk2.lt
      simp only [List.getElem?_toArray, List.getElem?_cons_succ, List.getElem?_cons_zero] at x0 x1 x2 y0 y1 y2 y3 y4 y5 y6
      clear hk1 hk2
      have HF8 := Lib.hid (HF7.out.trans hf)
      clear hf
      by_cases hz : t2 = 0
      rotate_left
      · have HPP := Lib.hid (show P = (t1, t2) from by rw [HP3.out, orI_no (p := (t1, t2)) hz, orI_no (p := (t1, t2)) hz])
        have e2 : (t2 == 0) = false := by simpa using hz
        have e1 : (t2 != 0) = true := by simpa using hz
        have HN := Lib.hid (show F = (t1, t2) from by rw [HST2.out, HPP.out, if_neg hz])
        clear HST2 hz
        go_wp2_with fail
        go_ret2
        exact ⟨by rw [HN.out]; rfl, (HB.out.trans HR5.out).trans HF8.out⟩
      subst hz
      have HP4 := Lib.hid (show P = orI p4 p5 from by rw [HP3.out, orI_ok (p := (t1, 0)) rfl])
      clear HP3
      go_wp2_with fail
      refine (G4.out _ (HR5.out.trans HF8.out)).mono ?_
      rintro _ w9 ⟨rfl, hf⟩
      obtain ⟨r1, r2⟩ := p4
      clear x0 x1 x2 y0 y1 y2 y3 y4 y5 y6 hl1 hl2
      have hk1 := HK1.out.fr0 (HB1.out.trans (HF8.out.trans hf))
      have hk2 := HS5.out.fr0 (HF8.out.trans hf)
      have x0 := hk1.cell 0
      have x1 := hk1.cell 1
      have x2 := hk1.cell 2
      have y0 := hk2.cell 0
      have y1 := hk2.cell 1
      have y2 := hk2.cell 2
      have y3 := hk2.cell 3
      have y4 := hk2.cell 4
      have y5 := hk2.cell 5
      have y6 := hk2.cell 6
      have hl1 := hk1.lt
      have hl2 := hk2.lt
      simp only [List.getElem?_toArray, List.getElem?_cons_succ, List.getElem?_cons_zero] at x0 x1 x2 y0 y1 y2 y3 y4 y5 y6
      clear hk1 hk2
      have HF9 := Lib.hid (HF8.out.trans hf)
      clear hf
      by_cases hz : r2 = 0
      rotate_left
      · have HPP := Lib.hid (show P = (r1, r2) from by rw [HP4.out, orI_no (p := (r1, r2)) hz])
        have e2 : (r2 == 0) = false := by simpa using hz
        have e1 : (r2 != 0) = true := by simpa using hz
        have HN := Lib.hid (show F = (r1, r2) from by rw [HST2.out, HPP.out, if_neg hz])
        clear HST2 hz
        go_wp2_with fail
        go_ret2
        exact ⟨by rw [HN.out]; rfl, (HB.out.trans HR5.out).trans HF9.out⟩
      subst hz
      have HP5 := Lib.hid (show P = p5 from by rw [HP4.out, orI_ok (p := (r1, 0)) rfl])
      clear HP4
      go_wp2_with fail
      refine (G5.out _ (HR5.out.trans HF9.out)).mono ?_
      rintro _ w10 ⟨rfl, hf⟩
      obtain ⟨z1, z2⟩ := p5
      have HPP := HP5
      clear x0 x1 x2 y0 y1 y2 y3 y4 y5 y6 hl1 hl2
      have HF10 := Lib.hid (HF9.out.trans hf)
      clear hf
      by_cases hz : z2 = 0
      · have HN := Lib.hid (show F = stsI ws (Sts.drop (k + 1) xs) from by rw [HST2.out, HPP.out, if_pos hz])
        have e1 : (z2 != 0) = false := by simpa using hz
        clear HST2
        go_wp2_with fail
        go_roundw
        case rel => exact ⟨k + 1, by omega, by go_num, HB1.out.trans HF10.out, HN.out⟩
        case measure => simp [intOf]; omega
      · have HN := Lib.hid (show F = (z1, z2) from by rw [HST2.out, HPP.out, if_neg hz])
        have e1 : (z2 != 0) = true := by simpa using hz
        clear HST2
        go_wp2_with fail
        go_ret2
        exact ⟨by rw [HN.out]; rfl, (HB.out.trans HR5.out).trans HF10.out⟩
    · have HN := Lib.hid (show F = (0, 0) from by rw [hall.out, Sts.drop_nil (by rw [← HM.out]; omega)]; rfl)
      have hlt' : ¬ (k : Int) < (m : Int) := by omega
      have HB := Lib.hid hb
      clear hall hb hb1
      go_wp2_with fail
      go_ret2
      exact ⟨by rw [HN.out]; rfl, HB.out⟩
theorem rsi_all (ws : Wl) (An Ak Am : Option Addr) (cn ck cm : Nat) : ∀ xs : Sts, RsI ws An Ak Am cn ck cm xs
  | .nil => fun i _ _ _ _ _ _ _ _ hd => by cases i <;> simp [Sts.drop] at hd
  | .cons k0 k1 k2 k3 k4 k5 k6 kr => fun i _ _ _ _ _ _ _ _ hd => by
    cases i with
    | zero =>
      simp only [Sts.drop] at hd
      injection hd with e0 e1 e2 e3 e4 e5 e6 e7
      subst e0 e1 e2 e3 e4 e5 e6 e7
      exact ⟨rs_one ws An Ak Am cn ck cm k4 (rsi_all ws An Ak Am cn ck cm k4), rs_one ws An Ak Am cn ck cm k5 (rsi_all ws An Ak Am cn ck cm k5)⟩
    | succ i =>
      simp only [Sts.drop] at hd
      exact rsi_all ws An Ak Am cn ck cm kr i _ _ _ _ _ _ _ _ hd
/-- THE CONTRACT of ref11's stmts -/
theorem rstmts_any (ws : Wl) (An Ak Am : Option Addr) (cn ck cm : Nat) (xs : Sts) : RsC ws An Ak Am cn ck cm xs := rs_one ws An Ak Am cn ck cm xs (rsi_all ws An Ak Am cn ck cm xs)
end Go.Proofs.YteabedhnpnapgaaGreatDoor
