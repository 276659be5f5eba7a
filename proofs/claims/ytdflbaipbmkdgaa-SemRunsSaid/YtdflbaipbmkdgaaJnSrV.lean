/-
  ref14's values: what the arguments of an edge's deed have.
-/
import Derived.Test.YtdflbaipbmkdgaaSrRun
import Derived.Deep.RegionHeld2
import Derived.Test.YtdflbaipbmkdgaaRwSeq
namespace Go.Proofs.Ytdflbaipbmkdgaa
open Go.RowKit Go.Shelf
set_option linter.unusedVariables false
set_option linter.unusedSimpArgs false

/-- THE CONTRACT of ref14's values -/
def ValsP (c : RW) (s : Rs) (As : Option Addr) (cs : Nat) (k0 wr0 at0 ed0 : Int) (xs : Exs) (i : Int) (w : World) (e : Ending) (w' : World) : Prop :=
  ∃ a b : Int, e = .returned (.tuple #[.agg #[.int .i64 a, .int .i64 b], .bool (decide ((fltX s.vs s.ls xs).1 = 0))]) ∧ Fr (fun x => x = c.R) w w' ∧
    if (fltX s.vs s.ls xs).1 = 0 then a = (valsX s.vs s.ls xs).getD 0 0 ∧ b = (valsX s.vs s.ls xs).getD 1 0 ∧ RnR 57 c w' s As cs k0 wr0 at0 ed0
    else RnR 57 c w' s As cs 5 (fltX s.vs s.ls xs).1 (fltX s.vs s.ls xs).2 i
theorem ed_at {w : World} {B : Nat} {l : List Ed} {A : Option Addr} {c : Nat} (h : EdSl w B l A c) {i : Nat} {e : Ed} (he : l[i]? = some e) : ∃ b o, A = some ⟨b, o, none⟩ ∧ EdAt w B l b o := h.2.2 (by have := (List.getElem?_eq_some_iff.1 he).1; omega)
set_option maxRecDepth 100000 in
set_option maxHeartbeats 3200000 in
theorem vals_any (c : RW) (w : World) (s : Rs) (As : Option Addr) (cs : Nat) (k0 wr0 at0 ed0 : Int) (h : RnR 57 c w s As cs k0 wr0 at0 ed0) (i : Nat) (e : Ed) (he : c.g.edges[i]? = some e) (hm : mayX c.g.vars c.g.arrays.length e.args = true) (hl2 : e.args.len ≤ 2) :
    Calls Try.prog 40 #[.pointer (some ⟨c.R, 0, none⟩), .int .i64 i] w (ValsP c s As cs k0 wr0 at0 ed0 e.args i w) := by
  obtain ⟨b, o, hA, hat⟩ := ed_at h.gr.edges he
  obtain ⟨hbB, e0, e1, e2, e3, e4, ⟨A5, c5, e5, hx5⟩, e6, hok⟩ := hat.at_ he
  have hask := rhas_asks s.vs s.ls (some ⟨c.bv, 0, none⟩) c.Ar s.vs.length c.cr w.heap.size h.sto.i64 e.args (by rw [h.nv, h.na]; exact hm) (ns64_sl hx5)
  have hle := Nat.le_trans h.gr.edges.1 h.gr.edges.2.1
  have hi := (List.getElem?_eq_some_iff.1 he).1
  have q5 := h.blk.cell 5
  have q13 := h.blk.cell 13
  have q14 := h.blk.cell 14
  have hbl : b < w.heap.size := Nat.lt_of_lt_of_le hbB h.lt
  have hx := hx5.more h.lt
  have hla : e.args.len ≤ 9223372036854775807 := by omega
  have hend := fun (W : World) (hW : Fr NoT w W) (x y : Int) => ends_any c W s As cs k0 wr0 at0 ed0 5 x y i (h.fr0 hW)
  simp only [rnC, List.getElem?_toArray, List.getElem?_cons_succ, List.getElem?_cons_zero] at q5 q13 q14
  rw [hA] at q5
  have hR : c.R < w.heap.size := h.blk.lt
  have HH := Lib.hid h
  have HE := Lib.hid hend
  have HX := Lib.hid hx
  have HA := Lib.hid hask
  obtain ⟨ek, hek⟩ : ∃ k, k = e.kind := ⟨_, rfl⟩
  obtain ⟨en, hen⟩ : ∃ k, k = e.n := ⟨_, rfl⟩
  obtain ⟨ec, hec⟩ : ∃ k, k = e.cmp := ⟨_, rfl⟩
  obtain ⟨xs, hxs⟩ : ∃ xs, xs = e.args := ⟨_, rfl⟩
  obtain ⟨l, hl⟩ : ∃ l, l = xs.len := ⟨_, rfl⟩
  obtain ⟨ne, hne⟩ : ∃ n, n = c.g.edges.length := ⟨_, rfl⟩
  rw [← hek] at e2
  rw [← hen] at e3
  rw [← hec] at e4
  rw [← hxs] at hl2 e5 hx HX HA hla ⊢
  rw [← hl] at hl2 e5 hla
  rw [← hne] at q5 hi hle
  have HL := Lib.hid hl
  have e2 : w.cell? ⟨b, o + i * 7 + 2, none⟩ = some (.int .u8 ek) := e2
  have hi0 : (0 : Int) ≤ (i : Int) := by omega
  have hi1 : (i : Int) < (ne : Int) := by omega
  obtain ⟨R, hRR⟩ : ∃ R, R = c.R := ⟨_, rfl⟩
  rw [← hRR] at HE q5 q13 q14 hR ⊢
  have HRR := Lib.hid hRR
  obtain ⟨W3, hW3⟩ : ∃ W3, W3 = (((w.alloc (.cells #[.int .i64 0, .int .i64 0] 84)).alloc (.cells #[.int .i64 0, .int .i64 0] 84)).alloc (.cells #[.int .u8 ek, .int .i64 en, .int .u8 ec, .slice A5 l c5] 43)) := ⟨_, rfl⟩
  have hf3 : Fr NoT w W3 := by rw [hW3]; exact (((Fr.refl _ _).alloc _).alloc _).alloc _
  have k1 : Bk W3 w.heap.size 84 #[.int .i64 0, .int .i64 0] := by rw [hW3]; exact ((Bk.new _ _ _).alloc _).alloc _
  have k2 : Bk W3 (w.heap.size + 1) 84 (two (valsX s.vs s.ls xs) 0) := by rw [hW3]; exact (Bk.new_at _ _ _ (by simp)).alloc _
  have k3 : Bk W3 (w.heap.size + 1 + 1) 43 #[.int .u8 ek, .int .i64 en, .int .u8 ec, .slice A5 l c5] := by rw [hW3]; exact Bk.new_at _ _ _ (by simp)
  have HW3 := Lib.hid hW3
  have HF3 := Lib.hid hf3
  have HK1 := Lib.hid k1
  have HK2 := Lib.hid k2
  have HK3 := Lib.hid k3
  have HZ3 := Lib.hid (show W3.heap.size = w.heap.size + 1 + 1 + 1 from by rw [hW3]; simp)
  clear hask h hat hok hx5 e0 e1 e6 hA hek hen hec hxs hl hne hm hend hx hRR hW3 hf3 k1 k2 k3 he
  go_enter Try.func40, Try.ntmps40
  go_wp2_with fail
  rw [← HW3.out]
  go_loopw [8] (fun i wr => ∃ j : Nat, j ≤ l ∧ i = .int .i64 j ∧ Fr (fun x => x = w.heap.size + 1) W3 wr ∧ Bk wr (w.heap.size + 1) 84 (two (valsX s.vs s.ls xs) j) ∧ Hid (fltX s.vs s.ls xs = fltX s.vs s.ls (Exs.drop j xs))) (fun i _ => l - (intOf i).toNat)
  case atStart => exact ⟨0, Nat.zero_le _, rfl, Fr.refl _ _, HK2.out, by show _ = _; simp [Exs.drop]⟩
  case round =>
    obtain ⟨j, hj, rfl, hf, hb, hflt⟩ := hrel
    have hz3 := HZ3.out
    have hfw : Fr (fun x => w.heap.size ≤ x) w wr := HF3.out.any.trans (hf.mono fun x _ e => by have e : x = w.heap.size + 1 := e; show w.heap.size ≤ x; omega)
    have hbw : Below w.heap.size w wr := hfw.to_below (Nat.le_refl _) fun x hx => Nat.not_le.2 hx
    have hfw0 : Fr NoT w wr := Fr.below hbw
    have hzr : w.heap.size + 1 + 1 < wr.heap.size := by have := hf.size; omega
    have q13' := (hbw.cell (p := ⟨R, 13, none⟩) hR).trans q13
    have q14' := (hbw.cell (p := ⟨R, 14, none⟩) hR).trans q14
    have hRr : R < wr.heap.size := Nat.lt_of_lt_of_le hR hbw.size
    have k3 := HK3.out.fr hf (by show ¬ w.heap.size + 1 + 1 = w.heap.size + 1; omega)
    have d3 := k3.cell 3
    have hzd : w.heap.size + 1 + 1 < wr.heap.size := k3.lt
    simp only [List.getElem?_toArray, List.getElem?_cons_succ, List.getElem?_cons_zero] at d3
    by_cases hlt : j < l
    · have hlt' : (j : Int) < (l : Int) := by omega
      obtain ⟨a0, a1, a2, a3, a4, a5, hd⟩ := Exs.drop_cons (k := j) (xs := xs) (by rw [← HL.out]; exact hlt)
      obtain ⟨bx, ox, rfl, hat⟩ := HX.out.2.2 (by rw [← HL.out]; omega)
      obtain ⟨hbB, c0, c1, c2, ⟨A', c', c3, hsl⟩, c4, r0, r1, r2⟩ := (hat.keep (Same.of hbw (Nat.le_refl _))).at_ hd
      obtain ⟨f, hf0⟩ : ∃ f, f = fltOne s.vs s.ls a0 a2 a3 a4 := ⟨_, rfl⟩
      obtain ⟨f1, f2⟩ := f
      obtain ⟨v, hv⟩ : ∃ v, v = (if f1 = 0 then valOne s.vs s.ls a0 a2 (valsX s.vs s.ls a3) else 0) := ⟨_, rfl⟩
      obtain ⟨l3, hl3⟩ : ∃ m, m = a3.len := ⟨_, rfl⟩
      have hcall : ∀ W, Fr NoT wr W → Calls Try.prog 55 #[.agg #[.slice (some ⟨c.bv, 0, none⟩) s.vs.length s.vs.length, .slice c.Ar s.ls.length c.cr], .agg #[.int .u8 a0, .string a1, .int .i64 a2, .slice A' l3 c', .int .i64 a4]] W fun e w' => e = .returned (.tuple #[.int .i64 v, .int .u8 f1, .int .i64 f2]) ∧ Fr NoT wr w' := fun W hW => by
        rw [hl3]
        refine (HA.out j a0 a1 a2 a3 a4 a5 hd W A' c' (Nat.le_trans hbw.size hW.size) (HH.out.sto.stSl.keep (Same.of_fr (hfw0.trans hW) (Nat.le_refl _) fun _ h => h.elim)) (hsl.keep (Same.of_fr hW hbw.size fun _ h => h.elim))).mono fun e w' h => ⟨?_, hW.trans (Fr.below h.2)⟩
        have := h.1
        rw [← hf0] at this
        rw [hv]
        exact this
      rw [← hl3] at c3
      have C := Lib.hid hcall
      have z13 : ∀ z : HeldW (Fr NoT wr), z.w.cell? ⟨R, 13, none⟩ = some (.slice (some ⟨c.bv, 0, none⟩) s.vs.length s.vs.length) := fun z => (z.h.cell hRr id).trans q13'
      have z14 : ∀ z : HeldW (Fr NoT wr), z.w.cell? ⟨R, 14, none⟩ = some (.slice c.Ar s.ls.length c.cr) := fun z => (z.h.cell hRr id).trans q14'
      have z3 : ∀ z : HeldW (Fr NoT wr), z.w.cell? ⟨w.heap.size + 1 + 1, 3, none⟩ = some (.slice (some ⟨bx, ox, none⟩) l c5) := fun z => (z.h.cell hzd id).trans d3
      have hbw' : bx < wr.heap.size := by omega
      have y0 : ∀ z : HeldW (Fr NoT wr), z.w.cell? ⟨bx, ox + j * 5, none⟩ = some (.int .u8 a0) := fun z => (z.h.cell hbw' id).trans c0
      have y1 : ∀ z : HeldW (Fr NoT wr), z.w.cell? ⟨bx, ox + j * 5 + 1, none⟩ = some (.string a1) := fun z => (z.h.cell hbw' id).trans c1
      have y2 : ∀ z : HeldW (Fr NoT wr), z.w.cell? ⟨bx, ox + j * 5 + 2, none⟩ = some (.int .i64 a2) := fun z => (z.h.cell hbw' id).trans c2
      have y3 : ∀ z : HeldW (Fr NoT wr), z.w.cell? ⟨bx, ox + j * 5 + 3, none⟩ = some (.slice A' l3 c') := fun z => (z.h.cell hbw' id).trans c3
      have y4 : ∀ z : HeldW (Fr NoT wr), z.w.cell? ⟨bx, ox + j * 5 + 4, none⟩ = some (.int .i64 a4) := fun z => (z.h.cell hbw' id).trans c4
      have hS : Fr NoT wr wr.drew := (Fr.refl _ _).drew
      have hnon : Nonempty (HeldW (Fr NoT wr)) := ⟨⟨_, hS⟩⟩
      have HF := Lib.hid hf0
      have HVV := Lib.hid hv
      have HD := Lib.hid hd
      have HV := Lib.hid (valsX_at s.vs s.ls hd)
      have hj2 : j < 2 := by omega
      have HFR := Lib.hid hf
      have HBB := Lib.hid hb
      have HFW := Lib.hid hfw0
      clear hcall hd hsl hat hbw hf0 hv hl3 c0 c1 c2 c3 c4 hbw' hfw hf hb k3 q13' q14' hfw0
      go_wp2_with fail
      refine wp_region_held (Fr NoT wr) hS (by kernel_rfl) (by kernel_rfl) ?_
      repeat (go_big_quiet_step ((go_at_call 55; exact held_call C.out)))
      refine wpQuiet_nil ?_
      intro _ hw'
      obtain ⟨z, rfl⟩ := hw'
      have hbz := HBB.out.fr0 z.h
      have hz : wr.heap.size ≤ z.w.heap.size := z.h.size
      have hfz : Fr NoT w z.w := HFW.out.trans z.h
      have hfz3 : Fr (fun x => x = w.heap.size + 1) W3 z.w := HFR.out.trans z.h.any
      have HFZ := Lib.hid hfz
      have HFZ3 := Lib.hid hfz3
      have HBZ := Lib.hid hbz
      obtain ⟨u, hu⟩ := two_some (valsX s.vs s.ls xs) j j hj2
      have u0 := (hbz.cell j).trans hu
      have u1 := hbz.frozen j
      have hzs : w.heap.size + 1 < z.w.heap.size := hbz.lt
      clear hu hbz hfz hfz3
      by_cases hq : f1 = 0
      · have HF0 := Lib.hid (fltX_step s.vs s.ls HD.out hflt.out (by rw [← HF.out]; exact hq))
        have HS := Lib.hid (two_set hj2 HV.out)
        have hv : v = valOne s.vs s.ls a0 a2 (valsX s.vs s.ls a3) := by rw [HVV.out, if_pos hq]
        rw [← hv] at HS
        subst hq
        clear hv hflt
        go_wp2_with fail
        go_roundw
        case rel => exact ⟨j + 1, by omega, by go_num, HFZ3.out.own _ _, by have := HBZ.out.set_ j (.int .i64 v); rw [HS.out] at this; exact this, HF0⟩
        case measure => simp [intOf]; omega
      · have HF0 := Lib.hid (fltX_stop s.vs s.ls HD.out hflt.out (by rw [← HF.out]; exact hq))
        have hq1 : (f1 != 0) = true := by simpa using hq
        have x0 := HBZ.out.cell 0
        have x1 := HBZ.out.cell 1
        simp only [two, List.getElem?_toArray, List.getElem?_cons_succ, List.getElem?_cons_zero] at x0 x1
        obtain ⟨x, hx⟩ : ∃ x, x = (if 0 < j then (valsX s.vs s.ls xs).getD 0 0 else 0) := ⟨_, rfl⟩
        obtain ⟨y, hy⟩ : ∃ y, y = (if 1 < j then (valsX s.vs s.ls xs).getD 1 0 else 0) := ⟨_, rfl⟩
        rw [← hx] at x0
        rw [← hy] at x1
        have HEE := Lib.hid (HE.out z.w.drew HFZ.out.drew f1 f2)
        clear hx hy hflt hq
        go_wp2_with fail
        refine wp_region_F (fun W' => W'.cell? ⟨w.heap.size + 1, 0, none⟩ = some (.int .i64 x) ∧ W'.cell? ⟨w.heap.size + 1, 1, none⟩ = some (.int .i64 y)) 8 (by kernel_rfl) ⟨x0, x1⟩ (fun hHeld => ?_)
        refine wpF_take 0 (v := ?_) rfl (by kernel_rfl) (by kernel_rfl) (by kernel_rfl) (by kernel_rfl) (fun _ _ _ h => h) hHeld (by rfl) ?_ ?_
        rotate_left
        · intro wz hSz
          (try dsimp only at hSz)
          go_simp
          try with_reducible rfl
        try simp only [Act.put, List.setIfInBounds_toArray, List.set_cons_zero, List.set_cons_succ]
        refine wpF_take 1 (v := ?_) rfl (by kernel_rfl) (by kernel_rfl) (by kernel_rfl) (by kernel_rfl) (fun _ _ _ h => h) hHeld (by rfl) ?_ ?_
        rotate_left
        · intro wz hSz
          (try dsimp only at hSz)
          go_simp
          try with_reducible rfl
        try simp only [Act.put, List.setIfInBounds_toArray, List.set_cons_zero, List.set_cons_succ]
        refine wpF_take 2 (v := ?_) rfl (by kernel_rfl) (by kernel_rfl) (by kernel_rfl) (by kernel_rfl) (fun _ _ _ h => h) hHeld (by rfl) ?_ ?_
        rotate_left
        · intro wz hSz
          (try dsimp only at hSz)
          go_simp
          try with_reducible rfl
        try simp only [Act.put, List.setIfInBounds_toArray, List.set_cons_zero, List.set_cons_succ]
        refine wpF_take 3 (v := ?_) rfl (by kernel_rfl) (by kernel_rfl) (by kernel_rfl) (by kernel_rfl) (fun _ _ _ h => h) hHeld (by rfl) ?_ ?_
        rotate_left
        · intro wz hSz
          (try dsimp only at hSz)
          go_simp
          try with_reducible rfl
        try simp only [Act.put, List.setIfInBounds_toArray, List.set_cons_zero, List.set_cons_succ]
        refine wpF_take 4 (v := ?_) rfl (by kernel_rfl) (by kernel_rfl) (by kernel_rfl) (by kernel_rfl) (fun _ _ _ h => h) hHeld (by rfl) ?_ ?_
        rotate_left
        · intro wz hSz
          (try dsimp only at hSz)
          go_simp
          try with_reducible rfl
        try simp only [Act.put, List.setIfInBounds_toArray, List.set_cons_zero, List.set_cons_succ]
        refine wpF_next 5 rfl (by kernel_rfl) (fun K hK => ?_)
        go_simp
        go_at_call 38
        refine HEE.out.mono ?_
        rintro _ w5 ⟨rfl, hr5, hf5⟩
        have hRz : R < w.heap.size := hR
        have hfz5 : Fr (fun x => x = R) z.w w5 := by rw [HRR.out]; exact (Fr.refl _ _).drew.trans hf5
        have x0' := (hfz5.cell (p := ⟨w.heap.size + 1, 0, none⟩) hzs (by show ¬ w.heap.size + 1 = R; omega)).trans x0
        have x1' := (hfz5.cell (p := ⟨w.heap.size + 1, 1, none⟩) hzs (by show ¬ w.heap.size + 1 = R; omega)).trans x1
        have k1 := (HK1.out.fr HFZ3.out (by show ¬ w.heap.size = w.heap.size + 1; omega)).fr hfz5 (by show ¬ w.heap.size = R; omega)
        have v0 := k1.cell 0
        have v1 := k1.cell 1
        have v2 := k1.frozen 0
        have v3 := k1.frozen 1
        have vl := k1.lt
        simp only [List.getElem?_toArray, List.getElem?_cons_succ, List.getElem?_cons_zero] at v0 v1
        have HR5 := Lib.hid hr5
        have HF5 := Lib.hid hfz5
        clear k1 hr5 hf5 hfz5
        try dsimp only
        refine hK.out _ _ ⟨x0', x1'⟩ ?_
        clear hK K
        try simp only [Act.put, List.setIfInBounds_toArray, List.set_cons_zero, List.set_cons_succ]
        refine wpF_next 6 rfl (by kernel_rfl) (fun K hK => ?_)
        go_simp
        obtain ⟨w6, hw6⟩ : ∃ w6, w6 = (w5.setCell ⟨w.heap.size, 0, none⟩ (.int .i64 x)).setCell ⟨w.heap.size, 1, none⟩ (.int .i64 y) := ⟨_, rfl⟩
        have hf6 : Fr (fun b => b = w.heap.size) w5 w6 := by rw [hw6]; exact Fr.own (Fr.own (Fr.refl _ _) _ _) _ _
        rw [← hw6]
        have HW6 := Lib.hid hw6
        clear hw6
        have h5l : w.heap.size + 1 < w5.heap.size := Nat.lt_of_lt_of_le hzs HF5.out.size
        refine hK.out _ _ ⟨(hf6.cell (p := ⟨w.heap.size + 1, 0, none⟩) h5l (by show ¬ w.heap.size + 1 = w.heap.size; omega)).trans x0', (hf6.cell (p := ⟨w.heap.size + 1, 1, none⟩) h5l (by show ¬ w.heap.size + 1 = w.heap.size; omega)).trans x1'⟩ ?_
        clear hK K
        refine wpF_next 7 rfl (by kernel_rfl) (fun K hK => ?_)
        go_simp
        refine hK.out _ _ ⟨(hf6.cell (p := ⟨w.heap.size + 1, 0, none⟩) h5l (by show ¬ w.heap.size + 1 = w.heap.size; omega)).trans x0', (hf6.cell (p := ⟨w.heap.size + 1, 1, none⟩) h5l (by show ¬ w.heap.size + 1 = w.heap.size; omega)).trans x1'⟩ ?_
        clear hK K
        refine wpF_done (by kernel_rfl) ?_
        have k6 : Bk w6 w.heap.size 84 #[.int .i64 x, .int .i64 y] := by
          have := (((HK1.out.fr HFZ3.out (by show ¬ w.heap.size = w.heap.size + 1; omega)).fr HF5.out (by show ¬ w.heap.size = R; omega)).set_ 0 (.int .i64 x)).set_ 1 (.int .i64 y)
          rw [HW6.out]; simpa using this
        have p0 := k6.cell 0
        have p1 := k6.cell 1
        simp only [List.getElem?_toArray, List.getElem?_cons_succ, List.getElem?_cons_zero] at p0 p1
        have hff : fltX s.vs s.ls xs = (f1, f2) := by rw [HF0.out, HF.out]
        have HP := Lib.hid (show ValsP c s As cs k0 wr0 at0 ed0 xs i w (.returned (.tuple #[.agg #[.int .i64 x, .int .i64 y], .bool false])) w6 from ⟨x, y, by rw [hff, decide_eq_false (show ¬ (f1, f2).1 = 0 by simpa using hq1)], by
            rw [← HRR.out]; exact (HFZ.out.any.trans HF5.out).then hf6 (fun b hb e => by have e : b = w.heap.size := e; omega), by
            rw [hff, if_neg (by simpa using hq1)]
            exact RnR.far HH.out HR5.out (hf6.mono fun b hb e => by have e : b = w.heap.size := e; show w.heap.size ≤ b; omega)⟩)
        have HK6 := Lib.hid k6
        clear k6 hff
        go_wp2_with fail
        refine bodyPost_ret (results_cell_tmp (p := 4) (q := 5) (ty := 84) rfl _ _ w.heap.size 84 _ (0, 0) _ rfl HK6.out Try.underlying84 rfl infoTwo) rfl ?_
        exact HP.out
    · have hjl : j = l := by omega
      subst hjl
      have hlt' : ¬ (j : Int) < (j : Int) := by omega
      have hfin : fltX s.vs s.ls xs = (0, 0) := by rw [hflt.out, Exs.drop_nil (by rw [← HL.out]; exact Nat.le_refl _)]; rfl
      have hlen : (valsX s.vs s.ls xs).length ≤ j := by rw [valsX_len, HL.out]; exact Nat.le_refl _
      rw [two_full hlen] at hb
      have x0 := hb.cell 0
      have x1 := hb.cell 1
      simp only [List.getElem?_toArray, List.getElem?_cons_succ, List.getElem?_cons_zero] at x0 x1
      obtain ⟨x, hx⟩ : ∃ x, x = (valsX s.vs s.ls xs).getD 0 0 := ⟨_, rfl⟩
      obtain ⟨y, hy⟩ : ∃ y, y = (valsX s.vs s.ls xs).getD 1 0 := ⟨_, rfl⟩
      rw [← hx] at x0
      rw [← hy] at x1
      have k1 := HK1.out.fr hf (by show ¬ w.heap.size = w.heap.size + 1; omega)
      have v0 := k1.cell 0
      have v1 := k1.cell 1
      have v2 := k1.frozen 0
      have v3 := k1.frozen 1
      have vl := k1.lt
      simp only [List.getElem?_toArray, List.getElem?_cons_succ, List.getElem?_cons_zero] at v0 v1
      obtain ⟨w6, hw6⟩ : ∃ w6, w6 = (wr.setCell ⟨w.heap.size, 0, none⟩ (.int .i64 x)).setCell ⟨w.heap.size, 1, none⟩ (.int .i64 y) := ⟨_, rfl⟩
      have hf6 : Fr (fun b => w.heap.size ≤ b) w w6 := by rw [hw6]; exact (hfw.high (Nat.le_refl _) _ _).high (Nat.le_refl _) _ _
      have hf60 : Fr NoT w w6 := Fr.below (hf6.to_below (Nat.le_refl _) fun x hx => Nat.not_le.2 hx)
      have k6 : Bk w6 w.heap.size 84 #[.int .i64 x, .int .i64 y] := by
        have := (k1.set_ 0 (.int .i64 x)).set_ 1 (.int .i64 y)
        rw [hw6]; simpa using this
      have p0 := k6.cell 0
      have p1 := k6.cell 1
      simp only [List.getElem?_toArray, List.getElem?_cons_succ, List.getElem?_cons_zero] at p0 p1
      have HP := Lib.hid (show ValsP c s As cs k0 wr0 at0 ed0 xs i w (.returned (.tuple #[.agg #[.int .i64 x, .int .i64 y], .bool true])) w6 from ⟨x, y, by rw [hfin]; rfl, hf60.any, by
            rw [hfin, if_pos rfl]
            exact ⟨hx, hy, HH.out.fr0 hf60⟩⟩)
      have HW6 := Lib.hid hw6
      have HK6 := Lib.hid k6
      clear k1 k6 hw6 hf6 hf60 hfin hlen hx hy hflt hfw hbw hfw0 hb hf k3 q13' q14'
      go_wp2_with fail
      rw [← HW6.out]
      refine bodyPost_ret (results_cell_tmp (p := 4) (q := 5) (ty := 84) rfl _ _ w.heap.size 84 _ (0, 0) _ rfl HK6.out Try.underlying84 rfl infoTwo) rfl ?_
      exact HP.out
end Go.Proofs.Ytdflbaipbmkdgaa

/-
  ref14's does: what an edge does.
-/
namespace Go.Proofs.Ytdflbaipbmkdgaa
open Go.RowKit Go.Shelf
set_option linter.unusedVariables false
set_option linter.unusedSimpArgs false

/-- how an edge's deed turns the store and the script, or ends: what a step does, but for the steps that are left and for where it leads -/
def doE (s : Rs) (e : Ed) (i : Int) : Rs ⊕ En :=
  if e.kind = 7 then .inr (s.stop 5 1 e.at_ i)
  else if e.kind = 8 then .inr (s.stop 4 0 e.at_ i)
  else if e.kind = 5 then
    match s.script with
    | [] => .inr (s.stop 3 0 e.at_ i)
    | n :: q => .inl { s with vs := s.vs.set e.n.toNat n, script := q }
  else
    let f := fltX s.vs s.ls e.args
    if f.1 ≠ 0 then .inr (s.stop 5 f.1 f.2 i)
    else
      let l := valsX s.vs s.ls e.args
      if e.kind = 3 then .inl { s with vs := s.vs.set e.n.toNat (l.getD 0 0) }
      else if e.kind = 4 then
        if 0 ≤ l.getD 0 0 ∧ l.getD 0 0 < (s.ls.getD e.n.toNat []).length then
          .inl { s with ls := s.ls.set e.n.toNat ((s.ls.getD e.n.toNat []).set (l.getD 0 0).toNat (l.getD 1 0)) }
        else .inr (s.stop 5 5 e.at_ i)
      else .inl s
/-- THE CONTRACT of ref14's does -/
def DoesP (c : RW) (s : Rs) (e : Ed) (i : Int) (w : World) (en : Ending) (w' : World) : Prop :=
  Fr c.T w w' ∧ match doE s e i with
    | .inl t => en = .returned (.bool true) ∧ ∃ As cs, RnR 57 c w' t As cs 0 0 0 0
    | .inr z => en = .returned (.bool false) ∧ ∃ As cs t k wr at_ ed, z = t.stop k wr at_ ed ∧ RnR 57 c w' t As cs k wr at_ ed
theorem doesP_no {c : RW} {s : Rs} {e : Ed} {i : Int} {w w1 w' : World} {en : Ending} {As : Option Addr} {cs : Nat} {k wr at_ : Int} (hw : Fr NoT w w1) (h : EndsP c s As cs k wr at_ i w1 en w') (hd : doE s e i = .inr (s.stop k wr at_ i)) : DoesP c s e i w en w' := by
  refine ⟨hw.any.trans (h.2.2.toT c.tR), ?_⟩
  rw [hd]
  exact ⟨h.1, As, cs, s, k, wr, at_, i, rfl, h.2.1⟩
theorem doesP_none {c : RW} {s : Rs} {e : Ed} {i : Int} {w w1 w' : World} {en : Ending} {As : Option Addr} {cs : Nat} {k wr at_ : Int} (hd : doE s e i = .inr (s.stop k wr at_ i)) (hw : Fr c.T w w1) (h : EndsP c s As cs k wr at_ i w1 en w') : DoesP c s e i w en w' := by
  refine ⟨hw.trans (h.2.2.toT c.tR), ?_⟩
  rw [hd]
  exact ⟨h.1, As, cs, s, k, wr, at_, i, rfl, h.2.1⟩
theorem doesP_yes {c : RW} {s t : Rs} {e : Ed} {i : Int} {w w' : World} {As : Option Addr} {cs : Nat} (hf : Fr c.T w w') (h : RnR 57 c w' t As cs 0 0 0 0) (hd : doE s e i = .inl t) : DoesP c s e i w (.returned (.bool true)) w' := by
  refine ⟨hf, ?_⟩
  rw [hd]
  exact ⟨rfl, As, cs, h⟩
/-- what may be of an edge -/
structure MayE (g : Gr) (e : Ed) : Prop where
  k : 1 ≤ e.kind ∧ e.kind ≤ 8
  n : 0 ≤ e.n ∧ (e.kind = 3 → e.n < g.vars) ∧ (e.kind = 5 → e.n < g.vars) ∧ (e.kind = 4 → e.n < g.arrays.length)
  l : e.args.len ≤ 2
  x : mayX g.vars g.arrays.length e.args = true
  c : e.kind = 6 → 3 ≤ e.cmp ∧ e.cmp ≤ 8
theorem may_e {g : Gr} (h : mayG g = true) {e : Ed} (he : e ∈ g.edges) : MayE g e := by
  have h1 := may_bad h he
  have h2 := guard_cmp h1
  simp only [edBad, mayD, headD, Bool.or_eq_false_iff, Bool.not_eq_false', Bool.and_eq_true, decide_eq_true_eq, beq_iff_eq] at h1
  obtain ⟨_, ⟨⟨⟨⟨k1, k8⟩, n0, nm⟩, hl⟩, _⟩, hx⟩ := h1
  refine ⟨⟨k1, k8⟩, ⟨n0, fun h => by simpa [mostD, h] using nm, fun h => by simpa [mostD, h] using nm, fun h => by simpa [mostD, h] using nm⟩, ?_, hx, h2⟩
  unfold argsD at hl
  repeat (split at hl)
  all_goals omega
theorem Fr.low {T : Nat → Prop} {w w' : World} (h : Fr T w w') {b : Nat} (hb : b < w.heap.size) : b < w'.heap.size := Nat.lt_of_lt_of_le hb h.size
/-- the script is one shorter -/
theorem isSl_tail {w : World} {B : Nat} {x : Int} {l : List Int} {b o c : Nat} (h : IsSl w B (x :: l) (some ⟨b, o, none⟩) c) {A : Option Addr} (hA : A = some ⟨b, o + 1, none⟩ ∨ l = []) : IsSl w B l A (c - 1) := by
  have h1 := h.1
  simp only [List.length_cons] at h1
  refine ⟨by omega, by have := h.2.1; omega, fun hp => ?_⟩
  obtain ⟨b', o', e, hh⟩ := h.2.2 (by simp)
  simp only [Option.some.injEq, Addr.mk.injEq] at e
  obtain ⟨rfl, rfl, _⟩ := e
  rcases hA with hA | hA
  · refine ⟨b, o + 1, hA, hh.1, fun i n hi => ?_⟩
    have := hh.2 (i + 1) n (by simpa using hi)
    rw [show o + 1 + i = o + (i + 1) from by omega]
    exact this
  · rw [hA] at hp; simp at hp

/-- a scalar is set -/
theorem RnR.setV {ty : TypeId} {c : RW} {w : World} {s : Rs} {As : Option Addr} {cs : Nat} {k wr at_ ed : Int} (h : RnR ty c w s As cs k wr at_ ed) (n : Nat) {x : Int} (hx : is64 x) :
    RnR ty c (w.setCell ⟨c.bv, n, none⟩ (.int .i64 x)) { s with vs := s.vs.set n x } As cs k wr at_ ed ∧ Fr c.T w (w.setCell ⟨c.bv, n, none⟩ (.int .i64 x)) := by
  obtain ⟨h1, h2⟩ := h.sto.setV n hx
  exact ⟨h.store (.inl rfl) h2 rfl rfl rfl (by simp) rfl h1, h2.toT (.inr (.inl rfl))⟩
/-- an array's element is set -/
theorem RnR.setA {ty : TypeId} {c : RW} {w : World} {s : Rs} {As : Option Addr} {cs : Nat} {k wr at_ ed : Int} (h : RnR ty c w s As cs k wr at_ ed) {n b : Nat} {l : List Int} (hb : c.bs[n]? = some b) (hl : s.ls[n]? = some l) (j : Nat) {x : Int} (hx : is64 x) :
    RnR ty c (w.setCell ⟨b, j, none⟩ (.int .i64 x)) { s with ls := s.ls.set n (l.set j x) } As cs k wr at_ ed ∧ Fr c.T w (w.setCell ⟨b, j, none⟩ (.int .i64 x)) := by
  obtain ⟨h1, h2⟩ := h.sto.setA hb hl j hx
  exact ⟨h.store (.inr (List.mem_of_getElem? hb)) h2 rfl rfl rfl rfl (by simp) h1, h2.toT (.inr (.inr (List.mem_of_getElem? hb)))⟩
theorem in_is64 {n : Int} (h : in64 n) : is64 n := by unfold in64 at h; unfold is64; omega
/-- an input is taken -/
theorem RnR.input {ty : TypeId} {c : RW} {w : World} {s : Rs} {cs b6 o6 : Nat} {k wr at_ ed : Int} (h : RnR ty c w s (some ⟨b6, o6, none⟩) cs k wr at_ ed) {x : Int} {q : List Int} (hq : s.script = x :: q) (n : Nat) {A : Option Addr} (hA : A = some ⟨b6, o6 + 1, none⟩ ∨ q = []) {m : Nat} (hm : m = q.length) :
    RnR ty c ((w.setCell ⟨c.bv, n, none⟩ (.int .i64 x)).setCell ⟨c.R, 6, none⟩ (.slice A m (cs - 1))) { s with vs := s.vs.set n x, script := q } A (cs - 1) k wr at_ ed ∧ Fr c.T w ((w.setCell ⟨c.bv, n, none⟩ (.int .i64 x)).setCell ⟨c.R, 6, none⟩ (.slice A m (cs - 1))) := by
  have hsl := h.sc
  rw [hq] at hsl
  have hx : is64 x := in_is64 (by obtain ⟨b, o, _, hh⟩ := hsl.2.2 (by simp); exact (hh.2 0 x rfl).2)
  obtain ⟨h1, h2⟩ := h.setV n hx
  have hsl1 := h1.sc
  simp only [hq] at hsl1
  have hf : Fr (fun b => b = c.R) (w.setCell ⟨c.bv, n, none⟩ (.int .i64 x)) ((w.setCell ⟨c.bv, n, none⟩ (.int .i64 x)).setCell ⟨c.R, 6, none⟩ (.slice A m (cs - 1))) := Fr.own (Fr.refl _ _) _ _
  refine ⟨h1.own hf rfl rfl (isSl_tail hsl1 hA) ?_, h2.trans (hf.toT c.tR)⟩
  have := h1.blk.set_ 6 (.slice A m (cs - 1))
  rw [hm] at this ⊢
  simpa [rnC] using this

set_option maxRecDepth 100000 in
set_option maxHeartbeats 3200000 in
theorem rdoes_any (c : RW) (w : World) (s : Rs) (As : Option Addr) (cs : Nat) (h : RnR 57 c w s As cs 0 0 0 0) (i : Nat) (e : Ed) (he : c.g.edges[i]? = some e) (hm : MayE c.g e) :
    Calls Try.prog 39 #[.pointer (some ⟨c.R, 0, none⟩), .int .i64 i] w (DoesP c s e i w) := by
  obtain ⟨b, o, hA, hat⟩ := ed_at h.gr.edges he
  obtain ⟨hbB, e0, e1, e2, e3, e4, ⟨A5, c5, e5, hx5⟩, e6, hok⟩ := hat.at_ he
  have hle := Nat.le_trans h.gr.edges.1 h.gr.edges.2.1
  have hi := (List.getElem?_eq_some_iff.1 he).1
  have q5 := h.blk.cell 5
  have q6 := h.blk.cell 6
  have q13 := h.blk.cell 13
  have q14 := h.blk.cell 14
  have g6 := h.blk.frozen 6
  have hbl : b < w.heap.size := Nat.lt_of_lt_of_le hbB h.lt
  simp only [rnC, List.getElem?_toArray, List.getElem?_cons_succ, List.getElem?_cons_zero] at q5 q6 q13 q14
  rw [hA] at q5
  have hR : c.R < w.heap.size := h.blk.lt
  obtain ⟨W1, hW1⟩ : ∃ W1, W1 = w.alloc (.cells #[.int .i64 e.from_, .int .i64 e.to_, .int .u8 e.kind, .int .i64 e.n, .int .u8 e.cmp, .slice A5 e.args.len c5, .int .i64 e.at_] 45) := ⟨_, rfl⟩
  have hf1 : Fr NoT w W1 := by rw [hW1]; exact (Fr.refl _ _).alloc _
  have k1 : Bk W1 w.heap.size 45 #[.int .i64 e.from_, .int .i64 e.to_, .int .u8 e.kind, .int .i64 e.n, .int .u8 e.cmp, .slice A5 e.args.len c5, .int .i64 e.at_] := by rw [hW1]; exact Bk.new _ _ _
  have d2 := k1.cell 2
  have d3 := k1.cell 3
  have d6 := k1.cell 6
  have hSl := k1.lt
  simp only [List.getElem?_toArray, List.getElem?_cons_succ, List.getElem?_cons_zero] at d2 d3 d6
  have hend := fun (k wr at_ : Int) => ends_any c W1 s As cs 0 0 0 0 k wr at_ i (h.fr0 hf1)
  have hval := vals_any c W1 s As cs 0 0 0 0 (h.fr0 hf1) i e he hm.x hm.l
  obtain ⟨en, hen⟩ : ∃ n : Nat, e.n = (n : Int) := ⟨e.n.toNat, by have := hm.n.1; omega⟩
  rw [hen] at d3 hW1 e3
  obtain ⟨ne, hne⟩ : ∃ n, n = c.g.edges.length := ⟨_, rfl⟩
  obtain ⟨ek, hek⟩ : ∃ k, k = e.kind := ⟨_, rfl⟩
  obtain ⟨ea, hea⟩ : ∃ k, k = e.at_ := ⟨_, rfl⟩
  rw [← hne] at q5 hi hle
  rw [← hek] at d2 hW1 e2
  rw [← hea] at d6 hW1 e6
  have e2 : w.cell? ⟨b, o + i * 7 + 2, none⟩ = some (.int .u8 ek) := e2
  have HNS := Lib.hid (ns64_sl hx5)
  have HH := Lib.hid h
  have HM := Lib.hid hm
  have HEK := Lib.hid hek
  have HEA := Lib.hid hea
  have HEN := Lib.hid hen
  have HF1 := Lib.hid hf1
  have HK1 := Lib.hid k1
  have HEE := Lib.hid hend
  have HVV := Lib.hid hval
  have HW1 := Lib.hid hW1
  have hi0 : (0 : Int) ≤ (i : Int) := by omega
  have hi1 : (i : Int) < (ne : Int) := by omega
  have q5' := (hf1.cell (p := ⟨c.R, 5, none⟩) hR id).trans q5
  have q6' := (hf1.cell (p := ⟨c.R, 6, none⟩) hR id).trans q6
  have q13' := (hf1.cell (p := ⟨c.R, 13, none⟩) hR id).trans q13
  have q14' := (hf1.cell (p := ⟨c.R, 14, none⟩) hR id).trans q14
  have g6' := (hf1.frozen (p := ⟨c.R, 6, none⟩) hR id).trans g6
  have hR1 : c.R < W1.heap.size := hf1.low hR
  obtain ⟨R, hRR⟩ : ∃ R, R = c.R := ⟨_, rfl⟩
  rw [← hRR] at HEE HVV q5 q6 q13 q14 g6 q5' q6' q13' q14' g6' hR hR1 ⊢
  have HRR := Lib.hid hRR
  obtain ⟨V, hV⟩ : ∃ V, V = c.bv := ⟨_, rfl⟩
  rw [← hV] at q13 q13'
  have HV := Lib.hid hV
  obtain ⟨n1, hn1⟩ : ∃ n, n = s.vs.length := ⟨_, rfl⟩
  obtain ⟨n2, hn2⟩ : ∃ n, n = s.ls.length := ⟨_, rfl⟩
  obtain ⟨n3, hn3⟩ : ∃ n, n = s.script.length := ⟨_, rfl⟩
  rw [← hn1] at q13 q13'
  rw [← hn2] at q14 q14'
  rw [← hn3] at q6 q6'
  have HN1 := Lib.hid hn1
  have HN2 := Lib.hid hn2
  have HN3 := Lib.hid hn3
  have hn3l : n3 ≤ 9223372036854775807 := by rw [hn3]; exact Nat.le_trans h.sc.1 h.sc.2.1
  have hn1l : n1 ≤ 1000 := by rw [hn1]; exact h.sto.few.1
  have hn2l : n2 ≤ 1000 := by rw [hn2]; exact h.sto.few.2.1
  clear h hat hok hx5 hA hek hea hen hne hm hend hval hRR hV hW1 hf1 k1 hn1 hn2 hn3 he
  go_enter Try.func39, Try.ntmps39
  by_cases k7 : ek = 7
  · subst k7
    go_wp2_with fail
    rw [← HW1.out]
    go_at_call 38
    refine (HEE.out 5 1 ea).mono ?_
    rintro _ w2 ⟨rfl, hp⟩
    go_wp2_with fail
    go_ret
    exact doesP_no HF1.out ⟨rfl, hp⟩ (by rw [doE, if_pos HEK.out.symm, HEA.out])
  have b7 : (ek == 7) = false := by simpa using k7
  by_cases k8 : ek = 8
  · subst k8
    go_wp2_with fail
    rw [← HW1.out]
    go_at_call 38
    refine (HEE.out 4 0 ea).mono ?_
    rintro _ w2 ⟨rfl, hp⟩
    go_wp2_with fail
    go_ret
    exact doesP_no HF1.out ⟨rfl, hp⟩ (by rw [doE, ← HEK.out, if_neg (by decide), if_pos rfl, HEA.out])
  have b8 : (ek == 8) = false := by simpa using k8
  by_cases k5 : ek = 5
  · subst k5
    cases hsc : s.script with
    | nil =>
      have hn0 : n3 = 0 := by rw [HN3.out, hsc]; rfl
      subst hn0
      have HSC := Lib.hid hsc
      clear hsc
      go_wp2_with fail
      rw [← HW1.out]
      go_at_call 38
      refine (HEE.out 3 0 ea).mono ?_
      rintro _ w2 ⟨rfl, hp⟩
      go_wp2_with fail
      go_ret
      exact doesP_no HF1.out ⟨rfl, hp⟩ (by rw [doE, ← HEK.out, if_neg (by decide), if_neg (by decide), if_pos rfl, HSC.out, HEA.out])
    | cons x q =>
      obtain ⟨b6, o6, hA6, hsat⟩ := HH.out.sc.2.2 (by rw [hsc]; simp)
      have c6 := (hsat.2 0 x (by rw [hsc]; rfl)).1
      have c6b : b6 < w.heap.size := Nat.lt_of_lt_of_le hsat.1 HH.out.lt
      have c6' := (HF1.out.cell (p := ⟨b6, o6 + 0, none⟩) c6b id).trans c6
      have hn3' : ((n3 : Int) == 0) = false := by rw [HN3.out, hsc]; simp; omega
      rw [hA6] at q6 q6'
      have hsto1 := HH.out.sto.fr0 HF1.out
      have hen1 : en < n1 := by have := HM.out.n.2.2.1 HEK.out.symm; rw [← HH.out.nv] at this; rw [HEN.out] at this; rw [HN1.out]; omega
      have hbk := hsto1.v
      rw [← HV.out] at hbk
      have v0 := hbk.cell en
      have v1 := hbk.frozen en
      have hVl := hbk.lt
      obtain ⟨y, hy⟩ : ∃ y, s.vs[en]? = some y := ⟨_, List.getElem?_eq_getElem (by rw [← HN1.out]; exact hen1)⟩
      simp only [intL, List.getElem?_toArray, List.getElem?_map, hy, Option.map_some] at v0
      have n1' : ¬ R = V := by rw [HRR.out, HV.out]; exact HH.out.rv
      have n2' : ¬ V = R := fun e => n1' e.symm
      have hVL : c.L ≤ V := by rw [HV.out]; exact HH.out.sto.vl
      have n3' : ¬ b6 = V := by have := hsat.1; omega
      have n4' : ¬ V = b6 := fun e => n3' e.symm
      have hVw : V < w.heap.size := by rw [HV.out]; exact HH.out.sto.v.lt
      have n5' : ¬ V = w.heap.size := by omega
      have n6' : ¬ w.heap.size = V := by omega
      have hn3p : 0 < n3 := by rw [HN3.out, hsc]; simp
      have c6' : W1.cell? ⟨b6, o6, none⟩ = some (.int .i64 x) := c6'
      have HSC := Lib.hid hsc
      have HST := Lib.hid hsto1
      clear hsc hsto1 hbk hy hsat
      go_wp2_with fail
      rw [← HW1.out]
      go_region
      go_wp2_with fail
      · go_ret
        rw [HV.out, HRR.out]
        have hin := (hA6 ▸ HH.out.fr0 HF1.out : RnR 57 c W1 s (some ⟨b6, o6, none⟩) cs 0 0 0 0)
        have hml : n3 - 1 = q.length := by rw [HN3.out, HSC.out]; simp
        have hle := HH.out.sc.1
        rw [HSC.out, List.length_cons] at hle
        have hdo : doE s e i = .inl { s with vs := s.vs.set en x, script := q } := by rw [doE, ← HEK.out, if_neg (by decide), if_neg (by decide), if_pos rfl, HSC.out, HEN.out]; rfl
        have hin2 := hin.input HSC.out en (A := some ⟨b6, o6, none⟩) (.inr (List.length_eq_zero_iff.1 (by omega))) hml
        rw [show cs - 1 = 0 from by omega] at hin2
        exact doesP_yes ((HF1.out.any.trans hin2.2).drew) (hin2.1.fr0 (Fr.refl _ _).drew) hdo
      · go_ret
        rw [HV.out, HRR.out]
        have hin := (hA6 ▸ HH.out.fr0 HF1.out : RnR 57 c W1 s (some ⟨b6, o6, none⟩) cs 0 0 0 0)
        have hml : n3 - 1 = q.length := by rw [HN3.out, HSC.out]; simp
        have hle := HH.out.sc.1
        rw [HSC.out, List.length_cons] at hle
        have hdo : doE s e i = .inl { s with vs := s.vs.set en x, script := q } := by rw [doE, ← HEK.out, if_neg (by decide), if_neg (by decide), if_pos rfl, HSC.out, HEN.out]; rfl
        have hin2 := hin.input HSC.out en (A := some ⟨b6, o6 + 1, none⟩) (.inl rfl) hml
        exact doesP_yes ((HF1.out.any.trans hin2.2).drew) (hin2.1.fr0 (Fr.refl _ _).drew) hdo
  have b5 : (ek == 5) = false := by simpa using k5
  go_wp2_with fail
  rw [← HW1.out]
  go_at_call 40
  refine HVV.out.mono ?_
  rintro _ w2 ⟨x, y, rfl, hf2, hp⟩
  by_cases hfl : (fltX s.vs s.ls e.args).1 = 0
  · rw [if_pos hfl] at hp
    obtain ⟨hx, hy, hr⟩ := hp
    have h64x : is64 x := by rw [hx]; exact is64_getD (is64_valsX HH.out.sto.i64 HNS.out) 0
    have h64y : is64 y := by rw [hy]; exact is64_getD (is64_valsX HH.out.sto.i64 HNS.out) 1
    have hdt : decide ((fltX s.vs s.ls e.args).1 = 0) = true := by simpa using hfl
    rw [hdt]
    have hfr2 : Fr (fun b => b = R) W1 w2 := by rw [HRR.out]; exact hf2
    have d2' := (hfr2.cell (p := ⟨w.heap.size, 2, none⟩) hSl (by show ¬ w.heap.size = R; omega)).trans d2
    have d3' := (hfr2.cell (p := ⟨w.heap.size, 3, none⟩) hSl (by show ¬ w.heap.size = R; omega)).trans d3
    have d6' := (hfr2.cell (p := ⟨w.heap.size, 6, none⟩) hSl (by show ¬ w.heap.size = R; omega)).trans d6
    have hSl2 : w.heap.size < w2.heap.size := hfr2.low hSl
    obtain ⟨W2, hW2⟩ : ∃ W2, W2 = w2.alloc (.cells #[.int .i64 x, .int .i64 y] 84) := ⟨_, rfl⟩
    have hf22 : Fr NoT w2 W2 := by rw [hW2]; exact (Fr.refl _ _).alloc _
    have k2 : Bk W2 w2.heap.size 84 #[.int .i64 x, .int .i64 y] := by rw [hW2]; exact Bk.new _ _ _
    have x0 := k2.cell 0
    have x1 := k2.cell 1
    have hS2l := k2.lt
    have d2'' := (hf22.cell (p := ⟨w.heap.size, 2, none⟩) hSl2 id).trans d2'
    have d3'' := (hf22.cell (p := ⟨w.heap.size, 3, none⟩) hSl2 id).trans d3'
    have d6'' := (hf22.cell (p := ⟨w.heap.size, 6, none⟩) hSl2 id).trans d6'
    have hSl3 : w.heap.size < W2.heap.size := hf22.low hSl2
    have hr2 := hr.fr0 hf22
    have hF2 : Fr c.T w W2 := (HF1.out.any.trans (hf2.toT c.tR)).trans hf22.any
    have p13 := hr2.blk.cell 13
    have p14 := hr2.blk.cell 14
    simp only [rnC, List.getElem?_toArray, List.getElem?_cons_succ, List.getElem?_cons_zero] at p13 p14 x0 x1
    rw [← HN1.out, ← HV.out, ← HRR.out] at p13
    rw [← HN2.out, ← HRR.out] at p14
    have hR2 : R < W2.heap.size := by rw [HRR.out]; exact hr2.blk.lt
    have hbk := hr2.sto.v
    rw [← HV.out] at hbk
    have hVl := hbk.lt
    have HFL := Lib.hid hfl
    have HX := Lib.hid hx
    have HY := Lib.hid hy
    have HR2 := Lib.hid hr2
    have HF2 := Lib.hid hF2
    have HW2 := Lib.hid hW2
    have HDO := Lib.hid (show doE s e i = if ek = 3 then .inl { s with vs := s.vs.set e.n.toNat x } else if ek = 4 then (if 0 ≤ x ∧ x < (s.ls.getD e.n.toNat []).length then .inl { s with ls := s.ls.set e.n.toNat ((s.ls.getD e.n.toNat []).set x.toNat y) } else .inr (s.stop 5 5 e.at_ i)) else .inl s from by
      rw [doE, ← HEK.out, if_neg k7, if_neg k8, if_neg k5, if_neg (by simpa using hfl), hx, hy])
    clear hfl hdt hf2 hfr2 hx hy hW2 hF2 hr hr2 hf22 k2
    by_cases k3 : ek = 3
    · subst k3
      have hen1 : en < n1 := by have := HM.out.n.2.1 HEK.out.symm; rw [← HH.out.nv] at this; rw [HEN.out] at this; rw [HN1.out]; omega
      have v0 := hbk.cell en
      have v1 := hbk.frozen en
      obtain ⟨y0, hy0⟩ : ∃ y, s.vs[en]? = some y := ⟨_, List.getElem?_eq_getElem (by rw [← HN1.out]; exact hen1)⟩
      simp only [intL, List.getElem?_toArray, List.getElem?_map, hy0, Option.map_some] at v0
      have n1' : ¬ R = V := by rw [HRR.out, HV.out]; exact HH.out.rv
      have n2' : ¬ V = R := fun e => n1' e.symm
      have hVw : V < w.heap.size := by rw [HV.out]; exact HH.out.sto.v.lt
      have n5' : ¬ V = w.heap.size := by omega
      have n6' : ¬ w.heap.size = V := by omega
      have n7' : ¬ V = w2.heap.size := by omega
      have n8' : ¬ w2.heap.size = V := by omega
      clear hbk hy0
      go_wp2_with fail
      rw [← HW2.out]
      go_region
      go_wp2_with fail
      go_ret
      rw [HV.out]
      have h1 := HR2.out.setV en h64x
      exact doesP_yes ((HF2.out.trans h1.2).drew) (h1.1.fr0 (Fr.refl _ _).drew) (by rw [HDO.out, HEN.out]; simp)
    have b3 : (ek == 3) = false := by simpa using k3
    by_cases k4 : ek = 4
    · subst k4
      have hen2 : en < n2 := by have := HM.out.n.2.2.2 HEK.out.symm; rw [← HH.out.na] at this; rw [HEN.out] at this; rw [HN2.out]; omega
      obtain ⟨l, hl⟩ : ∃ l, s.ls[en]? = some l := ⟨_, List.getElem?_eq_getElem (by rw [← HN2.out]; exact hen2)⟩
      obtain ⟨g, bb, hAr, ga, hgl, hgL, hbs, hbb⟩ := HR2.out.sto.arr hl
      have hlD : s.ls.getD e.n.toNat [] = l := by rw [HEN.out, Int.toNat_natCast, List.getD_eq_getElem?_getD, hl]; rfl
      have HLD := Lib.hid hlD
      have hlf : l.length ≤ 1000 := HH.out.sto.few.2.2 l (List.mem_of_getElem? hl)
      rw [hAr] at p14
      obtain ⟨m, hm⟩ : ∃ m, m = l.length := ⟨_, rfl⟩
      rw [← hm] at ga hlf
      have HMM := Lib.hid hm
      have HBS := Lib.hid hbs
      have HLL := Lib.hid hl
      have HBB := Lib.hid hbb
      have hbbl := hbb.lt
      clear hAr hlD hl hm hbs hbb hbk
      by_cases hx0 : x < 0
      · have HD2 := Lib.hid (show doE s e i = .inr (s.stop 5 5 e.at_ i) from by rw [HDO.out, if_neg (by decide), if_pos rfl, if_neg (by omega)])
        go_wp2_with fail
        rw [← HW2.out]
        go_region
        go_wp2_with fail
        go_at_call 38
        rw [HRR.out]
        refine (ends_any c _ s As cs 0 0 0 0 5 5 ea i (HR2.out.fr0 (Fr.refl _ _).drew)).mono ?_
        rintro _ w3 ⟨rfl, hp⟩
        go_wp2_with fail
        go_ret
        exact doesP_none (by rw [HEA.out]; exact HD2.out) HF2.out.drew ⟨rfl, hp⟩
      · obtain ⟨xn, rfl⟩ : ∃ n : Nat, x = n := ⟨x.toNat, by omega⟩
        have hx0' : (0 : Int) ≤ (xn : Int) := by omega
        by_cases hx1 : xn < m
        · have HD2 := Lib.hid (show doE s e i = .inl { s with ls := s.ls.set en (l.set xn y) } from by rw [HDO.out, if_neg (by decide), if_pos rfl, HLD.out, if_pos (by rw [← HMM.out]; omega), HEN.out, Int.toNat_natCast, Int.toNat_natCast])
          have hx1' : (xn : Int) < (m : Int) := by omega
          have u0 := HBB.out.cell xn
          have u1 := HBB.out.frozen xn
          obtain ⟨z0, hz0⟩ : ∃ z, l[xn]? = some z := ⟨_, List.getElem?_eq_getElem (by rw [← HMM.out]; exact hx1)⟩
          simp only [intL, List.getElem?_toArray, List.getElem?_map, hz0, Option.map_some] at u0
          clear hz0
          go_wp2_with fail
          rw [← HW2.out]
          go_region
          go_wp2_with fail
          go_ret
          have h1 := HR2.out.setA HBS.out HLL.out xn h64y
          exact doesP_yes ((HF2.out.trans h1.2).drew) (h1.1.fr0 (Fr.refl _ _).drew) HD2.out
        · have hx1' : ¬ (xn : Int) < (m : Int) := by omega
          have HD2 := Lib.hid (show doE s e i = .inr (s.stop 5 5 e.at_ i) from by rw [HDO.out, if_neg (by decide), if_pos rfl, HLD.out, if_neg (by rw [← HMM.out]; omega)])
          go_wp2_with fail
          rw [← HW2.out]
          go_region
          go_wp2_with fail
          go_at_call 38
          rw [HRR.out]
          refine (ends_any c _ s As cs 0 0 0 0 5 5 ea i (HR2.out.fr0 (Fr.refl _ _).drew)).mono ?_
          rintro _ w3 ⟨rfl, hp⟩
          go_wp2_with fail
          go_ret
          exact doesP_none (by rw [HEA.out]; exact HD2.out) HF2.out.drew ⟨rfl, hp⟩
    have b4 : (ek == 4) = false := by simpa using k4
    go_wp2_with fail
    rw [← HW2.out]
    go_ret
    exact doesP_yes HF2.out HR2.out (by rw [HDO.out, if_neg k3, if_neg k4])
  · rw [if_neg hfl] at hp
    have hdt : decide ((fltX s.vs s.ls e.args).1 = 0) = false := by simpa using hfl
    rw [hdt]
    have HP := Lib.hid hp
    have HFR := Lib.hid hf2
    have HFL := Lib.hid hfl
    clear hfl hdt hp hf2
    go_wp2_with fail
    go_ret
    refine ⟨(HF1.out.any.trans (HFR.out.toT c.tR)).trans ((Fr.refl _ _).alloc _), ?_⟩
    rw [doE, ← HEK.out, if_neg k7, if_neg k8, if_neg k5, if_pos HFL.out]
    exact ⟨rfl, As, cs, s, 5, _, _, _, rfl, HP.out.fr0 ((Fr.refl _ _).alloc _)⟩
end Go.Proofs.Ytdflbaipbmkdgaa

/-
  ref14's step: the plain law, and the walk.
-/
namespace Go.Proofs.Ytdflbaipbmkdgaa
open Go.RowKit Go.Shelf
set_option linter.unusedVariables false
set_option linter.unusedSimpArgs false

/-- one step less is left, if an edge costs one -/
def Rs.pay (s : Rs) (e : Ed) : Rs := { s with left := if costs e.kind then s.left - 1 else s.left }
/-- where an edge leads -/
def leadsTo (g : Gr) (s : Rs) (e : Ed) (r : List Nat) : Int :=
  if e.kind = 6 then
    if cmpB e.cmp ((valsX s.vs s.ls e.args).getD 0 0) ((valsX s.vs s.ls e.args).getD 1 0) then e.to_
    else match r with
      | [] => e.to_
      | j :: _ => match g.edges[j]? with
        | some y => y.to_
        | none => e.to_
  else e.to_
theorem step_none {g : Gr} {s : Rs} (hi : idxE g.edges s.node g.edges.length = []) : stepG g s = .inr (s.stop 4 0 0 0) := by
  unfold stepG; rw [hi]
theorem step_left {g : Gr} {s : Rs} {i : Nat} {r : List Nat} {e : Ed} (hi : idxE g.edges s.node g.edges.length = i :: r) (he : g.edges[i]? = some e) (hc : costs e.kind = true) (h0 : s.left = 0) : stepG g s = .inr (s.stop 2 0 e.at_ i) := by
  unfold stepG; rw [hi]; simp only [he]; rw [if_pos ⟨hc, h0⟩]
theorem step_do {g : Gr} {s : Rs} {i : Nat} {r : List Nat} {e : Ed} (hi : idxE g.edges s.node g.edges.length = i :: r) (he : g.edges[i]? = some e) (hc : ¬ (costs e.kind = true ∧ s.left = 0)) :
    stepG g s = match doE (s.pay e) e i with
      | .inr z => .inr z
      | .inl t => .inl { t with node := leadsTo g s e r } := by
  unfold stepG; rw [hi]; simp only [he]; rw [if_neg hc]
  have ev : (s.pay e).vs = s.vs := rfl
  have el : (s.pay e).ls = s.ls := rfl
  have es : (s.pay e).script = s.script := rfl
  unfold doE
  by_cases h7 : e.kind = 7
  · rw [if_pos h7, if_pos h7]; rfl
  rw [if_neg h7, if_neg h7]
  by_cases h8 : e.kind = 8
  · rw [if_pos h8, if_pos h8]; rfl
  rw [if_neg h8, if_neg h8]
  by_cases h5 : e.kind = 5
  · rw [if_pos h5, if_pos h5, es]
    have h6 : ¬ e.kind = 6 := by omega
    cases s.script with
    | nil => rfl
    | cons n q => simp only [leadsTo, if_neg h6]; rfl
  rw [if_neg h5, if_neg h5, ev, el]
  simp only
  by_cases hf : (fltX s.vs s.ls e.args).1 ≠ 0
  · rw [if_pos hf, if_pos hf]; rfl
  rw [if_neg hf, if_neg hf]
  by_cases h3 : e.kind = 3
  · have h6 : ¬ e.kind = 6 := by omega
    rw [if_pos h3, if_pos h3]; simp only [leadsTo, if_neg h6]; rfl
  rw [if_neg h3, if_neg h3]
  by_cases h4 : e.kind = 4
  · have h6 : ¬ e.kind = 6 := by omega
    rw [if_pos h4, if_pos h4]
    split
    · simp only [leadsTo, if_neg h6]; rfl
    · rfl
  rw [if_neg h4, if_neg h4]
  by_cases h6 : e.kind = 6
  · simp only [leadsTo, if_pos h6]
    by_cases hb : cmpB e.cmp ((valsX s.vs s.ls e.args).getD 0 0) ((valsX s.vs s.ls e.args).getD 1 0) = true
    · rw [if_pos hb, if_pos hb]; rfl
    · rw [if_neg hb, if_neg hb]
      cases r with
      | nil => rfl
      | cons j r =>
        cases hj : g.edges[j]? with
        | none => simp only [hj]; rfl
        | some y => simp only [hj]; rfl
  · rw [if_neg h6]; simp only [leadsTo, if_neg h6]; rfl
/-- what goes on by a guard has no fault, and turns nothing -/
theorem doE_guard {s t : Rs} {e : Ed} {i : Int} (h6 : e.kind = 6) (h : doE s e i = .inl t) : (fltX s.vs s.ls e.args).1 = 0 ∧ t = s := by
  unfold doE at h
  rw [if_neg (by omega), if_neg (by omega), if_neg (by omega)] at h
  simp only at h
  by_cases hf : (fltX s.vs s.ls e.args).1 ≠ 0
  · rw [if_pos hf] at h; cases h
  · rw [if_neg hf, if_neg (by omega), if_neg (by omega)] at h
    cases h
    exact ⟨by simpa using hf, rfl⟩
/-- THE CONTRACT of ref14's step -/
def StepP (c : RW) (s : Rs) (w : World) (en : Ending) (w' : World) : Prop :=
  Fr c.T w w' ∧ match stepG c.g s with
    | .inl t => en = .returned (.bool true) ∧ ∃ As cs, RnR 57 c w' t As cs 0 0 0 0
    | .inr z => en = .returned (.bool false) ∧ ∃ As cs t k wr at_ ed, z = t.stop k wr at_ ed ∧ RnR 57 c w' t As cs k wr at_ ed
end Go.Proofs.Ytdflbaipbmkdgaa
