/-
  facetroomref14.Has: what an expression has, what goes wrong, and where.
-/
import Derived.Test.YtdflbaipbmkdgaaSvHas
import Derived.Test.YtdflbaipbmkdgaaJnBase
namespace Go.Proofs.Ytdflbaipbmkdgaa
open Go.RowKit Go.Shelf
set_option linter.unusedVariables false
set_option linter.unusedSimpArgs false

def RHasPost (v : Int) (f : Int × Int) (W : World) (e : Ending) (w' : World) : Prop := e = .returned (.tuple #[.int .i64 (if f.1 = 0 then v else 0), .int .u8 f.1, .int .i64 f.2]) ∧ Below W.heap.size W w'
theorem rhasPost_ok {v x : Int} {f : Int × Int} {W : World} (h : f = (0, 0)) {w' : World} (hv : v = x) (hb : Below W.heap.size W w') : RHasPost v f W (.returned (.tuple #[.int .i64 x, .int .u8 0, .int .i64 0])) w' :=
  ⟨by rw [h, hv]; rfl, hb⟩
theorem rhasPost_no {v a b : Int} {f : Int × Int} {W : World} (h : f = (a, b)) (ha : a ≠ 0) {w' : World} (hb : Below W.heap.size W w') : RHasPost v f W (.returned (.tuple #[.int .i64 0, .int .u8 a, .int .i64 b])) w' :=
  ⟨by rw [h]; simp [ha], hb⟩
/-- what ref14.Has is asked of each of some expressions -/
def AsksRHas (vs : List Int) (ls : List (List Int)) (Av Aa : Option Addr) (cv ca B : Nat) (xs : Exs) : Prop :=
  ∀ (i : Nat) (k : Int) (nm : ByteArray) (n : Int) (args : Exs) (at_ : Int) (rest : Exs), Exs.drop i xs = .cons k nm n args at_ rest →
    ∀ (W : World) (A : Option Addr) (c : Nat), B ≤ W.heap.size → StSl W B vs ls Av cv Aa ca → ExSl W B args A c →
      Calls Try.prog 55 #[stV Av vs.length cv Aa ls.length ca, exV k nm n A args.len c at_] W (RHasPost (valOne vs ls k n (valsX vs ls args)) (fltOne vs ls k n args at_) W)

set_option maxRecDepth 100000 in
set_option maxHeartbeats 3200000 in
theorem rhas_one (vs : List Int) (ls : List (List Int)) (Av Aa : Option Addr) (cv ca B : Nat) (k : Int) (nm : ByteArray) (n : Int) (args : Exs) (at_ : Int) (A : Option Addr) (c : Nat) (w : World)
    (hB : B ≤ w.heap.size) (hst : StSl w B vs ls Av cv Aa ca) (hx : ExSl w B args A c) (hask : AsksRHas vs ls Av Aa cv ca B args)
    (hk : mayK vs.length ls.length k n args.len = true) (h64 : St64 vs ls) (hn64 : Ns64 args) :
    Calls Try.prog 55 #[stV Av vs.length cv Aa ls.length ca, exV k nm n A args.len c at_] w (RHasPost (valOne vs ls k n (valsX vs ls args)) (fltOne vs ls k n args at_) w) := by
  have HA := Lib.hid hask
  have hl : args.len ≤ 2 := mayK_len hk
  have HK := Lib.hid hk
  clear hask hk
  obtain ⟨nv, hnv⟩ : ∃ m, m = vs.length := ⟨_, rfl⟩
  obtain ⟨na, hna⟩ : ∃ m, m = ls.length := ⟨_, rfl⟩
  obtain ⟨l, hll⟩ : ∃ m, m = args.len := ⟨_, rfl⟩
  rw [← hnv, ← hna, ← hll]
  rw [← hll] at hl
  have HNV := Lib.hid hnv
  have HNA := Lib.hid hna
  have HL := Lib.hid hll
  clear hnv hna hll
  unfold stV exV
  have hbb : ∀ c0 c1 c2 : Array Value, Below w.heap.size w (((w.alloc (.cells c0 28)).alloc (.cells c1 62)).alloc (.cells c2 84)) := fun _ _ _ => (((Below.refl _ _).alloc (Nat.le_refl _) _).alloc (by simp) _).alloc (by simp; omega) _
  have HBB := Lib.hid hbb
  clear hbb
  go_enter Try.func55, Try.ntmps55
  go_wp2
  obtain ⟨W3, hW3⟩ : ∃ W3, W3 = (((w.alloc (.cells #[.slice Av nv cv, .slice Aa na ca] 28)).alloc (.cells #[.int .u8 k, .string nm, .int .i64 n, .slice A l c, .int .i64 at_] 62)).alloc (.cells #[.int .i64 0, .int .i64 0] 84)) := ⟨_, rfl⟩
  have hb3 : Below w.heap.size w W3 := by rw [hW3]; exact HBB.out _ _ _
  have hfr : HasFr (valsX vs ls args) w.heap.size 84 W3 W3 0 := ⟨Below.refl _ _, by rw [hW3]; exact (cells3 w _ _ _ _ _ _ 0).2.2.2, by rw [hW3]; simp⟩
  have hs0 : ∀ i, W3.cell? ⟨w.heap.size, i, none⟩ = #[Value.slice Av nv cv, .slice Aa na ca][i]? := fun i => by rw [hW3]; exact (cells3 w _ _ _ _ _ _ i).1
  have hs1 : ∀ i, W3.cell? ⟨w.heap.size + 1, i, none⟩ = #[.int .u8 k, .string nm, .int .i64 n, Value.slice A l c, .int .i64 at_][i]? := fun i => by rw [hW3]; exact (cells3 w _ _ _ _ _ _ i).2.1
  rw [← hW3]
  have HS0 := Lib.hid hs0
  have HS1 := Lib.hid hs1
  clear hW3 hs0 hs1
  go_loopw [8] (fun i wr => ∃ j : Nat, j ≤ l ∧ i = .int .i64 j ∧ HasFr (valsX vs ls args) w.heap.size 84 W3 wr j ∧ Hid (fltX vs ls args = fltX vs ls (Exs.drop j args))) (fun i _ => l - (intOf i).toNat)
  case atStart => exact ⟨0, Nat.zero_le _, rfl, hfr, by show _ = _; simp [Exs.drop]⟩
  case round =>
    obtain ⟨j, hj, rfl, hf, hflt⟩ := hrel
    have hz := hf.size
    have hz0 : w.heap.size < wr.heap.size := by omega
    have hz1 : w.heap.size + 1 < wr.heap.size := by omega
    have hz2 : w.heap.size + 1 + 1 < wr.heap.size := by omega
    have hbw : Below w.heap.size w wr := hb3.trans (hf.below.mono (by omega))
    have s0 := (hf.below.cell (p := ⟨w.heap.size, 0, none⟩) (by simp)).trans (HS0.out 0)
    have s1 := (hf.below.cell (p := ⟨w.heap.size, 1, none⟩) (by simp)).trans (HS0.out 1)
    have e0 := (hf.below.cell (p := ⟨w.heap.size + 1, 0, none⟩) (by simp)).trans (HS1.out 0)
    have e2 := (hf.below.cell (p := ⟨w.heap.size + 1, 2, none⟩) (by simp)).trans (HS1.out 2)
    have e3 := (hf.below.cell (p := ⟨w.heap.size + 1, 3, none⟩) (by simp)).trans (HS1.out 3)
    have e4 := (hf.below.cell (p := ⟨w.heap.size + 1, 4, none⟩) (by simp)).trans (HS1.out 4)
    simp only [List.getElem?_toArray, List.getElem?_cons_succ, List.getElem?_cons_zero] at s0 s1 e0 e2 e3 e4
    by_cases hlt : j < l
    · obtain ⟨a0, a1, a2, a3, a4, a5, hd⟩ := Exs.drop_cons (k := j) (xs := args) (by rw [← HL.out]; exact hlt)
      obtain ⟨b, o, rfl, hat⟩ := hx.2.2 (by rw [← HL.out]; omega)
      obtain ⟨hbB, c0, c1, c2, ⟨A', c', c3, hsl⟩, c4, r0, r1, r2⟩ := (hat.keep (Same.of hbw hB)).at_ hd
      have hcall : ∀ W, Below wr.heap.size wr W → Calls Try.prog 55 #[.agg #[.slice Av nv cv, .slice Aa na ca], .agg #[.int .u8 a0, .string a1, .int .i64 a2, .slice A' a3.len c', .int .i64 a4]] W (RHasPost (valOne vs ls a0 a2 (valsX vs ls a3)) (fltOne vs ls a0 a2 a3 a4) W) := fun W hW => by
        have hbW := hbw.trans (hW.mono hbw.size)
        rw [HNV.out, HNA.out]
        exact HA.out j a0 a1 a2 a3 a4 a5 hd W A' c' (Nat.le_trans hB hbW.size) (hst.keep (Same.of hbW hB)) (hsl.keep (Same.of hW (Nat.le_trans hB hbw.size)))
      have HC := Lib.hid hcall
      have HV := Lib.hid (valsX_at vs ls hd)
      have hj2 : j < 2 := by omega
      have HD := Lib.hid hd
      obtain ⟨f, hf0⟩ : ∃ f, f = fltOne vs ls a0 a2 a3 a4 := ⟨_, rfl⟩
      obtain ⟨f1, f2⟩ := f
      obtain ⟨v, hv⟩ : ∃ v, v = (if f1 = 0 then valOne vs ls a0 a2 (valsX vs ls a3) else 0) := ⟨_, rfl⟩
      obtain ⟨l3, hl3⟩ : ∃ m, m = a3.len := ⟨_, rfl⟩
      have hcall2 : ∀ W, Below wr.heap.size wr W → Calls Try.prog 55 #[.agg #[.slice Av nv cv, .slice Aa na ca], .agg #[.int .u8 a0, .string a1, .int .i64 a2, .slice A' l3 c', .int .i64 a4]] W fun e w' => e = .returned (.tuple #[.int .i64 v, .int .u8 f1, .int .i64 f2]) ∧ Below wr.heap.size wr w' := fun W hW => by
        rw [hl3]
        refine (hcall W hW).mono fun e w' h => ⟨?_, hW.trans (h.2.mono hW.size)⟩
        have := h.1
        rw [← hf0] at this
        rw [hv]
        exact this
      rw [← hl3] at c3
      have C := Lib.hid hcall2
      have z0 : ∀ z : HeldW (Below wr.heap.size wr), z.w.cell? ⟨w.heap.size, 0, none⟩ = some (.slice Av nv cv) := fun z => (z.h.cell hz0).trans s0
      have z1 : ∀ z : HeldW (Below wr.heap.size wr), z.w.cell? ⟨w.heap.size, 1, none⟩ = some (.slice Aa na ca) := fun z => (z.h.cell hz0).trans s1
      have z3 : ∀ z : HeldW (Below wr.heap.size wr), z.w.cell? ⟨w.heap.size + 1, 3, none⟩ = some (.slice (some ⟨b, o, none⟩) l c) := fun z => (z.h.cell hz1).trans e3
      have hbw' : b < wr.heap.size := by omega
      have y0 : ∀ z : HeldW (Below wr.heap.size wr), z.w.cell? ⟨b, o + j * 5, none⟩ = some (.int .u8 a0) := fun z => (z.h.cell hbw').trans c0
      have y1 : ∀ z : HeldW (Below wr.heap.size wr), z.w.cell? ⟨b, o + j * 5 + 1, none⟩ = some (.string a1) := fun z => (z.h.cell hbw').trans c1
      have y2 : ∀ z : HeldW (Below wr.heap.size wr), z.w.cell? ⟨b, o + j * 5 + 2, none⟩ = some (.int .i64 a2) := fun z => (z.h.cell hbw').trans c2
      have y3 : ∀ z : HeldW (Below wr.heap.size wr), z.w.cell? ⟨b, o + j * 5 + 3, none⟩ = some (.slice A' l3 c') := fun z => (z.h.cell hbw').trans c3
      have y4 : ∀ z : HeldW (Below wr.heap.size wr), z.w.cell? ⟨b, o + j * 5 + 4, none⟩ = some (.int .i64 a4) := fun z => (z.h.cell hbw').trans c4
      have hS : Below wr.heap.size wr wr.drew := (Below.refl _ _).drew
      have hnon : Nonempty (HeldW (Below wr.heap.size wr)) := ⟨⟨_, hS⟩⟩
      have HF := Lib.hid hf0
      have HVV := Lib.hid hv
      clear hcall hcall2 hd hsl hst hx hbw hf0 hv hl3 c0 c1 c2 c3 c4 hbw' HC
      go_wp2_with fail
      refine wp_region_held (Below wr.heap.size wr) hS (by kernel_rfl) (by kernel_rfl) ?_
      repeat (go_big_quiet_step ((go_at_call 55; exact held_call C.out)))
      refine wpQuiet_nil ?_
      intro _ hw'
      obtain ⟨z, rfl⟩ := hw'
      have harr : Blk z.w (w.heap.size + 1 + 1) 84 (two (valsX vs ls args) j) := hf.arr.below z.h (by omega)
      have hbn : Below (w.heap.size + 2) W3 z.w := hf.below.trans (z.h.mono (by omega))
      have hzz := z.h.size
      by_cases hq : f1 = 0
      · have HF0 := Lib.hid (fltX_step vs ls HD.out hflt.out (by rw [← HF.out]; exact hq))
        have HS := Lib.hid (two_set hj2 HV.out)
        have hv : v = valOne vs ls a0 a2 (valsX vs ls a3) := by rw [HVV.out, if_pos hq]
        rw [← hv] at HS
        obtain ⟨u, hu⟩ := two_some (valsX vs ls args) j j hj2
        have u0 := (harr.cell j).trans hu
        have u1 := harr.frozen j
        have hzs : w.heap.size + 2 < z.w.heap.size := by omega
        have HZS := Lib.hid hzs
        subst hq
        clear hv hu hflt hzz hzs
        go_wp2_with fail
        go_roundw
        case rel => exact ⟨j + 1, by omega, by go_num, ⟨hbn.setCell (by simp) _, by have := harr.set_ j (.int .i64 v); rw [HS.out] at this; exact this, by have := HZS.out; simp; omega⟩, HF0⟩
        case measure => simp [intOf]; omega
      · have HF0 := Lib.hid (fltX_stop vs ls HD.out hflt.out (by rw [← HF.out]; exact hq))
        have hq1 : (f1 != 0) = true := by simpa using hq
        have hbnn := hb3.trans (hbn.mono (by omega))
        have hP : RHasPost (valOne vs ls k n (valsX vs ls args)) (fltOne vs ls k n args at_) w (.returned (.tuple #[.int .i64 0, .int .u8 f1, .int .i64 f2])) z.w := by
          have e : fltOne vs ls k n args at_ = (f1, f2) := by
            have h2 : (fltX vs ls args).1 ≠ 0 := by rw [HF0.out, ← HF.out]; exact hq
            rw [fltOne, if_neg h2, HF0.out, ← HF.out]
          exact ⟨by rw [e]; simp [hq], hbnn⟩
        have HP := Lib.hid hP
        clear hP hq hflt
        go_wp2_with fail
        go_ret3
        exact HP.out
    · obtain rfl : j = l := by omega
      have hfin : (fltX vs ls args).1 = 0 := by rw [hflt.out, Exs.drop_nil (by rw [← HL.out]; exact Nat.le_refl _)]; rfl
      have hlen : (valsX vs ls args).length ≤ j := by rw [valsX_len, HL.out]; exact Nat.le_refl _
      have hone : fltOne vs ls k n args at_ = if wrongOne ls k n (valsX vs ls args) = 0 then (0, 0) else (wrongOne ls k n (valsX vs ls args), at_) := by rw [fltOne, if_pos hfin]
      have harr := hf.arr
      rw [two_full hlen] at harr
      have t0 := harr.cell 0
      have t1 := harr.cell 1
      simp only [List.getElem?_toArray, List.getElem?_cons_succ, List.getElem?_cons_zero] at t0 t1
      have h0 := is64_getD (is64_valsX h64 hn64) 0
      have h1 := is64_getD (is64_valsX h64 hn64) 1
      obtain ⟨x0, hx0⟩ : ∃ x, x = (valsX vs ls args).getD 0 0 := ⟨_, rfl⟩
      obtain ⟨x1, hx1⟩ : ∃ x, x = (valsX vs ls args).getD 1 0 := ⟨_, rfl⟩
      rw [← hx0] at t0 h0
      rw [← hx1] at t1 h1
      have HX0 := Lib.hid hx0
      have HX1 := Lib.hid hx1
      have HONE := Lib.hid hone
      have HBW := Lib.hid hbw
      have hst2 := hst.keep (Same.of hbw hB)
      clear hx0 hx1 hone hbw hfin hlen harr hflt hst hx hfr
      by_cases k1 : k = 1
      · subst k1
        have hw : wrongOne ls 1 n (valsX vs ls args) = 0 := by simp [wrongOne]
        have hP : RHasPost (valOne vs ls 1 n (valsX vs ls args)) (fltOne vs ls 1 n args at_) w (.returned (.tuple #[.int .i64 n, .int .u8 0, .int .i64 0])) wr := rhasPost_ok (by rw [HONE.out, if_pos hw]) (by simp [valOne]) HBW.out
        have HP := Lib.hid hP
        clear hw hP h0 h1 hst2
        go_wp2_with fail
        go_ret3
        exact HP.out
      have b1 : (k == 1) = false := by simpa using k1
      by_cases k2 : k = 2
      · subst k2
        have hm := mayK_2 HK.out
        obtain ⟨m, rfl⟩ := Int.eq_ofNat_of_zero_le hm.1
        have hm1 : m < vs.length := by omega
        obtain ⟨b2, o2, rfl, hia⟩ := hst2.vars.2.2 (by omega)
        have cv0 := (hia.2 m _ (List.getElem?_eq_getElem hm1)).1
        have hw : wrongOne ls 2 m (valsX vs ls args) = 0 := by simp [wrongOne]
        have hP : RHasPost (valOne vs ls 2 m (valsX vs ls args)) (fltOne vs ls 2 m args at_) w (.returned (.tuple #[.int .i64 vs[m], .int .u8 0, .int .i64 0])) wr := rhasPost_ok (by rw [HONE.out, if_pos hw]) (by simp [valOne, hm1]) HBW.out
        have HP := Lib.hid hP
        obtain ⟨y, hy⟩ : ∃ y, y = vs[m] := ⟨_, rfl⟩
        rw [← hy] at HP cv0
        have hmv : m < nv := by rw [HNV.out]; exact hm1
        clear hw hP h0 h1 hst2 hia hy hm hm1
        go_wp2_with fail
        go_ret3
        exact HP.out
      have b2 : (k == 2) = false := by simpa using k2
      by_cases k3 : k = 3
      · subst k3
        have hm := mayK_3 HK.out
        obtain ⟨m, rfl⟩ := Int.eq_ofNat_of_zero_le hm.1
        have hm1 : m < ls.length := by omega
        obtain ⟨b2, o2, rfl, hia⟩ := hst2.arrs.2.2 (by omega)
        obtain ⟨A3, c3, cv0, hs3⟩ := hia.2 m _ (List.getElem?_eq_getElem hm1)
        have hma : m < na := by rw [HNA.out]; exact hm1
        have hgl : ls.getD (m : Int).toNat [] = ls[m] := by simp [hm1]
        obtain ⟨l3, hl3⟩ : ∃ y, y = ls[m].length := ⟨_, rfl⟩
        rw [← hl3] at cv0
        have hlm : l3 ≤ 9223372036854775807 := by rw [hl3]; exact Nat.le_trans hs3.1 hs3.2.1
        by_cases hin : 0 ≤ x0 ∧ x0 < l3
        · obtain ⟨m0, rfl⟩ := Int.eq_ofNat_of_zero_le hin.1
          have hm0 : m0 < ls[m].length := by omega
          obtain ⟨b4, o4, rfl, hib⟩ := hs3.2.2 (by omega)
          have cv1 := (hib.2 m0 _ (List.getElem?_eq_getElem hm0)).1
          have hw : wrongOne ls 3 m (valsX vs ls args) = 0 := by simp only [wrongOne]; rw [← HX0.out, hgl]; simp; omega
          have hP : ∀ d, RHasPost (valOne vs ls 3 m (valsX vs ls args)) (fltOne vs ls 3 m args at_) w (.returned (.tuple #[.int .i64 ls[m][m0], .int .u8 0, .int .i64 0])) (wr.drewN d) := fun d => rhasPost_ok (by rw [HONE.out, if_pos hw]) (by simp only [valOne]; rw [← HX0.out, hgl]; simp [hm0]) (below_drewN HBW.out d)
          have HP := Lib.hid hP
          obtain ⟨y, hy⟩ : ∃ y, y = ls[m][m0] := ⟨_, rfl⟩
          rw [← hy] at HP cv1
          have hm2 : m0 < l3 := by omega
          clear hw hP h0 h1 hst2 hia hib hs3 hy hm hm1 hm0 hin hl3 hgl
          have g0 : decide ((m0 : Int) < 0) = false := by simp
          have g1 : decide ((l3 : Int) ≤ (m0 : Int)) = false := by simp; omega
          go_wp2_with fail
          go_quiet (fail)
          go_wp2_with fail
          go_quiet (fail)
          go_wp2_with fail
          go_ret3
          rw [World.drewN_drewN]
          exact HP.out _
        · have hw : wrongOne ls 3 m (valsX vs ls args) = 5 := by simp only [wrongOne]; rw [← HX0.out, hgl, ← hl3]; simp; omega
          have hP : ∀ d, RHasPost (valOne vs ls 3 m (valsX vs ls args)) (fltOne vs ls 3 m args at_) w (.returned (.tuple #[.int .i64 0, .int .u8 5, .int .i64 at_])) (wr.drewN d) := fun d => rhasPost_no (by rw [HONE.out, if_neg (by rw [hw]; decide), hw]) (by decide) (below_drewN HBW.out d)
          have HP := Lib.hid hP
          by_cases hneg : x0 < 0
          · clear hw hP h0 h1 hst2 hia hs3 hm hm1 hin hl3 hgl
            have g0 : decide (x0 < 0) = true := by simpa using hneg
            go_wp2_with fail
            go_quiet (fail)
            go_wp2_with fail
            go_quiet (fail)
            go_wp2_with fail
            go_ret3
            rw [World.drewN_drewN]
            exact HP.out _
          · have hge : (l3 : Int) ≤ x0 := by omega
            clear hw hP h0 h1 hst2 hia hs3 hm hm1 hin hl3 hgl
            have g0 : decide (x0 < 0) = false := by simpa using hneg
            have g1 : decide ((l3 : Int) ≤ x0) = true := by simpa using hge
            go_wp2_with fail
            go_quiet (fail)
            go_wp2_with fail
            go_quiet (fail)
            go_wp2_with fail
            go_ret3
            rw [World.drewN_drewN]
            exact HP.out _
      have b3 : (k == 3) = false := by simpa using k3
      have hkk := mayK_k HK.out
      have k4 : 4 ≤ k := by omega
      have hv : valOne vs ls k n (valsX vs ls args) = opR k x0 x1 := by rw [valOne, if_neg k1, if_neg k2, if_neg k3, HX0.out, HX1.out]
      have hw : wrongOne ls k n (valsX vs ls args) = opW k x0 x1 := by rw [wrongOne, if_neg k1, if_neg k2, if_neg k3, HX0.out, HX1.out]
      have hcall : ∀ W, Calls Try.prog 60 #[.int .u8 k, .int .i64 x0, .int .i64 x1] W fun e w' => e = .returned (.tuple #[.int .i64 (opR k x0 x1), .int .u8 (opW k x0 x1)]) ∧ Below W.heap.size W w' := fun W => rop_any k x0 x1 W k4 hkk.2 h0 h1
      have HC := Lib.hid hcall
      rw [hw] at HONE
      have HV := Lib.hid hv
      obtain ⟨r, hr⟩ : ∃ r, r = opR k x0 x1 := ⟨_, rfl⟩
      obtain ⟨q, hq⟩ : ∃ q, q = opW k x0 x1 := ⟨_, rfl⟩
      rw [← hr, ← hq] at HC
      rw [← hq] at HONE
      rw [← hr] at HV
      clear hv hw hcall hkk h0 h1 hst2 hr hq k1 k2 k3
      go_wp2_with fail
      refine (HC.out _).mono ?_
      rintro e w1 ⟨rfl, hb1⟩
      have hbn := HBW.out.trans (hb1.mono HBW.out.size)
      have e4' := (hb1.cell (p := ⟨w.heap.size + 1, 4, none⟩) (by simp; omega)).trans e4
      by_cases hq0 : q = 0
      · have hP : RHasPost (valOne vs ls k n (valsX vs ls args)) (fltOne vs ls k n args at_) w (.returned (.tuple #[.int .i64 r, .int .u8 0, .int .i64 0])) w1 := rhasPost_ok (by rw [HONE.out, if_pos hq0]) (by rw [HV.out]) hbn
        have HP := Lib.hid hP
        clear hP
        subst hq0
        go_wp2_with fail
        go_ret3
        exact HP.out
      · have hP : ∀ d, RHasPost (valOne vs ls k n (valsX vs ls args)) (fltOne vs ls k n args at_) w (.returned (.tuple #[.int .i64 0, .int .u8 q, .int .i64 at_])) (w1.drewN d) := fun d => rhasPost_no (by rw [HONE.out, if_neg hq0]) hq0 (below_drewN hbn d)
        have HP := Lib.hid hP
        have hq1 : (q != 0) = true := by simpa using hq0
        clear hP hq0
        go_wp2_with fail
        go_quiet (fail)
        go_wp2_with fail
        go_ret3
        exact HP.out _

/-- THE CONTRACT of ref14.Has, of each of some expressions that may be -/
theorem rhas_asks (vs : List Int) (ls : List (List Int)) (Av Aa : Option Addr) (cv ca B : Nat) (h64 : St64 vs ls) : ∀ xs : Exs, mayX vs.length ls.length xs = true → Ns64 xs → AsksRHas vs ls Av Aa cv ca B xs
  | .nil, _, _ => fun i _ _ _ _ _ _ hd => by cases i <;> simp [Exs.drop] at hd
  | .cons k nm n args at_ rest, hm, hn => fun i k' nm' n' args' at' rest' hd W A c hB hst hx => by
    simp only [mayX, Bool.and_eq_true] at hm
    cases i with
    | zero =>
      simp only [Exs.drop] at hd
      injection hd with e1 e2 e3 e4 e5 e6
      subst e1 e2 e3 e4 e5 e6
      exact rhas_one vs ls Av Aa cv ca B k nm n args at_ A c W hB hst hx (rhas_asks vs ls Av Aa cv ca B h64 args hm.1.2 hn.2.1) hm.1.1 h64 hn.2.1
    | succ i =>
      simp only [Exs.drop] at hd
      exact rhas_asks vs ls Av Aa cv ca B h64 rest hm.2 hn.2.2 i k' nm' n' args' at' rest' hd W A c hB hst hx
end Go.Proofs.Ytdflbaipbmkdgaa
