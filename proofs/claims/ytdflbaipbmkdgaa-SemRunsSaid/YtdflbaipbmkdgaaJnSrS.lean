/-
  ref14's SameStore.
-/
import Derived.Test.YtdflbaipbmkdgaaSrSame
import Derived.Test.YtdflbaipbmkdgaaJnSrB
import Derived.Test.YtdflbaipbmkdgaaJnSrV
import Derived.Test.YtdflbaipbmkdgaaRwSeq
namespace Go.Proofs.Ytdflbaipbmkdgaa
open Go.RowKit Go.Shelf
set_option linter.unusedVariables false
set_option linter.unusedSimpArgs false

set_option maxRecDepth 100000 in
set_option maxHeartbeats 3200000 in
theorem rsto_any (vs vs' : List Int) (ls ls' : List (List Int)) (Av Av' Aa Aa' : Option Addr) (cv cv' ca ca' B : Nat) (w : World) (hB : B ≤ w.heap.size) (hx : StSl w B vs ls Av cv Aa ca) (hy : StSl w B vs' ls' Av' cv' Aa' ca') :
    Calls Try.prog 16 #[stV Av vs.length cv Aa ls.length ca, stV Av' vs'.length cv' Aa' ls'.length ca'] w (BoolPost (vs == vs' && ls == ls') w) := by
  unfold stV
  have hi := fun (W : World) (hf : Fr NoT w W) => rints_any vs vs' Av Av' cv cv' W B (hx.vars.keep (Same.of_fr hf hB fun _ h => h.elim)) (hy.vars.keep (Same.of_fr hf hB fun _ h => h.elim))
  have hl1 : ls.length ≤ 9223372036854775807 := Nat.le_trans hx.arrs.1 hx.arrs.2.1
  have hl2 : ls'.length ≤ 9223372036854775807 := Nat.le_trans hy.arrs.1 hy.arrs.2.1
  obtain ⟨n1, hn1⟩ : ∃ n, n = ls.length := ⟨_, rfl⟩
  obtain ⟨n2, hn2⟩ : ∃ n, n = ls'.length := ⟨_, rfl⟩
  obtain ⟨v1, hv1⟩ : ∃ n, n = vs.length := ⟨_, rfl⟩
  obtain ⟨v2, hv2⟩ : ∃ n, n = vs'.length := ⟨_, rfl⟩
  obtain ⟨q, hq⟩ : ∃ q, q = (vs == vs') := ⟨_, rfl⟩
  rw [← hv1, ← hv2, ← hq] at hi
  rw [← hn1] at hl1
  rw [← hn2] at hl2
  rw [← hn1, ← hn2, ← hv1, ← hv2, ← hq]
  have HI := Lib.hid hi
  have HX := Lib.hid hx.arrs
  have HY := Lib.hid hy.arrs
  have HN1 := Lib.hid hn1
  have HN2 := Lib.hid hn2
  obtain ⟨w1, hw1⟩ : ∃ w1, w1 = (w.alloc (.cells #[.slice Av v1 cv, .slice Aa n1 ca] 28)).alloc (.cells #[.slice Av' v2 cv', .slice Aa' n2 ca'] 28) := ⟨_, rfl⟩
  have hf1 : Fr NoT w w1 := by rw [hw1]; exact ((Fr.refl _ _).alloc _).alloc _
  have kk := bk_alloc2 w #[.slice Av v1 cv, .slice Aa n1 ca] #[.slice Av' v2 cv', .slice Aa' n2 ca'] 28 28
  rw [← hw1] at kk
  have HW1 := Lib.hid hw1
  have HF1 := Lib.hid hf1
  have a0 := kk.1.cell 0
  have a1 := kk.1.cell 1
  have al := kk.1.lt
  have b0 := kk.2.cell 0
  have b1 := kk.2.cell 1
  have bl := kk.2.lt
  simp only [List.getElem?_toArray, List.getElem?_cons_succ, List.getElem?_cons_zero] at a0 a1 b0 b1
  clear hi hx hy hn1 hn2 hv1 hv2 hq hw1 hf1 kk
  go_enter Try.func16, Try.ntmps16
  go_wp2_with fail
  rw [← HW1.out]
  go_at_call 8
  refine (HI.out w1 HF1.out).mono ?_
  rintro _ w2 ⟨rfl, qd, hqd⟩
  have hf2 : Fr NoT w1 w2 := by rw [hqd]; exact (Fr.refl _ _).drewN _
  have a1' := (hf2.cell (p := ⟨w.heap.size, 1, none⟩) al id).trans a1
  have b1' := (hf2.cell (p := ⟨w.heap.size + 1, 1, none⟩) bl id).trans b1
  have al' := hf2.low al
  have bl' := hf2.low bl
  have HF2 := Lib.hid (HF1.out.trans hf2)
  clear hqd hf2
  cases q with
  | false =>
    go_wp2_with fail
    go_ret
    exact ⟨rfl, HF2.out.plain⟩
  | true =>
    by_cases hne : n1 = n2
    · subst hne
      go_wp2_with fail
      go_loopw [5] (fun i wr => ∃ k : Nat, k ≤ n1 ∧ i = .int .i64 k ∧ Fr NoT w2 wr ∧ Hid ((ls == ls') = (ls.drop k == ls'.drop k))) (fun i _ => n1 - (intOf i).toNat)
      case atStart => exact ⟨0, Nat.zero_le _, rfl, Fr.refl _ _, rfl⟩
      case round =>
        obtain ⟨k, hk, rfl, hb, hd⟩ := hrel
        have a1r := (hb.cell (p := ⟨w.heap.size, 1, none⟩) al' id).trans a1'
        have b1r := (hb.cell (p := ⟨w.heap.size + 1, 1, none⟩) bl' id).trans b1'
        have alr := hb.low al'
        have blr := hb.low bl'
        have hfwr : Fr NoT w wr := HF2.out.trans hb
        by_cases hlt : k < n1
        · have hlt' : (k : Int) < (n1 : Int) := by omega
          have hk0 : (0 : Int) ≤ (k : Int) := by omega
          have h1 : k < ls.length := by rw [← HN1.out]; exact hlt
          have h2 : k < ls'.length := by rw [← HN2.out]; exact hlt
          obtain ⟨bx, ox, rfl, hat⟩ := HX.out.2.2 (by omega)
          obtain ⟨by', oy, rfl, hat'⟩ := HY.out.2.2 (by omega)
          have hsm : Same B w wr := Same.of_fr hfwr hB fun _ h => h.elim
          obtain ⟨A3, c3, x3, hs3⟩ := (hat.keep hsm).2 k _ (List.getElem?_eq_getElem h1)
          obtain ⟨A4, c4, x4, hs4⟩ := (hat'.keep hsm).2 k _ (List.getElem?_eq_getElem h2)
          have hbx := hat.1
          have hby := hat'.1
          have hBr : B ≤ wr.heap.size := Nat.le_trans hB hfwr.size
          have hbxr : bx < wr.heap.size := by omega
          have hbyr : by' < wr.heap.size := by omega
          have hs := lists_drop (List.getElem?_eq_getElem h1) (List.getElem?_eq_getElem h2)
          have hc := rints_any _ _ _ _ _ _ wr.drew B (hs3.keep (Same.of_fr (Fr.refl NoT wr).drew hBr fun _ h => h.elim)) (hs4.keep (Same.of_fr (Fr.refl NoT wr).drew hBr fun _ h => h.elim))
          obtain ⟨q, hq⟩ : ∃ q, q = (ls[k] == ls'[k]) := ⟨_, rfl⟩
          obtain ⟨m1, hm1⟩ : ∃ m, m = ls[k].length := ⟨_, rfl⟩
          obtain ⟨m2, hm2⟩ : ∃ m, m = ls'[k].length := ⟨_, rfl⟩
          rw [← hq] at hs
          rw [← hq, ← hm1, ← hm2] at hc
          rw [← hm1] at x3
          rw [← hm2] at x4
          have HS := Lib.hid hs
          have HC := Lib.hid hc
          clear hat hat' hs3 hs4 hs hc hq hm1 hm2 h1 h2 hsm
          go_wp2_with fail
          refine wp_region_F (fun W' => W'.cell? ⟨w.heap.size, 1, none⟩ = some (.slice (some ⟨bx, ox, none⟩) n1 ca) ∧ W'.cell? ⟨w.heap.size + 1, 1, none⟩ = some (.slice (some ⟨by', oy, none⟩) n1 ca') ∧ W'.cell? ⟨bx, ox + k, none⟩ = some (.slice A3 m1 c3) ∧ W'.cell? ⟨by', oy + k, none⟩ = some (.slice A4 m2 c4)) 12 (by kernel_rfl) ⟨a1r, b1r, x3, x4⟩ (fun hHeld => ?_)
          refine wpF_take 0 (v := ?_) rfl (by kernel_rfl) (by kernel_rfl) (by kernel_rfl) (by kernel_rfl) (fun _ _ _ h => h) hHeld (by rfl) ?_ ?_
          rotate_left
          · intro wz hSz
            (try dsimp only at hSz)
            go_simp
            try with_reducible rfl
          try simp only [Act.put, List.setIfInBounds_toArray, List.set_cons_zero, List.set_cons_succ]
          refine wpF_take 1 (v := ?_) rfl (by kernel_rfl) (by kernel_rfl) (by kernel_rfl) (by kernel_rfl) (fun _ _ _ h => h) hHeld (by rfl) ?_ ?_
          rotate_left
          · intro wz hSz
            (try dsimp only at hSz)
            go_simp
            try with_reducible rfl
          try simp only [Act.put, List.setIfInBounds_toArray, List.set_cons_zero, List.set_cons_succ]
          refine wpF_take 2 (v := ?_) rfl (by kernel_rfl) (by kernel_rfl) (by kernel_rfl) (by kernel_rfl) (fun _ _ _ h => h) hHeld (by rfl) ?_ ?_
          rotate_left
          · intro wz hSz
            (try dsimp only at hSz)
            go_simp
            try with_reducible rfl
          try simp only [Act.put, List.setIfInBounds_toArray, List.set_cons_zero, List.set_cons_succ]
          refine wpF_take 3 (v := ?_) rfl (by kernel_rfl) (by kernel_rfl) (by kernel_rfl) (by kernel_rfl) (fun _ _ _ h => h) hHeld (by rfl) ?_ ?_
          rotate_left
          · intro wz hSz
            (try dsimp only at hSz)
            go_simp
            try with_reducible rfl
          try simp only [Act.put, List.setIfInBounds_toArray, List.set_cons_zero, List.set_cons_succ]
          refine wpF_take 4 (v := ?_) rfl (by kernel_rfl) (by kernel_rfl) (by kernel_rfl) (by kernel_rfl) (fun _ _ _ h => h) hHeld (by rfl) ?_ ?_
          rotate_left
          · intro wz hSz
            (try dsimp only at hSz)
            go_simp
            try with_reducible rfl
          try simp only [Act.put, List.setIfInBounds_toArray, List.set_cons_zero, List.set_cons_succ]
          refine wpF_take 5 (v := ?_) rfl (by kernel_rfl) (by kernel_rfl) (by kernel_rfl) (by kernel_rfl) (fun _ _ _ h => h) hHeld (by rfl) ?_ ?_
          rotate_left
          · intro wz hSz
            (try dsimp only at hSz)
            go_simp
            try with_reducible rfl
          try simp only [Act.put, List.setIfInBounds_toArray, List.set_cons_zero, List.set_cons_succ]
          refine wpF_take 6 (v := ?_) rfl (by kernel_rfl) (by kernel_rfl) (by kernel_rfl) (by kernel_rfl) (fun _ _ _ h => h) hHeld (by rfl) ?_ ?_
          rotate_left
          · intro wz hSz
            (try dsimp only at hSz)
            go_simp
            try with_reducible rfl
          try simp only [Act.put, List.setIfInBounds_toArray, List.set_cons_zero, List.set_cons_succ]
          refine wpF_take 7 (v := ?_) rfl (by kernel_rfl) (by kernel_rfl) (by kernel_rfl) (by kernel_rfl) (fun _ _ _ h => h) hHeld (by rfl) ?_ ?_
          rotate_left
          · intro wz hSz
            (try dsimp only at hSz)
            go_simp
            try with_reducible rfl
          try simp only [Act.put, List.setIfInBounds_toArray, List.set_cons_zero, List.set_cons_succ]
          refine wpF_take 8 (v := ?_) rfl (by kernel_rfl) (by kernel_rfl) (by kernel_rfl) (by kernel_rfl) (fun _ _ _ h => h) hHeld (by rfl) ?_ ?_
          rotate_left
          · intro wz hSz
            (try dsimp only at hSz)
            go_simp
            try with_reducible rfl
          try simp only [Act.put, List.setIfInBounds_toArray, List.set_cons_zero, List.set_cons_succ]
          refine wpF_take 9 (v := ?_) rfl (by kernel_rfl) (by kernel_rfl) (by kernel_rfl) (by kernel_rfl) (fun _ _ _ h => h) hHeld (by rfl) ?_ ?_
          rotate_left
          · intro wz hSz
            (try dsimp only at hSz)
            go_simp
            try with_reducible rfl
          try simp only [Act.put, List.setIfInBounds_toArray, List.set_cons_zero, List.set_cons_succ]
          refine wpF_next 10 rfl (by kernel_rfl) (fun K hK => ?_)
          go_simp
          go_at_call 8
          refine HC.out.mono ?_
          rintro _ w5 ⟨rfl, qd, hqd⟩
          have hf5 : Fr NoT wr w5 := by rw [hqd]; exact (Fr.refl _ _).drew.drewN _
          have hs5 := And.intro ((hf5.cell (p := ⟨w.heap.size, 1, none⟩) alr id).trans a1r) (And.intro ((hf5.cell (p := ⟨w.heap.size + 1, 1, none⟩) blr id).trans b1r) (And.intro ((hf5.cell (p := ⟨bx, ox + k, none⟩) hbxr id).trans x3) ((hf5.cell (p := ⟨by', oy + k, none⟩) hbyr id).trans x4)))
          try dsimp only
          refine hK.out _ _ hs5 ?_
          clear hK K hHeld hqd
          have HF5 := Lib.hid (hb.trans hf5)
          try simp only [Act.put, List.setIfInBounds_toArray, List.set_cons_zero, List.set_cons_succ]
          refine wpF_next 11 rfl (by kernel_rfl) (fun K hK => ?_)
          go_simp
          refine hK.out _ _ hs5 ?_
          clear hK K
          refine wpF_done (by kernel_rfl) ?_
          clear hs5 hf5 x3 x4 a1r b1r
          cases q with
          | false =>
            have HF := Lib.hid (show (ls == ls') = false from by rw [hd.out, HS.out]; rfl)
            go_wp2_with fail
            go_ret
            exact ⟨by rw [HF.out]; rfl, (HF2.out.trans HF5.out).plain⟩
          | true =>
            have HF := Lib.hid (show (ls == ls') = (ls.drop (k + 1) == ls'.drop (k + 1)) from by rw [hd.out, HS.out]; rfl)
            go_wp2_with fail
            go_roundw
            case rel => exact ⟨k + 1, by omega, by go_num, HF5.out, HF⟩
            case measure => simp [intOf]; omega
        · have hlt' : ¬ (k : Int) < (n1 : Int) := by omega
          have HF := Lib.hid (show (ls == ls') = true from by
            rw [hd.out, List.drop_eq_nil_of_le (by rw [← HN1.out]; omega), List.drop_eq_nil_of_le (by rw [← HN2.out]; omega)]; rfl)
          have HFW := Lib.hid hfwr
          clear hd hb hfwr
          go_wp2_with fail
          go_ret
          exact ⟨by rw [HF.out]; rfl, HFW.out.plain⟩
    · have HF := Lib.hid (show (ls == ls') = false from by
        cases h : ls == ls' with
        | false => rfl
        | true => exact absurd (by rw [HN1.out, HN2.out, eq_of_beq h]) hne)
      have hne2 : ((n1 : Int) != (n2 : Int)) = true := by simp; omega
      go_wp2_with fail
      go_ret
      exact ⟨by rw [HF.out]; rfl, HF2.out.plain⟩
end Go.Proofs.Ytdflbaipbmkdgaa

/-
  ref14's Same and sem's Same.
-/
namespace Go.Proofs.Ytdflbaipbmkdgaa
open Go.RowKit Go.Shelf
set_option linter.unusedVariables false
set_option linter.unusedSimpArgs false

def eq6 (a0 b0 a1 b1 a2 b2 a3 b3 a4 b4 a5 b5 : Int) (q q' : Bool) : Bool := a0 == b0 && (a1 == b1 && (a2 == b2 && (a3 == b3 && (a4 == b4 && (a5 == b5 && (q && q'))))))
set_option maxRecDepth 100000 in
set_option maxHeartbeats 3200000 in
theorem rsame_any (a0 b0 a1 b1 a2 b2 a3 b3 a4 b4 a5 b5 : Int) (vs vs' : List Int) (ls ls' : List (List Int)) (Av Av' Aa Aa' : Option Addr) (cv cv' ca ca' B : Nat) (w : World) (hB : B ≤ w.heap.size) (hx : StSl w B vs ls Av cv Aa ca) (hy : StSl w B vs' ls' Av' cv' Aa' ca') :
    Calls Try.prog 7 #[.agg #[.int .u8 a0, .int .u8 a1, .int .i64 a2, .int .i64 a3, .int .i64 a4, .int .i64 a5, .slice Av vs.length cv, .slice Aa ls.length ca], .agg #[.int .u8 b0, .int .u8 b1, .int .i64 b2, .int .i64 b3, .int .i64 b4, .int .i64 b5, .slice Av' vs'.length cv', .slice Aa' ls'.length ca']] w (BoolPost (eq6 a0 b0 a1 b1 a2 b2 a3 b3 a4 b4 a5 b5 (vs == vs') (ls == ls')) w) := by
  obtain ⟨n1, hn1⟩ : ∃ n, n = ls.length := ⟨_, rfl⟩
  obtain ⟨n2, hn2⟩ : ∃ n, n = ls'.length := ⟨_, rfl⟩
  obtain ⟨v1, hv1⟩ : ∃ n, n = vs.length := ⟨_, rfl⟩
  obtain ⟨v2, hv2⟩ : ∃ n, n = vs'.length := ⟨_, rfl⟩
  obtain ⟨q, hq⟩ : ∃ q, q = (vs == vs') := ⟨_, rfl⟩
  obtain ⟨q', hq'⟩ : ∃ q, q = (ls == ls') := ⟨_, rfl⟩
  have hc := fun (W : World) (hf : Fr NoT w W) => rsto_any vs vs' ls ls' Av Av' Aa Aa' cv cv' ca ca' B W (Nat.le_trans hB hf.size) (hx.keep (Same.of_fr hf hB fun _ h => h.elim)) (hy.keep (Same.of_fr hf hB fun _ h => h.elim))
  unfold stV at hc
  rw [← hn1, ← hn2, ← hv1, ← hv2, ← hq, ← hq'] at hc
  rw [← hn1, ← hn2, ← hv1, ← hv2, ← hq, ← hq']
  have HC := Lib.hid hc
  obtain ⟨w1, hw1⟩ : ∃ w1, w1 = (w.alloc (.cells #[.int .u8 a0, .int .u8 a1, .int .i64 a2, .int .i64 a3, .int .i64 a4, .int .i64 a5, .slice Av v1 cv, .slice Aa n1 ca] 30)).alloc (.cells #[.int .u8 b0, .int .u8 b1, .int .i64 b2, .int .i64 b3, .int .i64 b4, .int .i64 b5, .slice Av' v2 cv', .slice Aa' n2 ca'] 30) := ⟨_, rfl⟩
  have hf1 : Fr NoT w w1 := by rw [hw1]; exact ((Fr.refl _ _).alloc _).alloc _
  have HW1 := Lib.hid hw1
  have HF1 := Lib.hid hf1
  clear hx hy hn1 hn2 hv1 hv2 hq hq' hw1 hf1 hc
  by_cases h0 : a0 = b0
  case neg =>
    have g0 : (a0 == b0) = false := by simpa using h0
    have HE := Lib.hid (show eq6 a0 b0 a1 b1 a2 b2 a3 b3 a4 b4 a5 b5 q q' = false from by simp [eq6, g0])
    go_enter Try.func7, Try.ntmps7
    go_wp2_with fail
    rw [← HW1.out]
    go_ret
    exact ⟨by rw [HE.out]; rfl, HF1.out.plain⟩
  subst h0
  by_cases h1 : a1 = b1
  case neg =>
    have g1 : (a1 == b1) = false := by simpa using h1
    have HE := Lib.hid (show eq6 a0 a0 a1 b1 a2 b2 a3 b3 a4 b4 a5 b5 q q' = false from by simp [eq6, g1])
    go_enter Try.func7, Try.ntmps7
    go_wp2_with fail
    rw [← HW1.out]
    go_ret
    exact ⟨by rw [HE.out]; rfl, HF1.out.plain⟩
  subst h1
  by_cases h2 : a2 = b2
  case neg =>
    have g2 : (a2 == b2) = false := by simpa using h2
    have HE := Lib.hid (show eq6 a0 a0 a1 a1 a2 b2 a3 b3 a4 b4 a5 b5 q q' = false from by simp [eq6, g2])
    go_enter Try.func7, Try.ntmps7
    go_wp2_with fail
    rw [← HW1.out]
    go_ret
    exact ⟨by rw [HE.out]; rfl, HF1.out.plain⟩
  subst h2
  by_cases h3 : a3 = b3
  case neg =>
    have g3 : (a3 == b3) = false := by simpa using h3
    have HE := Lib.hid (show eq6 a0 a0 a1 a1 a2 a2 a3 b3 a4 b4 a5 b5 q q' = false from by simp [eq6, g3])
    go_enter Try.func7, Try.ntmps7
    go_wp2_with fail
    rw [← HW1.out]
    go_ret
    exact ⟨by rw [HE.out]; rfl, HF1.out.plain⟩
  subst h3
  by_cases h4 : a4 = b4
  case neg =>
    have g4 : (a4 == b4) = false := by simpa using h4
    have HE := Lib.hid (show eq6 a0 a0 a1 a1 a2 a2 a3 a3 a4 b4 a5 b5 q q' = false from by simp [eq6, g4])
    go_enter Try.func7, Try.ntmps7
    go_wp2_with fail
    rw [← HW1.out]
    go_ret
    exact ⟨by rw [HE.out]; rfl, HF1.out.plain⟩
  subst h4
  by_cases h5 : a5 = b5
  case neg =>
    have g5 : (a5 == b5) = false := by simpa using h5
    have HE := Lib.hid (show eq6 a0 a0 a1 a1 a2 a2 a3 a3 a4 a4 a5 b5 q q' = false from by simp [eq6, g5])
    go_enter Try.func7, Try.ntmps7
    go_wp2_with fail
    rw [← HW1.out]
    go_ret
    exact ⟨by rw [HE.out]; rfl, HF1.out.plain⟩
  subst h5
  have HE := Lib.hid (show eq6 a0 a0 a1 a1 a2 a2 a3 a3 a4 a4 a5 a5 q q' = (q && q') from by simp [eq6])
  go_enter Try.func7, Try.ntmps7
  go_wp2_with fail
  rw [← HW1.out]
  go_at_call 16
  refine (HC.out w1 HF1.out).mono ?_
  rintro e w2 ⟨rfl, hb2⟩
  go_wp2_with fail
  go_ret
  exact ⟨by rw [HE.out]; rfl, (HF1.out.trans (Fr.below hb2)).plain⟩
set_option maxRecDepth 100000 in
set_option maxHeartbeats 3200000 in
theorem same_any (a0 b0 a1 b1 a2 b2 a3 b3 a4 b4 a5 b5 : Int) (vs vs' : List Int) (ls ls' : List (List Int)) (Av Av' Aa Aa' : Option Addr) (cv cv' ca ca' B : Nat) (w : World) (hB : B ≤ w.heap.size) (hx : StSl w B vs ls Av cv Aa ca) (hy : StSl w B vs' ls' Av' cv' Aa' ca') :
    Calls Try.prog 9 #[.agg #[.int .u8 a0, .int .u8 a1, .int .i64 a2, .int .i64 a3, .int .i64 a4, .int .i64 a5, .slice Av vs.length cv, .slice Aa ls.length ca], .agg #[.int .u8 b0, .int .u8 b1, .int .i64 b2, .int .i64 b3, .int .i64 b4, .int .i64 b5, .slice Av' vs'.length cv', .slice Aa' ls'.length ca']] w (BoolPost (eq6 a0 b0 a1 b1 a2 b2 a3 b3 a4 b4 a5 b5 (vs == vs') (ls == ls')) w) := by
  obtain ⟨n1, hn1⟩ : ∃ n, n = ls.length := ⟨_, rfl⟩
  obtain ⟨n2, hn2⟩ : ∃ n, n = ls'.length := ⟨_, rfl⟩
  obtain ⟨v1, hv1⟩ : ∃ n, n = vs.length := ⟨_, rfl⟩
  obtain ⟨v2, hv2⟩ : ∃ n, n = vs'.length := ⟨_, rfl⟩
  obtain ⟨q, hq⟩ : ∃ q, q = (vs == vs') := ⟨_, rfl⟩
  obtain ⟨q', hq'⟩ : ∃ q, q = (ls == ls') := ⟨_, rfl⟩
  have hc := fun (W : World) (hf : Fr NoT w W) => ints_eq vs vs' Av Av' cv cv' W B (hx.vars.keep (Same.of_fr hf hB fun _ h => h.elim)) (hy.vars.keep (Same.of_fr hf hB fun _ h => h.elim))
  have hd := fun (W : World) (hf : Fr NoT w W) => rows_eq ls ls' Aa Aa' ca ca' W B (Nat.le_trans hB hf.size) (hx.arrs.keep (Same.of_fr hf hB fun _ h => h.elim)) (hy.arrs.keep (Same.of_fr hf hB fun _ h => h.elim))
  have kk := bk_alloc2 w #[.int .u8 a0, .int .u8 a1, .int .i64 a2, .int .i64 a3, .int .i64 a4, .int .i64 a5, .slice Av vs.length cv, .slice Aa ls.length ca] #[.int .u8 b0, .int .u8 b1, .int .i64 b2, .int .i64 b3, .int .i64 b4, .int .i64 b5, .slice Av' vs'.length cv', .slice Aa' ls'.length ca'] 30 30
  rw [← hv1, ← hv2, ← hq] at hc
  rw [← hn1, ← hn2, ← hq'] at hd
  rw [← hn1, ← hn2, ← hv1, ← hv2] at kk
  rw [← hn1, ← hn2, ← hv1, ← hv2, ← hq, ← hq']
  have HC := Lib.hid hc
  have HD := Lib.hid hd
  have HKK := Lib.hid kk
  obtain ⟨w1, hw1⟩ : ∃ w1, w1 = (w.alloc (.cells #[.int .u8 a0, .int .u8 a1, .int .i64 a2, .int .i64 a3, .int .i64 a4, .int .i64 a5, .slice Av v1 cv, .slice Aa n1 ca] 30)).alloc (.cells #[.int .u8 b0, .int .u8 b1, .int .i64 b2, .int .i64 b3, .int .i64 b4, .int .i64 b5, .slice Av' v2 cv', .slice Aa' n2 ca'] 30) := ⟨_, rfl⟩
  have hf1 : Fr NoT w w1 := by rw [hw1]; exact ((Fr.refl _ _).alloc _).alloc _
  have HW1 := Lib.hid hw1
  have HF1 := Lib.hid hf1
  clear hx hy hn1 hn2 hv1 hv2 hq hq' hw1 hf1 hc hd kk
  by_cases h0 : a0 = b0
  case neg =>
    have g0 : (a0 == b0) = false := by simpa using h0
    have HE := Lib.hid (show eq6 a0 b0 a1 b1 a2 b2 a3 b3 a4 b4 a5 b5 q q' = false from by simp [eq6, g0])
    go_enter Try.func9, Try.ntmps9
    go_wp2_with fail
    rw [← HW1.out]
    go_ret
    exact ⟨by rw [HE.out]; rfl, HF1.out.plain⟩
  subst h0
  by_cases h1 : a1 = b1
  case neg =>
    have g1 : (a1 == b1) = false := by simpa using h1
    have HE := Lib.hid (show eq6 a0 a0 a1 b1 a2 b2 a3 b3 a4 b4 a5 b5 q q' = false from by simp [eq6, g1])
    go_enter Try.func9, Try.ntmps9
    go_wp2_with fail
    rw [← HW1.out]
    go_ret
    exact ⟨by rw [HE.out]; rfl, HF1.out.plain⟩
  subst h1
  by_cases h2 : a2 = b2
  case neg =>
    have g2 : (a2 == b2) = false := by simpa using h2
    have HE := Lib.hid (show eq6 a0 a0 a1 a1 a2 b2 a3 b3 a4 b4 a5 b5 q q' = false from by simp [eq6, g2])
    go_enter Try.func9, Try.ntmps9
    go_wp2_with fail
    rw [← HW1.out]
    go_ret
    exact ⟨by rw [HE.out]; rfl, HF1.out.plain⟩
  subst h2
  by_cases h3 : a3 = b3
  case neg =>
    have g3 : (a3 == b3) = false := by simpa using h3
    have HE := Lib.hid (show eq6 a0 a0 a1 a1 a2 a2 a3 b3 a4 b4 a5 b5 q q' = false from by simp [eq6, g3])
    go_enter Try.func9, Try.ntmps9
    go_wp2_with fail
    rw [← HW1.out]
    go_ret
    exact ⟨by rw [HE.out]; rfl, HF1.out.plain⟩
  subst h3
  by_cases h4 : a4 = b4
  case neg =>
    have g4 : (a4 == b4) = false := by simpa using h4
    have HE := Lib.hid (show eq6 a0 a0 a1 a1 a2 a2 a3 a3 a4 b4 a5 b5 q q' = false from by simp [eq6, g4])
    go_enter Try.func9, Try.ntmps9
    go_wp2_with fail
    rw [← HW1.out]
    go_ret
    exact ⟨by rw [HE.out]; rfl, HF1.out.plain⟩
  subst h4
  by_cases h5 : a5 = b5
  case neg =>
    have g5 : (a5 == b5) = false := by simpa using h5
    have HE := Lib.hid (show eq6 a0 a0 a1 a1 a2 a2 a3 a3 a4 a4 a5 b5 q q' = false from by simp [eq6, g5])
    go_enter Try.func9, Try.ntmps9
    go_wp2_with fail
    rw [← HW1.out]
    go_ret
    exact ⟨by rw [HE.out]; rfl, HF1.out.plain⟩
  subst h5
  have HE := Lib.hid (show eq6 a0 a0 a1 a1 a2 a2 a3 a3 a4 a4 a5 a5 q q' = (q && q') from by simp [eq6])
  go_enter Try.func9, Try.ntmps9
  go_wp2_with fail
  rw [← HW1.out]
  have a7 := HKK.out.1.cell 7
  have b7 := HKK.out.2.cell 7
  have al := HKK.out.1.lt
  have bl := HKK.out.2.lt
  rw [← HW1.out] at a7 b7 al bl
  simp only [List.getElem?_toArray, List.getElem?_cons_succ, List.getElem?_cons_zero] at a7 b7
  go_at_call 17
  refine (HC.out w1 HF1.out).mono ?_
  rintro e w2 ⟨rfl, hb2⟩
  have hf2 : Fr NoT w1 w2 := Fr.below hb2
  have a7' := (hf2.cell (p := ⟨w.heap.size, 7, none⟩) al id).trans a7
  have b7' := (hf2.cell (p := ⟨w.heap.size + 1, 7, none⟩) bl id).trans b7
  have al' := hf2.low al
  have bl' := hf2.low bl
  have HF2 := Lib.hid (HF1.out.trans hf2)
  clear hb2 hf2
  cases q with
  | false =>
    go_wp2_with fail
    go_ret
    exact ⟨by rw [HE.out]; rfl, HF2.out.plain⟩
  | true =>
    go_wp2_with fail
    go_at_call 18
    refine (HD.out w2 HF2.out).mono ?_
    rintro e w3 ⟨rfl, hb3⟩
    go_wp2_with fail
    go_ret
    exact ⟨by rw [HE.out]; rfl, (HF2.out.trans (Fr.below hb3)).plain⟩
end Go.Proofs.Ytdflbaipbmkdgaa
