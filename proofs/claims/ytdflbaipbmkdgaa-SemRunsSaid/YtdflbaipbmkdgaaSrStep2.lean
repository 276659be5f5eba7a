/-
  ref14's step: the walk.
-/
import Derived.Test.YtdflbaipbmkdgaaJnSrV
import Derived.Test.YtdflbaipbmkdgaaSrOut
namespace Go.Proofs.Ytdflbaipbmkdgaa
open Go.RowKit Go.Shelf
set_option linter.unusedVariables false
set_option linter.unusedSimpArgs false

theorem may_len {g : Gr} (h : mayG g = true) : g.edges.length ≤ 2048 ∧ g.arrays.length ≤ 4 ∧ 0 ≤ g.vars ∧ g.vars ≤ 32 := by
  simp only [mayG, Bool.and_eq_true, Bool.not_eq_true', Bool.or_eq_false_iff, odd1, decide_eq_false_iff_not] at h
  omega
theorem stepP_stop {c : RW} {s t : Rs} {w w1 w' : World} {en : Ending} {As : Option Addr} {cs : Nat} {k wr at_ ed : Int} (hd : stepG c.g s = .inr (t.stop k wr at_ ed)) (hw : Fr c.T w w1) (h : EndsP c t As cs k wr at_ ed w1 en w') : StepP c s w en w' := by
  refine ⟨hw.trans (h.2.2.toT c.tR), ?_⟩
  rw [hd]
  exact ⟨h.1, As, cs, t, k, wr, at_, ed, rfl, h.2.1⟩
theorem idx_at {w : World} {B : Nat} {is : List Nat} {A : Option Addr} {c : Nat} (h : IsSl w B (is.map fun (i : Nat) => (i : Int)) A c) {j i : Nat} (hj : is[j]? = some i) : ∃ b o, A = some ⟨b, o, none⟩ ∧ b < B ∧ w.cell? ⟨b, o + j, none⟩ = some (.int .i64 i) := by
  obtain ⟨b, o, e, hb, hh⟩ := h.2.2 (by rw [List.length_map]; have := (List.getElem?_eq_some_iff.1 hj).1; omega)
  exact ⟨b, o, e, hb, (hh j i (by rw [List.getElem?_map, hj]; rfl)).1⟩

theorem RnR.goto {ty : TypeId} {c : RW} {w : World} {s : Rs} {As : Option Addr} {cs : Nat} {k wr at_ ed : Int} (h : RnR ty c w s As cs k wr at_ ed) (n : Int) :
    RnR ty c (w.setCell ⟨c.R, 10, none⟩ (.int .i64 n)) { s with node := n } As cs k wr at_ ed ∧ Fr c.T w (w.setCell ⟨c.R, 10, none⟩ (.int .i64 n)) := by
  have hf : Fr (fun b => b = c.R) w (w.setCell ⟨c.R, 10, none⟩ (.int .i64 n)) := Fr.own (Fr.refl _ _) _ _
  refine ⟨h.own hf rfl rfl h.sc ?_, hf.toT c.tR⟩
  have := h.blk.set_ 10 (.int .i64 n)
  simpa [rnC] using this
theorem RnR.pays {ty : TypeId} {c : RW} {w : World} {s : Rs} {As : Option Addr} {cs : Nat} {k wr at_ ed : Int} (h : RnR ty c w s As cs k wr at_ ed) (n : Nat) :
    RnR ty c (w.setCell ⟨c.R, 12, none⟩ (.int .i64 n)) { s with left := n } As cs k wr at_ ed ∧ Fr c.T w (w.setCell ⟨c.R, 12, none⟩ (.int .i64 n)) := by
  have hf : Fr (fun b => b = c.R) w (w.setCell ⟨c.R, 12, none⟩ (.int .i64 n)) := Fr.own (Fr.refl _ _) _ _
  refine ⟨h.own hf rfl rfl h.sc ?_, hf.toT c.tR⟩
  have := h.blk.set_ 12 (.int .i64 n)
  simpa [rnC] using this
theorem pay_free {s : Rs} {e : Ed} (h : costs e.kind = false) : s.pay e = s := by unfold Rs.pay; rw [h]; rfl
theorem pay_less {s : Rs} {e : Ed} (h : costs e.kind = true) : s.pay e = { s with left := s.left - 1 } := by unfold Rs.pay; rw [h]; rfl
theorem stepP_go {c : RW} {s t : Rs} {w w' : World} {As : Option Addr} {cs : Nat} (hd : stepG c.g s = .inl t) (hf : Fr c.T w w') (h : RnR 57 c w' t As cs 0 0 0 0) : StepP c s w (.returned (.bool true)) w' := by
  refine ⟨hf, ?_⟩
  rw [hd]
  exact ⟨rfl, As, cs, h⟩

set_option maxRecDepth 100000 in
set_option maxHeartbeats 6400000 in
theorem rstep_any (c : RW) (w : World) (s : Rs) (As : Option Addr) (cs : Nat) (h : RnR 57 c w s As cs 0 0 0 0) (hm : mayG c.g = true) (hlf : s.left ≤ 65536) :
    Calls Try.prog 15 #[.pointer (some ⟨c.R, 0, none⟩)] w (StepP c s w) := by
  have hlen := (may_len hm).1
  have hout := fun (W : World) (hf : Fr NoT w W) => rout_new c.g.edges s.node c.g.vars c.Aa c.g.arrays.length c.ca c.g.nodes c.g.start c.g.last c.Ae c.ce c.L W (Nat.le_trans h.lt hf.size) (h.fr0 hf).gr.edges hlen
  have q0 := h.blk.cell 0
  have q1 := h.blk.cell 1
  have q2 := h.blk.cell 2
  have q3 := h.blk.cell 3
  have q4 := h.blk.cell 4
  have q5 := h.blk.cell 5
  have q10 := h.blk.cell 10
  simp only [rnC, List.getElem?_toArray, List.getElem?_cons_succ, List.getElem?_cons_zero] at q0 q1 q2 q3 q4 q5 q10
  have hR : c.R < w.heap.size := h.blk.lt
  unfold grV at hout
  obtain ⟨ne, hne⟩ : ∃ n, n = c.g.edges.length := ⟨_, rfl⟩
  obtain ⟨na, hna⟩ : ∃ n, n = c.g.arrays.length := ⟨_, rfl⟩
  rw [← hne] at hout q5 hlen
  rw [← hna] at hout q1
  obtain ⟨R, hRR⟩ : ∃ R, R = c.R := ⟨_, rfl⟩
  rw [← hRR] at q0 q1 q2 q3 q4 q5 q10 hR ⊢
  have HH := Lib.hid h
  have HM := Lib.hid hm
  have HO := Lib.hid hout
  have HNE := Lib.hid hne
  have HRR := Lib.hid hRR
  clear h hm hout hne hna hRR
  go_enter Try.func15, Try.ntmps15
  go_wp2_with fail
  refine wp_region_F (fun W' => W'.cell? ⟨R, 0, none⟩ = some (.int .i64 c.g.vars) ∧ W'.cell? ⟨R, 1, none⟩ = some (.slice c.Aa na c.ca) ∧ W'.cell? ⟨R, 2, none⟩ = some (.int .i64 c.g.nodes) ∧ W'.cell? ⟨R, 3, none⟩ = some (.int .i64 c.g.start) ∧ W'.cell? ⟨R, 4, none⟩ = some (.int .i64 c.g.last) ∧ W'.cell? ⟨R, 5, none⟩ = some (.slice c.Ae ne c.ce) ∧ W'.cell? ⟨R, 10, none⟩ = some (.int .i64 s.node)) 11 (by kernel_rfl) ⟨q0, q1, q2, q3, q4, q5, q10⟩ (fun hHeld => ?_)
  refine wpF_take 0 (v := ?_) rfl (by kernel_rfl) (by kernel_rfl) (by kernel_rfl) (by kernel_rfl) (fun _ _ _ h => h) hHeld (by rfl) ?_ ?_
  rotate_left
  · intro wz hSz
    (try dsimp only at hSz)
    go_simp
    try with_reducible rfl
  try simp only [Act.put, List.setIfInBounds_toArray, List.set_cons_zero, List.set_cons_succ]
  refine wpF_take 1 (v := ?_) rfl (by kernel_rfl) (by kernel_rfl) (by kernel_rfl) (by kernel_rfl) (fun _ _ _ h => h) hHeld (by rfl) ?_ ?_
  rotate_left
  · intro wz hSz
    (try dsimp only at hSz)
    go_simp
    try with_reducible rfl
  try simp only [Act.put, List.setIfInBounds_toArray, List.set_cons_zero, List.set_cons_succ]
  refine wpF_take 2 (v := ?_) rfl (by kernel_rfl) (by kernel_rfl) (by kernel_rfl) (by kernel_rfl) (fun _ _ _ h => h) hHeld (by rfl) ?_ ?_
  rotate_left
  · intro wz hSz
    (try dsimp only at hSz)
    go_simp
    try with_reducible rfl
  try simp only [Act.put, List.setIfInBounds_toArray, List.set_cons_zero, List.set_cons_succ]
  refine wpF_take 3 (v := ?_) rfl (by kernel_rfl) (by kernel_rfl) (by kernel_rfl) (by kernel_rfl) (fun _ _ _ h => h) hHeld (by rfl) ?_ ?_
  rotate_left
  · intro wz hSz
    (try dsimp only at hSz)
    go_simp
    try with_reducible rfl
  try simp only [Act.put, List.setIfInBounds_toArray, List.set_cons_zero, List.set_cons_succ]
  refine wpF_take 4 (v := ?_) rfl (by kernel_rfl) (by kernel_rfl) (by kernel_rfl) (by kernel_rfl) (fun _ _ _ h => h) hHeld (by rfl) ?_ ?_
  rotate_left
  · intro wz hSz
    (try dsimp only at hSz)
    go_simp
    try with_reducible rfl
  try simp only [Act.put, List.setIfInBounds_toArray, List.set_cons_zero, List.set_cons_succ]
  refine wpF_take 5 (v := ?_) rfl (by kernel_rfl) (by kernel_rfl) (by kernel_rfl) (by kernel_rfl) (fun _ _ _ h => h) hHeld (by rfl) ?_ ?_
  rotate_left
  · intro wz hSz
    (try dsimp only at hSz)
    go_simp
    try with_reducible rfl
  try simp only [Act.put, List.setIfInBounds_toArray, List.set_cons_zero, List.set_cons_succ]
  refine wpF_take 6 (v := ?_) rfl (by kernel_rfl) (by kernel_rfl) (by kernel_rfl) (by kernel_rfl) (fun _ _ _ h => h) hHeld (by rfl) ?_ ?_
  rotate_left
  · intro wz hSz
    (try dsimp only at hSz)
    go_simp
    try with_reducible rfl
  try simp only [Act.put, List.setIfInBounds_toArray, List.set_cons_zero, List.set_cons_succ]
  refine wpF_take 7 (v := ?_) rfl (by kernel_rfl) (by kernel_rfl) (by kernel_rfl) (by kernel_rfl) (fun _ _ _ h => h) hHeld (by rfl) ?_ ?_
  rotate_left
  · intro wz hSz
    (try dsimp only at hSz)
    go_simp
    try with_reducible rfl
  try simp only [Act.put, List.setIfInBounds_toArray, List.set_cons_zero, List.set_cons_succ]
  refine wpF_take 8 (v := ?_) rfl (by kernel_rfl) (by kernel_rfl) (by kernel_rfl) (by kernel_rfl) (fun _ _ _ h => h) hHeld (by rfl) ?_ ?_
  rotate_left
  · intro wz hSz
    (try dsimp only at hSz)
    go_simp
    try with_reducible rfl
  try simp only [Act.put, List.setIfInBounds_toArray, List.set_cons_zero, List.set_cons_succ]
  refine wpF_next 9 rfl (by kernel_rfl) (fun K hK => ?_)
  go_simp
  go_at_call 36
  refine (HO.out w.drew (Fr.refl _ _).drew).mono ?_
  rintro _ w1 ⟨A, co, rfl, hsl, hb1, hnew⟩
  have hf1 : Fr NoT w w1 := (Fr.refl _ _).drew.trans (Fr.below hb1)
  have hRW := hR
  have hHeld1 : w1.cell? ⟨R, 0, none⟩ = some (.int .i64 c.g.vars) ∧ w1.cell? ⟨R, 1, none⟩ = some (.slice c.Aa na c.ca) ∧ w1.cell? ⟨R, 2, none⟩ = some (.int .i64 c.g.nodes) ∧ w1.cell? ⟨R, 3, none⟩ = some (.int .i64 c.g.start) ∧ w1.cell? ⟨R, 4, none⟩ = some (.int .i64 c.g.last) ∧ w1.cell? ⟨R, 5, none⟩ = some (.slice c.Ae ne c.ce) ∧ w1.cell? ⟨R, 10, none⟩ = some (.int .i64 s.node) :=
    ⟨(hf1.cell (p := ⟨R, 0, none⟩) hR id).trans q0, (hf1.cell (p := ⟨R, 1, none⟩) hR id).trans q1, (hf1.cell (p := ⟨R, 2, none⟩) hR id).trans q2, (hf1.cell (p := ⟨R, 3, none⟩) hR id).trans q3, (hf1.cell (p := ⟨R, 4, none⟩) hR id).trans q4, (hf1.cell (p := ⟨R, 5, none⟩) hR id).trans q5, (hf1.cell (p := ⟨R, 10, none⟩) hR id).trans q10⟩
  try dsimp only
  refine hK.out _ _ hHeld1 ?_
  clear hK K
  try simp only [Act.put, List.setIfInBounds_toArray, List.set_cons_zero, List.set_cons_succ]
  refine wpF_next 10 rfl (by kernel_rfl) (fun K hK => ?_)
  go_simp
  refine hK.out _ _ hHeld1 ?_
  clear hK K
  refine wpF_done (by kernel_rfl) ?_
  have HF1 := Lib.hid hf1
  have HSL := Lib.hid hsl
  have HR1 := Lib.hid (HH.out.fr0 hf1)
  have q5' := hHeld1.2.2.2.2.2.1
  have hR1 : R < w1.heap.size := hf1.low hR
  cases hix : idxE c.g.edges s.node c.g.edges.length with
  | nil =>
    have HD := Lib.hid (step_none hix)
    clear hix hHeld1 hHeld hb1 hf1 hsl
    go_wp2_with fail
    go_at_call 38
    rw [HRR.out]
    refine (ends_any c w1 s As cs 0 0 0 0 4 0 0 0 HR1.out).mono ?_
    rintro _ w3 ⟨rfl, hp⟩
    go_wp2_with fail
    go_ret
    exact stepP_stop HD.out HF1.out.any ⟨rfl, hp⟩
  | cons i r =>
    obtain ⟨e, he, hmem, hfr, hnl, hcase⟩ := may_outs HM.out hix
    have hme := may_e HM.out hmem
    rw [hix] at hsl
    obtain ⟨bx, ox, rfl, hbx, ci⟩ := idx_at hsl (j := 0) rfl
    have ci : w1.cell? ⟨bx, ox, none⟩ = some (.int .i64 i) := ci
    have hbxn : w.heap.size ≤ bx := hnew bx ox rfl
    have HNR := Lib.hid (show ¬ bx = R by omega)
    have HNX := Lib.hid (show ¬ c.T bx from fun h => absurd (HH.out.below _ h) (by omega))
    obtain ⟨b, o, hA, hat⟩ := ed_at HR1.out.gr.edges he
    obtain ⟨hbB, e0, e1, e2, e3, e4, ⟨A5, c5, e5, hx5⟩, e6, hok⟩ := hat.at_ he
    have hbw : b < w1.heap.size := Nat.lt_of_lt_of_le hbB HR1.out.lt
    have e2 : w1.cell? ⟨b, o + i * 7 + 2, none⟩ = some (.int .u8 e.kind) := e2
    rw [hA] at q5'
    obtain ⟨m, hm⟩ : ∃ m, m = (i :: r).length := ⟨_, rfl⟩
    rw [← hm]
    have hm0 : 0 < m := by rw [hm]; simp
    have hm1 : m ≤ 2048 := by rw [hm, ← hix]; exact Nat.le_trans (idxE_le _ _ _) (may_len HM.out).1
    have hmn : ((m : Int) == 0) = false := by simp; omega
    have hi := (List.getElem?_eq_some_iff.1 he).1
    rw [← HNE.out] at hi
    have hi0 : (0 : Int) ≤ (i : Int) := by omega
    have hi1 : (i : Int) < (ne : Int) := by omega
    have HMQ := Lib.hid hm
    have HIX := Lib.hid hix
    have HE := Lib.hid he
    have HME := Lib.hid hme
    have HCA := Lib.hid hcase
    have HX5 := Lib.hid hx5
    have HSL2 := Lib.hid hsl
    obtain ⟨ek, hek⟩ : ∃ k, k = e.kind := ⟨_, rfl⟩
    rw [← hek] at e2
    have HEK := Lib.hid hek
    have HFRM := Lib.hid hfr
    have hS : ∀ (T : Nat → Prop) (W' : World), Fr T w1 W' → ¬ T R → ¬ T b → ¬ T bx → W'.cell? ⟨R, 5, none⟩ = some (.slice (some ⟨b, o, none⟩) ne c.ce) ∧ W'.cell? ⟨bx, ox, none⟩ = some (.int .i64 i) ∧ W'.cell? ⟨b, o + i * 7, none⟩ = some (.int .i64 e.from_) ∧ W'.cell? ⟨b, o + i * 7 + 1, none⟩ = some (.int .i64 e.to_) ∧ W'.cell? ⟨b, o + i * 7 + 2, none⟩ = some (.int .u8 ek) ∧ W'.cell? ⟨b, o + i * 7 + 3, none⟩ = some (.int .i64 e.n) ∧ W'.cell? ⟨b, o + i * 7 + 4, none⟩ = some (.int .u8 e.cmp) ∧ W'.cell? ⟨b, o + i * 7 + 5, none⟩ = some (.slice A5 e.args.len c5) ∧ W'.cell? ⟨b, o + i * 7 + 6, none⟩ = some (.int .i64 e.at_) := fun T W' hf n1 n2 n3 =>
      ⟨(hf.cell (p := ⟨R, 5, none⟩) hR1 n1).trans q5', (hf.cell (p := ⟨bx, ox, none⟩) hbx n3).trans ci, (hf.cell (p := ⟨b, o + i * 7, none⟩) hbw n2).trans e0, (hf.cell (p := ⟨b, o + i * 7 + 1, none⟩) hbw n2).trans e1, (hf.cell (p := ⟨b, o + i * 7 + 2, none⟩) hbw n2).trans e2, (hf.cell (p := ⟨b, o + i * 7 + 3, none⟩) hbw n2).trans e3, (hf.cell (p := ⟨b, o + i * 7 + 4, none⟩) hbw n2).trans e4, (hf.cell (p := ⟨b, o + i * 7 + 5, none⟩) hbw n2).trans e5, (hf.cell (p := ⟨b, o + i * 7 + 6, none⟩) hbw n2).trans e6⟩
    have HS := Lib.hid hS
    clear hix he hme hcase hx5 hsl hm hHeld hb1 hA hat hok hmem hek hfr hS
    go_wp2_with fail
    refine wp_region_F (fun W' => W'.cell? ⟨R, 5, none⟩ = some (.slice (some ⟨b, o, none⟩) ne c.ce) ∧ W'.cell? ⟨bx, ox, none⟩ = some (.int .i64 i) ∧ W'.cell? ⟨b, o + i * 7, none⟩ = some (.int .i64 e.from_) ∧ W'.cell? ⟨b, o + i * 7 + 1, none⟩ = some (.int .i64 e.to_) ∧ W'.cell? ⟨b, o + i * 7 + 2, none⟩ = some (.int .u8 ek) ∧ W'.cell? ⟨b, o + i * 7 + 3, none⟩ = some (.int .i64 e.n) ∧ W'.cell? ⟨b, o + i * 7 + 4, none⟩ = some (.int .u8 e.cmp) ∧ W'.cell? ⟨b, o + i * 7 + 5, none⟩ = some (.slice A5 e.args.len c5) ∧ W'.cell? ⟨b, o + i * 7 + 6, none⟩ = some (.int .i64 e.at_)) 12 (by kernel_rfl) ⟨q5', ci, e0, e1, e2, e3, e4, e5, e6⟩ (fun hHeld => ?_)
    refine wpF_take 0 (v := ?_) rfl (by kernel_rfl) (by kernel_rfl) (by kernel_rfl) (by kernel_rfl) (fun _ _ _ h => h) hHeld (by rfl) ?_ ?_
    rotate_left
    · intro wz hSz
      (try dsimp only at hSz)
      go_simp
      try with_reducible rfl
    try simp only [Act.put, List.setIfInBounds_toArray, List.set_cons_zero, List.set_cons_succ]
    refine wpF_take 1 (v := ?_) rfl (by kernel_rfl) (by kernel_rfl) (by kernel_rfl) (by kernel_rfl) (fun _ _ _ h => h) hHeld (by rfl) ?_ ?_
    rotate_left
    · intro wz hSz
      (try dsimp only at hSz)
      go_simp
      try with_reducible rfl
    try simp only [Act.put, List.setIfInBounds_toArray, List.set_cons_zero, List.set_cons_succ]
    refine wpF_take 2 (v := ?_) rfl (by kernel_rfl) (by kernel_rfl) (by kernel_rfl) (by kernel_rfl) (fun _ _ _ h => h) hHeld (by rfl) ?_ ?_
    rotate_left
    · intro wz hSz
      (try dsimp only at hSz)
      go_simp
      try with_reducible rfl
    try simp only [Act.put, List.setIfInBounds_toArray, List.set_cons_zero, List.set_cons_succ]
    refine wpF_take 3 (v := ?_) rfl (by kernel_rfl) (by kernel_rfl) (by kernel_rfl) (by kernel_rfl) (fun _ _ _ h => h) hHeld (by rfl) ?_ ?_
    rotate_left
    · intro wz hSz
      (try dsimp only at hSz)
      go_simp
      try with_reducible rfl
    try simp only [Act.put, List.setIfInBounds_toArray, List.set_cons_zero, List.set_cons_succ]
    refine wpF_take 4 (v := ?_) rfl (by kernel_rfl) (by kernel_rfl) (by kernel_rfl) (by kernel_rfl) (fun _ _ _ h => h) hHeld (by rfl) ?_ ?_
    rotate_left
    · intro wz hSz
      (try dsimp only at hSz)
      go_simp
      try with_reducible rfl
    try simp only [Act.put, List.setIfInBounds_toArray, List.set_cons_zero, List.set_cons_succ]
    refine wpF_take 5 (v := ?_) rfl (by kernel_rfl) (by kernel_rfl) (by kernel_rfl) (by kernel_rfl) (fun _ _ _ h => h) hHeld (by rfl) ?_ ?_
    rotate_left
    · intro wz hSz
      (try dsimp only at hSz)
      go_simp
      try with_reducible rfl
    try simp only [Act.put, List.setIfInBounds_toArray, List.set_cons_zero, List.set_cons_succ]
    refine wpF_take 6 (v := ?_) rfl (by kernel_rfl) (by kernel_rfl) (by kernel_rfl) (by kernel_rfl) (fun _ _ _ h => h) hHeld (by rfl) ?_ ?_
    rotate_left
    · intro wz hSz
      (try dsimp only at hSz)
      go_simp
      try with_reducible rfl
    try simp only [Act.put, List.setIfInBounds_toArray, List.set_cons_zero, List.set_cons_succ]
    refine wpF_take 7 (v := ?_) rfl (by kernel_rfl) (by kernel_rfl) (by kernel_rfl) (by kernel_rfl) (fun _ _ _ h => h) hHeld (by rfl) ?_ ?_
    rotate_left
    · intro wz hSz
      (try dsimp only at hSz)
      go_simp
      try with_reducible rfl
    try simp only [Act.put, List.setIfInBounds_toArray, List.set_cons_zero, List.set_cons_succ]
    refine wpF_take 8 (v := ?_) rfl (by kernel_rfl) (by kernel_rfl) (by kernel_rfl) (by kernel_rfl) (fun _ _ _ h => h) hHeld (by rfl) ?_ ?_
    rotate_left
    · intro wz hSz
      (try dsimp only at hSz)
      go_simp
      try with_reducible rfl
    try simp only [Act.put, List.setIfInBounds_toArray, List.set_cons_zero, List.set_cons_succ]
    refine wpF_take 9 (v := ?_) rfl (by kernel_rfl) (by kernel_rfl) (by kernel_rfl) (by kernel_rfl) (fun _ _ _ h => h) hHeld (by rfl) ?_ ?_
    rotate_left
    · intro wz hSz
      (try dsimp only at hSz)
      go_simp
      try with_reducible rfl
    try simp only [Act.put, List.setIfInBounds_toArray, List.set_cons_zero, List.set_cons_succ]
    refine wpF_next 10 rfl (by kernel_rfl) (fun K hK => ?_)
    go_simp
    obtain ⟨w2, hw2⟩ : ∃ w2, w2 = (w1.alloc (.cells #[.int .i64 0, .int .i64 0, .int .u8 0, .int .i64 0, .int .u8 0, .slice none 0 0, .int .i64 0] 45)).drew := ⟨_, rfl⟩
    have hf2 : Fr NoT w1 w2 := by rw [hw2]; exact ((Fr.refl _ _).alloc _).drew
    have k2 : Bk w2 w1.heap.size 45 #[.int .i64 0, .int .i64 0, .int .u8 0, .int .i64 0, .int .u8 0, .slice none 0 0, .int .i64 0] := by rw [hw2]; exact (Bk.new _ _ _).fr0 (Fr.refl _ _).drew
    rw [← hw2]
    have HW2 := Lib.hid hw2
    have HK2 := Lib.hid k2
    have HF2 := Lib.hid hf2
    have hs2 := HS.out _ _ hf2 id id id
    try dsimp only
    refine hK.out _ _ hs2 ?_
    clear hK K hw2
    try simp only [Act.put, List.setIfInBounds_toArray, List.set_cons_zero, List.set_cons_succ]
    have y0 := k2.cell 0
    have y1 := k2.cell 1
    have y2 := k2.cell 2
    have y3 := k2.cell 3
    have y4 := k2.cell 4
    have y5 := k2.cell 5
    have y6 := k2.cell 6
    have z0 := k2.frozen 0
    have z1 := k2.frozen 1
    have z2 := k2.frozen 2
    have z3 := k2.frozen 3
    have z4 := k2.frozen 4
    have z5 := k2.frozen 5
    have z6 := k2.frozen 6
    have hS1 := k2.lt
    simp only [List.getElem?_toArray, List.getElem?_cons_succ, List.getElem?_cons_zero] at y0 y1 y2 y3 y4 y5 y6
    refine wpF_next 11 rfl (by kernel_rfl) (fun K hK => ?_)
    go_simp
    obtain ⟨w3, hw3⟩ : ∃ w3, w3 = ((((((w2.setCell ⟨w1.heap.size, 0, none⟩ (.int .i64 e.from_)).setCell ⟨w1.heap.size, 1, none⟩ (.int .i64 e.to_)).setCell ⟨w1.heap.size, 2, none⟩ (.int .u8 ek)).setCell ⟨w1.heap.size, 3, none⟩ (.int .i64 e.n)).setCell ⟨w1.heap.size, 4, none⟩ (.int .u8 e.cmp)).setCell ⟨w1.heap.size, 5, none⟩ (.slice A5 e.args.len c5)).setCell ⟨w1.heap.size, 6, none⟩ (.int .i64 e.at_) := ⟨_, rfl⟩
    rw [← hw3]
    have hf3 : Fr (fun x => x = w1.heap.size) w2 w3 := by rw [hw3]; exact Fr.own (Fr.own (Fr.own (Fr.own (Fr.own (Fr.own (Fr.own (Fr.refl _ _) _ _) _ _) _ _) _ _) _ _) _ _) _ _
    have hn1 : ¬ R = w1.heap.size := by omega
    have hn2 : ¬ b = w1.heap.size := by omega
    have hn3 : ¬ bx = w1.heap.size := by omega
    have hf13 : Fr (fun x => x = w1.heap.size) w1 w3 := hf2.any.trans hf3
    have hs3 := HS.out _ _ hf13 hn1 hn2 hn3
    have hnR : ¬ bx = R := HNR.out
    have hnTx : ¬ c.T bx := HNX.out
    refine hK.out _ _ hs3 ?_
    clear hK K
    refine wpF_done (by kernel_rfl) ?_
    have k3 : Bk w3 w1.heap.size 45 #[.int .i64 e.from_, .int .i64 e.to_, .int .u8 ek, .int .i64 e.n, .int .u8 e.cmp, .slice A5 e.args.len c5, .int .i64 e.at_] := by
      have := ((((((HK2.out.set_ 0 (.int .i64 e.from_)).set_ 1 (.int .i64 e.to_)).set_ 2 (.int .u8 ek)).set_ 3 (.int .i64 e.n)).set_ 4 (.int .u8 e.cmp)).set_ 5 (.slice A5 e.args.len c5)).set_ 6 (.int .i64 e.at_)
      rw [hw3]; simpa using this
    have HK3 := Lib.hid k3
    have HF13 := Lib.hid hf13
    have HR3 := Lib.hid (HR1.out.far HR1.out (hf13.mono fun x _ hx => by have hx : x = w1.heap.size := hx; show w1.heap.size ≤ x; omega))
    have HF3 := Lib.hid (show Fr c.T w w3 from HF1.out.any.then hf13 fun x hx e => absurd hx (by have e : x = w1.heap.size := e; have := HF1.out.size; omega))
    have c2 := k3.cell 2
    have c1 := k3.cell 1
    have c6 := k3.cell 6
    have c4 := k3.cell 4
    have hSl := k3.lt
    simp only [List.getElem?_toArray, List.getElem?_cons_succ, List.getElem?_cons_zero] at c1 c2 c4 c6
    clear y0 y1 y2 y3 y4 y5 y6 z0 z1 z2 z3 z4 z5 z6 hw3 k2 k3 hf3 hf2 hf13 hs2 hHeld e0 e1 e2 e3 e4 e5 e6 q0 q1 q2 q3 q4 hHeld1
    by_cases k1 : ek = 1
    · subst k1
      have HNC := Lib.hid (show ¬ (costs e.kind = true ∧ s.left = 0) from by rw [← HEK.out]; simp [costs])
      have HRP := Lib.hid (show RnR 57 c w3 (s.pay e) As cs 0 0 0 0 from by rw [pay_free (by rw [← HEK.out]; rfl)]; exact HR3.out)
      have HFW := HF3
      have HKW := HK3
      have ciW := hs3.2.1
      have HDOES := Lib.hid (by have := rdoes_any c w3 (s.pay e) As cs HRP.out i e HE.out HME.out; rw [← HRR.out] at this; exact this : Calls Try.prog 39 #[.pointer (some ⟨R, 0, none⟩), .int .i64 i] w3 (DoesP c (s.pay e) e i w3))
      go_wp2_with fail
      go_at_call 39
      refine HDOES.out.mono ?_
      rintro en w4 ⟨hf4, hd⟩
      cases hdo : doE (s.pay e) e i with
      | inr z =>
        rw [hdo] at hd
        obtain ⟨rfl, As', cs', t, k, wr, at_, ed, hz, hrt⟩ := hd
        have HST := Lib.hid (show stepG c.g s = .inr z from by rw [step_do HIX.out HE.out HNC.out, hdo])
        have HPP := Lib.hid (show StepP c s w (.returned (.bool false)) w4 from ⟨HFW.out.trans hf4, by rw [HST.out]; exact ⟨rfl, As', cs', t, k, wr, at_, ed, hz, hrt⟩⟩)
        clear hdo hz hrt hf4
        go_wp2_with fail
        go_ret
        exact HPP.out
      | inl t =>
        rw [hdo] at hd
        obtain ⟨rfl, As', cs', hrt⟩ := hd
        have hnT : ¬ c.T w1.heap.size := fun h => by have := HH.out.below _ h; have := HF1.out.size; omega
        have k4 := HKW.out.fr hf4 hnT
        have c1' := k4.cell 1
        have c2' := k4.cell 2
        have c4' := k4.cell 4
        have hSl' := k4.lt
        simp only [List.getElem?_toArray, List.getElem?_cons_succ, List.getElem?_cons_zero] at c1' c2' c4'
        have HST := Lib.hid (show stepG c.g s = .inl { t with node := leadsTo c.g s e r } from by rw [step_do HIX.out HE.out HNC.out, hdo])
        have p10 := hrt.blk.cell 10
        have p10f := hrt.blk.frozen 10
        have hRl4 := hrt.blk.lt
        simp only [rnC, List.getElem?_toArray, List.getElem?_cons_succ, List.getElem?_cons_zero] at p10
        rw [← HRR.out] at p10 p10f hRl4
        have hgo := hrt.goto e.to_
        have HPP := Lib.hid (show StepP c s w (.returned (.bool true)) (w4.setCell ⟨R, 10, none⟩ (.int .i64 e.to_)) from by
          rw [HRR.out]
          refine stepP_go HST.out ((HFW.out.trans hf4).trans hgo.2) (As := As') (cs := cs') ?_
          rw [show leadsTo c.g s e r = e.to_ from by unfold leadsTo; rw [if_neg (by rw [← HEK.out]; exact by decide)]]
          exact hgo.1)
        clear hdo hf4 hgo k4 hrt
        go_wp2_with fail
        go_ret
        exact HPP.out
    by_cases k7 : ek = 7
    · subst k7
      have HNC := Lib.hid (show ¬ (costs e.kind = true ∧ s.left = 0) from by rw [← HEK.out]; simp [costs])
      have HRP := Lib.hid (show RnR 57 c w3 (s.pay e) As cs 0 0 0 0 from by rw [pay_free (by rw [← HEK.out]; rfl)]; exact HR3.out)
      have HFW := HF3
      have HKW := HK3
      have ciW := hs3.2.1
      have HDOES := Lib.hid (by have := rdoes_any c w3 (s.pay e) As cs HRP.out i e HE.out HME.out; rw [← HRR.out] at this; exact this : Calls Try.prog 39 #[.pointer (some ⟨R, 0, none⟩), .int .i64 i] w3 (DoesP c (s.pay e) e i w3))
      go_wp2_with fail
      go_at_call 39
      refine HDOES.out.mono ?_
      rintro en w4 ⟨hf4, hd⟩
      cases hdo : doE (s.pay e) e i with
      | inr z =>
        rw [hdo] at hd
        obtain ⟨rfl, As', cs', t, k, wr, at_, ed, hz, hrt⟩ := hd
        have HST := Lib.hid (show stepG c.g s = .inr z from by rw [step_do HIX.out HE.out HNC.out, hdo])
        have HPP := Lib.hid (show StepP c s w (.returned (.bool false)) w4 from ⟨HFW.out.trans hf4, by rw [HST.out]; exact ⟨rfl, As', cs', t, k, wr, at_, ed, hz, hrt⟩⟩)
        clear hdo hz hrt hf4
        go_wp2_with fail
        go_ret
        exact HPP.out
      | inl t =>
        rw [hdo] at hd
        obtain ⟨rfl, As', cs', hrt⟩ := hd
        have hnT : ¬ c.T w1.heap.size := fun h => by have := HH.out.below _ h; have := HF1.out.size; omega
        have k4 := HKW.out.fr hf4 hnT
        have c1' := k4.cell 1
        have c2' := k4.cell 2
        have c4' := k4.cell 4
        have hSl' := k4.lt
        simp only [List.getElem?_toArray, List.getElem?_cons_succ, List.getElem?_cons_zero] at c1' c2' c4'
        have HST := Lib.hid (show stepG c.g s = .inl { t with node := leadsTo c.g s e r } from by rw [step_do HIX.out HE.out HNC.out, hdo])
        have p10 := hrt.blk.cell 10
        have p10f := hrt.blk.frozen 10
        have hRl4 := hrt.blk.lt
        simp only [rnC, List.getElem?_toArray, List.getElem?_cons_succ, List.getElem?_cons_zero] at p10
        rw [← HRR.out] at p10 p10f hRl4
        have hgo := hrt.goto e.to_
        have HPP := Lib.hid (show StepP c s w (.returned (.bool true)) (w4.setCell ⟨R, 10, none⟩ (.int .i64 e.to_)) from by
          rw [HRR.out]
          refine stepP_go HST.out ((HFW.out.trans hf4).trans hgo.2) (As := As') (cs := cs') ?_
          rw [show leadsTo c.g s e r = e.to_ from by unfold leadsTo; rw [if_neg (by rw [← HEK.out]; exact by decide)]]
          exact hgo.1)
        clear hdo hf4 hgo k4 hrt
        go_wp2_with fail
        go_ret
        exact HPP.out
    by_cases k8 : ek = 8
    · subst k8
      have HNC := Lib.hid (show ¬ (costs e.kind = true ∧ s.left = 0) from by rw [← HEK.out]; simp [costs])
      have HRP := Lib.hid (show RnR 57 c w3 (s.pay e) As cs 0 0 0 0 from by rw [pay_free (by rw [← HEK.out]; rfl)]; exact HR3.out)
      have HFW := HF3
      have HKW := HK3
      have ciW := hs3.2.1
      have HDOES := Lib.hid (by have := rdoes_any c w3 (s.pay e) As cs HRP.out i e HE.out HME.out; rw [← HRR.out] at this; exact this : Calls Try.prog 39 #[.pointer (some ⟨R, 0, none⟩), .int .i64 i] w3 (DoesP c (s.pay e) e i w3))
      go_wp2_with fail
      go_at_call 39
      refine HDOES.out.mono ?_
      rintro en w4 ⟨hf4, hd⟩
      cases hdo : doE (s.pay e) e i with
      | inr z =>
        rw [hdo] at hd
        obtain ⟨rfl, As', cs', t, k, wr, at_, ed, hz, hrt⟩ := hd
        have HST := Lib.hid (show stepG c.g s = .inr z from by rw [step_do HIX.out HE.out HNC.out, hdo])
        have HPP := Lib.hid (show StepP c s w (.returned (.bool false)) w4 from ⟨HFW.out.trans hf4, by rw [HST.out]; exact ⟨rfl, As', cs', t, k, wr, at_, ed, hz, hrt⟩⟩)
        clear hdo hz hrt hf4
        go_wp2_with fail
        go_ret
        exact HPP.out
      | inl t =>
        rw [hdo] at hd
        obtain ⟨rfl, As', cs', hrt⟩ := hd
        have hnT : ¬ c.T w1.heap.size := fun h => by have := HH.out.below _ h; have := HF1.out.size; omega
        have k4 := HKW.out.fr hf4 hnT
        have c1' := k4.cell 1
        have c2' := k4.cell 2
        have c4' := k4.cell 4
        have hSl' := k4.lt
        simp only [List.getElem?_toArray, List.getElem?_cons_succ, List.getElem?_cons_zero] at c1' c2' c4'
        have HST := Lib.hid (show stepG c.g s = .inl { t with node := leadsTo c.g s e r } from by rw [step_do HIX.out HE.out HNC.out, hdo])
        have p10 := hrt.blk.cell 10
        have p10f := hrt.blk.frozen 10
        have hRl4 := hrt.blk.lt
        simp only [rnC, List.getElem?_toArray, List.getElem?_cons_succ, List.getElem?_cons_zero] at p10
        rw [← HRR.out] at p10 p10f hRl4
        have hgo := hrt.goto e.to_
        have HPP := Lib.hid (show StepP c s w (.returned (.bool true)) (w4.setCell ⟨R, 10, none⟩ (.int .i64 e.to_)) from by
          rw [HRR.out]
          refine stepP_go HST.out ((HFW.out.trans hf4).trans hgo.2) (As := As') (cs := cs') ?_
          rw [show leadsTo c.g s e r = e.to_ from by unfold leadsTo; rw [if_neg (by rw [← HEK.out]; exact by decide)]]
          exact hgo.1)
        clear hdo hf4 hgo k4 hrt
        go_wp2_with fail
        go_ret
        exact HPP.out
    have a1 : (ek != 1) = true := by simpa using k1
    have a7 : (ek != 7) = true := by simpa using k7
    have a8 : (ek != 8) = true := by simpa using k8
    have HCO := Lib.hid (show costs e.kind = true from by rw [← HEK.out]; simp [costs, k1, k7, k8])
    have q12 := HR3.out.blk.cell 12
    have q12f := HR3.out.blk.frozen 12
    have hRl3 := HR3.out.blk.lt
    simp only [rnC, List.getElem?_toArray, List.getElem?_cons_succ, List.getElem?_cons_zero] at q12
    rw [← HRR.out] at q12 q12f hRl3
    obtain ⟨lf, hlf'⟩ : ∃ lf, lf = s.left := ⟨_, rfl⟩
    rw [← hlf'] at q12 hlf
    have HLF := Lib.hid hlf'
    clear hlf'
    by_cases hl0 : lf = 0
    · subst hl0
      have HD := Lib.hid (step_left HIX.out HE.out HCO.out HLF.out.symm)
      have ciW := hs3.2.1
      go_wp2_with fail
      refine wp_region_F (fun W' => W'.cell? ⟨w1.heap.size, 6, none⟩ = some (.int .i64 e.at_) ∧ W'.cell? ⟨bx, ox, none⟩ = some (.int .i64 i)) 8 (by kernel_rfl) ⟨c6, ciW⟩ (fun hHeld => ?_)
      refine wpF_take 0 (v := ?_) rfl (by kernel_rfl) (by kernel_rfl) (by kernel_rfl) (by kernel_rfl) (fun _ _ _ h => h) hHeld (by rfl) ?_ ?_
      rotate_left
      · intro wz hSz
        (try dsimp only at hSz)
        go_simp
        try with_reducible rfl
      try simp only [Act.put, List.setIfInBounds_toArray, List.set_cons_zero, List.set_cons_succ]
      refine wpF_take 1 (v := ?_) rfl (by kernel_rfl) (by kernel_rfl) (by kernel_rfl) (by kernel_rfl) (fun _ _ _ h => h) hHeld (by rfl) ?_ ?_
      rotate_left
      · intro wz hSz
        (try dsimp only at hSz)
        go_simp
        try with_reducible rfl
      try simp only [Act.put, List.setIfInBounds_toArray, List.set_cons_zero, List.set_cons_succ]
      refine wpF_take 2 (v := ?_) rfl (by kernel_rfl) (by kernel_rfl) (by kernel_rfl) (by kernel_rfl) (fun _ _ _ h => h) hHeld (by rfl) ?_ ?_
      rotate_left
      · intro wz hSz
        (try dsimp only at hSz)
        go_simp
        try with_reducible rfl
      try simp only [Act.put, List.setIfInBounds_toArray, List.set_cons_zero, List.set_cons_succ]
      refine wpF_take 3 (v := ?_) rfl (by kernel_rfl) (by kernel_rfl) (by kernel_rfl) (by kernel_rfl) (fun _ _ _ h => h) hHeld (by rfl) ?_ ?_
      rotate_left
      · intro wz hSz
        (try dsimp only at hSz)
        go_simp
        try with_reducible rfl
      try simp only [Act.put, List.setIfInBounds_toArray, List.set_cons_zero, List.set_cons_succ]
      refine wpF_take 4 (v := ?_) rfl (by kernel_rfl) (by kernel_rfl) (by kernel_rfl) (by kernel_rfl) (fun _ _ _ h => h) hHeld (by rfl) ?_ ?_
      rotate_left
      · intro wz hSz
        (try dsimp only at hSz)
        go_simp
        try with_reducible rfl
      try simp only [Act.put, List.setIfInBounds_toArray, List.set_cons_zero, List.set_cons_succ]
      refine wpF_take 5 (v := ?_) rfl (by kernel_rfl) (by kernel_rfl) (by kernel_rfl) (by kernel_rfl) (fun _ _ _ h => h) hHeld (by rfl) ?_ ?_
      rotate_left
      · intro wz hSz
        (try dsimp only at hSz)
        go_simp
        try with_reducible rfl
      try simp only [Act.put, List.setIfInBounds_toArray, List.set_cons_zero, List.set_cons_succ]
      refine wpF_next 6 rfl (by kernel_rfl) (fun K hK => ?_)
      go_simp
      have HEN := Lib.hid (by have := ends_any c w3.drew s As cs 0 0 0 0 2 0 e.at_ i (HR3.out.fr0 (Fr.refl _ _).drew); rw [← HRR.out] at this; exact this : Calls Try.prog 38 #[.pointer (some ⟨R, 0, none⟩), .int .u8 2, .int .u8 0, .int .i64 e.at_, .int .i64 i] w3.drew (EndsP c s As cs 2 0 e.at_ i w3.drew))
      go_at_call 38
      refine HEN.out.mono ?_
      rintro _ w5 ⟨rfl, hp⟩
      have hf5 : Fr (fun x => x = R) w3 w5 := by rw [HRR.out]; exact (Fr.refl _ _).drew.trans hp.2
      have hs5 : w5.cell? ⟨w1.heap.size, 6, none⟩ = some (.int .i64 e.at_) ∧ w5.cell? ⟨bx, ox, none⟩ = some (.int .i64 i) :=
        ⟨(hf5.cell (p := ⟨w1.heap.size, 6, none⟩) hSl (fun h => hn1 h.symm)).trans c6, (hf5.cell (p := ⟨bx, ox, none⟩) (HF13.out.low hbx) hnR).trans ciW⟩
      try dsimp only
      refine hK.out _ _ hs5 ?_
      clear hK K
      refine wpF_next 7 rfl (by kernel_rfl) (fun K hK => ?_)
      go_simp
      refine hK.out _ _ hs5 ?_
      clear hK K
      refine wpF_done (by kernel_rfl) ?_
      have HPP := Lib.hid (show StepP c s w (.returned (.bool false)) w5 from stepP_stop HD.out HF3.out.drew ⟨rfl, hp⟩)
      clear hp hf5 hs5 hHeld
      go_wp2_with fail
      go_ret
      exact HPP.out
    · have hlp : 0 < lf := by omega
      have hl0' : ((lf : Int) == 0) = false := by simp; omega
      have HNC := Lib.hid (show ¬ (costs e.kind = true ∧ s.left = 0) from by rw [← HLF.out]; omega)
      have hpay := HR3.out.pays (lf - 1)
      obtain ⟨wp, hwp⟩ : ∃ wp, wp = w3.setCell ⟨R, 12, none⟩ (.int .i64 ((lf - 1 : Nat) : Int)) := ⟨_, rfl⟩
      rw [← HRR.out, ← hwp] at hpay
      have HRP := Lib.hid (show RnR 57 c wp (s.pay e) As cs 0 0 0 0 from by rw [pay_less HCO.out, ← HLF.out]; exact hpay.1)
      have HFW := Lib.hid (HF3.out.trans hpay.2)
      have hfp : Fr (fun x => x = R) w3 wp := by rw [hwp]; exact Fr.own (Fr.refl _ _) _ _
      have kp := HK3.out.fr hfp (fun h => hn1 h.symm)
      have HKW := Lib.hid kp
      have hbx3 : bx < w3.heap.size := HF13.out.low hbx
      have ciW := (hfp.cell (p := ⟨bx, ox, none⟩) hbx3 hnR).trans hs3.2.1
      have hbxW : bx < wp.heap.size := hfp.low hbx3
      have HCJ := Lib.hid (show wp.cell? ⟨bx, ox + 1, none⟩ = w1.cell? ⟨bx, ox + 1, none⟩ from (hfp.cell (p := ⟨bx, ox + 1, none⟩) hbx3 hnR).trans (HF13.out.cell (p := ⟨bx, ox + 1, none⟩) hbx hn3))
      have HWP := Lib.hid hwp
      clear hpay hfp kp hwp
      have hsub : (lf : Int) - 1 = ((lf - 1 : Nat) : Int) := by omega
      by_cases k6 : ek = 6
      · subst k6
        have HDOES := Lib.hid (by have := rdoes_any c wp (s.pay e) As cs HRP.out i e HE.out HME.out; rw [← HRR.out] at this; exact this : Calls Try.prog 39 #[.pointer (some ⟨R, 0, none⟩), .int .i64 i] wp (DoesP c (s.pay e) e i wp))
        go_wp2_with fail
        rw [← HWP.out]
        go_at_call 39
        refine HDOES.out.mono ?_
        rintro en w4 ⟨hf4, hd⟩
        cases hdo : doE (s.pay e) e i with
        | inr z =>
          rw [hdo] at hd
          obtain ⟨rfl, As', cs', t, k, wr, at_, ed, hz, hrt⟩ := hd
          have HST := Lib.hid (show stepG c.g s = .inr z from by rw [step_do HIX.out HE.out HNC.out, hdo])
          have HPP := Lib.hid (show StepP c s w (.returned (.bool false)) w4 from ⟨HFW.out.trans hf4, by rw [HST.out]; exact ⟨rfl, As', cs', t, k, wr, at_, ed, hz, hrt⟩⟩)
          clear hdo hz hrt hf4
          go_wp2_with fail
          go_ret
          exact HPP.out
        | inl t =>
          rw [hdo] at hd
          obtain ⟨rfl, As', cs', hrt⟩ := hd
          have hnT : ¬ c.T w1.heap.size := fun h => by have := HH.out.below _ h; have := HF1.out.size; omega
          have k4 := HKW.out.fr hf4 hnT
          have c1' := k4.cell 1
          have c2' := k4.cell 2
          have c4' := k4.cell 4
          have hSl' := k4.lt
          simp only [List.getElem?_toArray, List.getElem?_cons_succ, List.getElem?_cons_zero] at c1' c2' c4'
          have HST := Lib.hid (show stepG c.g s = .inl { t with node := leadsTo c.g s e r } from by rw [step_do HIX.out HE.out HNC.out, hdo])
          obtain ⟨hz0, ht⟩ := doE_guard HEK.out.symm hdo
          subst ht
          have hz0 : (fltX s.vs s.ls e.args).1 = 0 := hz0
          have HVA := Lib.hid (by have := vals_any c w4 (s.pay e) As' cs' 0 0 0 0 hrt i e HE.out HME.out.x HME.out.l; rw [← HRR.out] at this; exact this : Calls Try.prog 40 #[.pointer (some ⟨R, 0, none⟩), .int .i64 i] w4 (ValsP c (s.pay e) As' cs' 0 0 0 0 e.args i w4))
          have ci4 := (hf4.cell (p := ⟨bx, ox, none⟩) hbxW hnTx).trans ciW
          have hbx4 : bx < w4.heap.size := hf4.low hbxW
          have HF4 := Lib.hid (HFW.out.trans hf4)
          have HZ0 := Lib.hid hz0
          have HF44 := Lib.hid hf4
          have HK4 := Lib.hid k4
          clear hdo hf4 k4 hrt hz0
          go_wp2_with fail
          go_at_call 40
          refine HVA.out.mono ?_
          rintro _ w5 ⟨x, y, rfl, hf5, hv⟩
          have hz0 : (fltX (s.pay e).vs (s.pay e).ls e.args).1 = 0 := HZ0.out
          rw [if_pos hz0] at hv
          rw [decide_eq_true hz0]
          obtain ⟨hx', hy', hr5⟩ := hv
          have hx : x = (valsX s.vs s.ls e.args).getD 0 0 := hx'
          have hy : y = (valsX s.vs s.ls e.args).getD 1 0 := hy'
          clear hx' hy'
          have hf5T : Fr c.T w4 w5 := hf5.toT c.tR
          have k5 := HK4.out.fr hf5T hnT
          have ci5 := (hf5T.cell (p := ⟨bx, ox, none⟩) hbx4 hnTx).trans ci4
          have hbx5 : bx < w5.heap.size := hf5T.low hbx4
          have c1'' := k5.cell 1
          have c4'' := k5.cell 4
          have hSl'' := k5.lt
          simp only [List.getElem?_toArray, List.getElem?_cons_succ, List.getElem?_cons_zero] at c1'' c4''
          have p10 := hr5.blk.cell 10
          have p10f := hr5.blk.frozen 10
          have p5 := hr5.blk.cell 5
          have hRl5 := hr5.blk.lt
          simp only [rnC, List.getElem?_toArray, List.getElem?_cons_succ, List.getElem?_cons_zero] at p10 p5
          rw [← HRR.out] at p10 p10f hRl5 p5
          have hcm := HME.out.c HEK.out.symm
          have HX := Lib.hid hx
          have HY := Lib.hid hy
          have HF5 := Lib.hid (HF4.out.trans hf5T)
          have HK5 := Lib.hid k5
          have HR5 := Lib.hid hr5
          clear hx hy hf5 k5 hr5 hz0
          obtain ⟨w6, hw6⟩ : ∃ w6, w6 = w5.alloc (.cells #[.int .i64 x, .int .i64 y] 84) := ⟨_, rfl⟩
          have hf6 : Fr NoT w5 w6 := by rw [hw6]; exact (Fr.refl _ _).alloc _
          have p10' := (hf6.cell (p := ⟨R, 10, none⟩) hRl5 id).trans p10
          have p10f' := (hf6.frozen (p := ⟨R, 10, none⟩) hRl5 id).trans p10f
          have p5' := (hf6.cell (p := ⟨R, 5, none⟩) hRl5 id).trans p5
          have hRl6 := hf6.low hRl5
          have c1q := (hf6.cell (p := ⟨w1.heap.size, 1, none⟩) hSl'' id).trans c1''
          have hSl6 := hf6.low hSl''
          have HW6 := Lib.hid hw6
          have HF6 := Lib.hid hf6
          clear hw6 hf6
          go_wp2_with fail
          rw [← HW6.out]
          go_at_call 41
          refine (holds_any e.cmp x y w6 hcm.1 hcm.2).mono ?_
          rintro _ w7 ⟨rfl, rfl⟩
          by_cases hb : cmpB e.cmp x y = true
          · rw [hb]
            have hgo := (HR5.out.fr0 HF6.out).goto e.to_
            have HPP := Lib.hid (show StepP c s w (.returned (.bool true)) (w6.setCell ⟨R, 10, none⟩ (.int .i64 e.to_)) from by
              rw [HRR.out]
              refine stepP_go HST.out ((HF5.out.trans HF6.out.any).trans hgo.2) (As := As') (cs := cs') ?_
              rw [show leadsTo c.g s e r = e.to_ from by unfold leadsTo; rw [if_pos HEK.out.symm, ← HX.out, ← HY.out, if_pos hb]]
              exact hgo.1)
            clear hgo hb
            go_wp2_with fail
            go_ret
            exact HPP.out
          · have hb' : cmpB e.cmp x y = false := by simpa using hb
            rw [hb']
            rcases HCA.out with ⟨_, h6, _⟩ | ⟨j, f, hr, hj, hfm, hk1, hk2, hk3⟩
            · exact absurd HEK.out.symm h6
            clear hk1 hk2 hk3
            have hfmax := HR5.out.fr0 HF6.out
            obtain ⟨b2, o2, hA2, hat2⟩ := ed_at hfmax.gr.edges hj
            obtain ⟨hbB2, f0, f1, f2, f3, f4, ⟨A6, c6', f5, hx6⟩, f6, hok2⟩ := hat2.at_ hj
            have hb2w : b2 < w6.heap.size := Nat.lt_of_lt_of_le hbB2 hfmax.lt
            have f2 : w6.cell? ⟨b2, o2 + j * 7 + 2, none⟩ = some (.int .u8 f.kind) := f2
            rw [hA2] at p5'
            rw [← HNE.out] at p5'
            obtain ⟨bx', ox', hbo, hbx', cj⟩ := idx_at HSL2.out (j := 1) (i := j) (by rw [hr]; rfl)
            simp only [Option.some.injEq, Addr.mk.injEq] at hbo
            obtain ⟨rfl, rfl, _⟩ := hbo
            have cj4 := (HF6.out.cell (p := ⟨bx, ox + 1, none⟩) hbx5 id).trans ((hf5T.cell (p := ⟨bx, ox + 1, none⟩) hbx4 hnTx).trans ((HF44.out.cell (p := ⟨bx, ox + 1, none⟩) hbxW hnTx).trans (HCJ.out.trans cj)))
            have hbx6 : bx < w6.heap.size := HF6.out.low hbx5
            have hm2 : 1 < m := by rw [HMQ.out, hr]; simp
            have hm2' : (1 : Int) < (m : Int) := by omega
            have hj' := (List.getElem?_eq_some_iff.1 hj).1
            rw [← HNE.out] at hj'
            have hj0 : (0 : Int) ≤ (j : Int) := by omega
            have hj1 : (j : Int) < (ne : Int) := by omega
            have hn4 : ¬ b2 = w1.heap.size := by have := HH.out.lt; have := HF1.out.size; omega
            have HRF := Lib.hid hfmax
            have k6 := HK5.out.fr0 HF6.out
            have HK6 := Lib.hid k6
            have HLT := Lib.hid (show leadsTo c.g s e r = f.to_ from by unfold leadsTo; rw [if_pos HEK.out.symm, ← HX.out, ← HY.out, if_neg hb, hr]; simp only [hj])
            have y0 := k6.cell 0
            have y1 := k6.cell 1
            have y2 := k6.cell 2
            have y3 := k6.cell 3
            have y4 := k6.cell 4
            have y5 := k6.cell 5
            have y6 := k6.cell 6
            have z0 := k6.frozen 0
            have z1 := k6.frozen 1
            have z2 := k6.frozen 2
            have z3 := k6.frozen 3
            have z4 := k6.frozen 4
            have z5 := k6.frozen 5
            have z6 := k6.frozen 6
            simp only [List.getElem?_toArray, List.getElem?_cons_succ, List.getElem?_cons_zero] at y0 y1 y2 y3 y4 y5 y6
            clear hb hr hj hat2 hx6 hok2 hfmax hA2 cj k6 hfm
            go_wp2_with fail
            refine wp_region_F (fun W' => W'.cell? ⟨R, 5, none⟩ = some (.slice (some ⟨b2, o2, none⟩) ne c.ce) ∧ W'.cell? ⟨bx, ox + 1, none⟩ = some (.int .i64 j) ∧ W'.cell? ⟨b2, o2 + j * 7, none⟩ = some (.int .i64 f.from_) ∧ W'.cell? ⟨b2, o2 + j * 7 + 1, none⟩ = some (.int .i64 f.to_) ∧ W'.cell? ⟨b2, o2 + j * 7 + 2, none⟩ = some (.int .u8 f.kind) ∧ W'.cell? ⟨b2, o2 + j * 7 + 3, none⟩ = some (.int .i64 f.n) ∧ W'.cell? ⟨b2, o2 + j * 7 + 4, none⟩ = some (.int .u8 f.cmp) ∧ W'.cell? ⟨b2, o2 + j * 7 + 5, none⟩ = some (.slice A6 f.args.len c6') ∧ W'.cell? ⟨b2, o2 + j * 7 + 6, none⟩ = some (.int .i64 f.at_)) 11 (by kernel_rfl) ⟨p5', cj4, f0, f1, f2, f3, f4, f5, f6⟩ (fun hHeld => ?_)
            refine wpF_take 0 (v := ?_) rfl (by kernel_rfl) (by kernel_rfl) (by kernel_rfl) (by kernel_rfl) (fun _ _ _ h => h) hHeld (by rfl) ?_ ?_
            rotate_left
            · intro wz hSz
              (try dsimp only at hSz)
              go_simp
              try with_reducible rfl
            try simp only [Act.put, List.setIfInBounds_toArray, List.set_cons_zero, List.set_cons_succ]
            refine wpF_take 1 (v := ?_) rfl (by kernel_rfl) (by kernel_rfl) (by kernel_rfl) (by kernel_rfl) (fun _ _ _ h => h) hHeld (by rfl) ?_ ?_
            rotate_left
            · intro wz hSz
              (try dsimp only at hSz)
              go_simp
              try with_reducible rfl
            try simp only [Act.put, List.setIfInBounds_toArray, List.set_cons_zero, List.set_cons_succ]
            refine wpF_take 2 (v := ?_) rfl (by kernel_rfl) (by kernel_rfl) (by kernel_rfl) (by kernel_rfl) (fun _ _ _ h => h) hHeld (by rfl) ?_ ?_
            rotate_left
            · intro wz hSz
              (try dsimp only at hSz)
              go_simp
              try with_reducible rfl
            try simp only [Act.put, List.setIfInBounds_toArray, List.set_cons_zero, List.set_cons_succ]
            refine wpF_take 3 (v := ?_) rfl (by kernel_rfl) (by kernel_rfl) (by kernel_rfl) (by kernel_rfl) (fun _ _ _ h => h) hHeld (by rfl) ?_ ?_
            rotate_left
            · intro wz hSz
              (try dsimp only at hSz)
              go_simp
              try with_reducible rfl
            try simp only [Act.put, List.setIfInBounds_toArray, List.set_cons_zero, List.set_cons_succ]
            refine wpF_take 4 (v := ?_) rfl (by kernel_rfl) (by kernel_rfl) (by kernel_rfl) (by kernel_rfl) (fun _ _ _ h => h) hHeld (by rfl) ?_ ?_
            rotate_left
            · intro wz hSz
              (try dsimp only at hSz)
              go_simp
              try with_reducible rfl
            try simp only [Act.put, List.setIfInBounds_toArray, List.set_cons_zero, List.set_cons_succ]
            refine wpF_take 5 (v := ?_) rfl (by kernel_rfl) (by kernel_rfl) (by kernel_rfl) (by kernel_rfl) (fun _ _ _ h => h) hHeld (by rfl) ?_ ?_
            rotate_left
            · intro wz hSz
              (try dsimp only at hSz)
              go_simp
              try with_reducible rfl
            try simp only [Act.put, List.setIfInBounds_toArray, List.set_cons_zero, List.set_cons_succ]
            refine wpF_take 6 (v := ?_) rfl (by kernel_rfl) (by kernel_rfl) (by kernel_rfl) (by kernel_rfl) (fun _ _ _ h => h) hHeld (by rfl) ?_ ?_
            rotate_left
            · intro wz hSz
              (try dsimp only at hSz)
              go_simp
              try with_reducible rfl
            try simp only [Act.put, List.setIfInBounds_toArray, List.set_cons_zero, List.set_cons_succ]
            refine wpF_take 7 (v := ?_) rfl (by kernel_rfl) (by kernel_rfl) (by kernel_rfl) (by kernel_rfl) (fun _ _ _ h => h) hHeld (by rfl) ?_ ?_
            rotate_left
            · intro wz hSz
              (try dsimp only at hSz)
              go_simp
              try with_reducible rfl
            try simp only [Act.put, List.setIfInBounds_toArray, List.set_cons_zero, List.set_cons_succ]
            refine wpF_take 8 (v := ?_) rfl (by kernel_rfl) (by kernel_rfl) (by kernel_rfl) (by kernel_rfl) (fun _ _ _ h => h) hHeld (by rfl) ?_ ?_
            rotate_left
            · intro wz hSz
              (try dsimp only at hSz)
              go_simp
              try with_reducible rfl
            try simp only [Act.put, List.setIfInBounds_toArray, List.set_cons_zero, List.set_cons_succ]
            refine wpF_take 9 (v := ?_) rfl (by kernel_rfl) (by kernel_rfl) (by kernel_rfl) (by kernel_rfl) (fun _ _ _ h => h) hHeld (by rfl) ?_ ?_
            rotate_left
            · intro wz hSz
              (try dsimp only at hSz)
              go_simp
              try with_reducible rfl
            try simp only [Act.put, List.setIfInBounds_toArray, List.set_cons_zero, List.set_cons_succ]
            refine wpF_next 10 rfl (by kernel_rfl) (fun K hK => ?_)
            go_simp
            obtain ⟨w8, hw8⟩ : ∃ w8, w8 = (((((((w6.setCell ⟨w1.heap.size, 0, none⟩ (.int .i64 f.from_)).setCell ⟨w1.heap.size, 1, none⟩ (.int .i64 f.to_)).setCell ⟨w1.heap.size, 2, none⟩ (.int .u8 f.kind)).setCell ⟨w1.heap.size, 3, none⟩ (.int .i64 f.n)).setCell ⟨w1.heap.size, 4, none⟩ (.int .u8 f.cmp)).setCell ⟨w1.heap.size, 5, none⟩ (.slice A6 f.args.len c6')).setCell ⟨w1.heap.size, 6, none⟩ (.int .i64 f.at_)).drew := ⟨_, rfl⟩
            rw [← hw8]
            have hf8 : Fr (fun x => x = w1.heap.size) w6 w8 := by rw [hw8]; exact (Fr.own (Fr.own (Fr.own (Fr.own (Fr.own (Fr.own (Fr.own (Fr.refl _ _) _ _) _ _) _ _) _ _) _ _) _ _) _ _).drew
            refine hK.out _ _ ⟨(hf8.cell (p := ⟨R, 5, none⟩) hRl6 hn1).trans p5', (hf8.cell (p := ⟨bx, ox + 1, none⟩) hbx6 hn3).trans cj4, (hf8.cell (p := ⟨b2, o2 + j * 7, none⟩) hb2w hn4).trans f0, (hf8.cell (p := ⟨b2, o2 + j * 7 + 1, none⟩) hb2w hn4).trans f1, (hf8.cell (p := ⟨b2, o2 + j * 7 + 2, none⟩) hb2w hn4).trans f2, (hf8.cell (p := ⟨b2, o2 + j * 7 + 3, none⟩) hb2w hn4).trans f3, (hf8.cell (p := ⟨b2, o2 + j * 7 + 4, none⟩) hb2w hn4).trans f4, (hf8.cell (p := ⟨b2, o2 + j * 7 + 5, none⟩) hb2w hn4).trans f5, (hf8.cell (p := ⟨b2, o2 + j * 7 + 6, none⟩) hb2w hn4).trans f6⟩ ?_
            clear hK K
            refine wpF_done (by kernel_rfl) ?_
            have k8 : Bk w8 w1.heap.size 45 #[.int .i64 f.from_, .int .i64 f.to_, .int .u8 f.kind, .int .i64 f.n, .int .u8 f.cmp, .slice A6 f.args.len c6', .int .i64 f.at_] := by
              have := ((((((HK6.out.set_ 0 (.int .i64 f.from_)).set_ 1 (.int .i64 f.to_)).set_ 2 (.int .u8 f.kind)).set_ 3 (.int .i64 f.n)).set_ 4 (.int .u8 f.cmp)).set_ 5 (.slice A6 f.args.len c6')).set_ 6 (.int .i64 f.at_)
              rw [hw8]; exact Bk.fr0 (by simpa using this) (Fr.refl _ _).drew
            have hr8 := HH.out.far HRF.out (hf8.mono fun x _ hx => by have hx : x = w1.heap.size := hx; show w.heap.size ≤ x; have := HF1.out.size; omega)
            have u1 := k8.cell 1
            have hSl8 := k8.lt
            have u10 := hr8.blk.cell 10
            have u10f := hr8.blk.frozen 10
            have hRl8 := hr8.blk.lt
            simp only [rnC, List.getElem?_toArray, List.getElem?_cons_succ, List.getElem?_cons_zero] at u1 u10
            rw [← HRR.out] at u10 u10f hRl8
            have hgo := hr8.goto f.to_
            have HPP := Lib.hid (show StepP c s w (.returned (.bool true)) (w8.setCell ⟨R, 10, none⟩ (.int .i64 f.to_)) from by
              rw [HRR.out]
              refine stepP_go HST.out (((HF5.out.trans HF6.out.any).then hf8 fun x hx e => absurd hx (by have e : x = w1.heap.size := e; have := HF1.out.size; omega)).trans hgo.2) (As := As') (cs := cs') ?_
              rw [HLT.out]
              exact hgo.1)
            clear hgo hr8 k8 hf8 hw8 y0 y1 y2 y3 y4 y5 y6 z0 z1 z2 z3 z4 z5 z6 f0 f1 f2 f3 f4 f5 f6 hHeld
            go_wp2_with fail
            go_ret
            exact HPP.out
      · have b6 : (ek == 6) = false := by simpa using k6
        have HDOES := Lib.hid (by have := rdoes_any c wp (s.pay e) As cs HRP.out i e HE.out HME.out; rw [← HRR.out] at this; exact this : Calls Try.prog 39 #[.pointer (some ⟨R, 0, none⟩), .int .i64 i] wp (DoesP c (s.pay e) e i wp))
        go_wp2_with fail
        rw [← HWP.out]
        go_at_call 39
        refine HDOES.out.mono ?_
        rintro en w4 ⟨hf4, hd⟩
        cases hdo : doE (s.pay e) e i with
        | inr z =>
          rw [hdo] at hd
          obtain ⟨rfl, As', cs', t, k, wr, at_, ed, hz, hrt⟩ := hd
          have HST := Lib.hid (show stepG c.g s = .inr z from by rw [step_do HIX.out HE.out HNC.out, hdo])
          have HPP := Lib.hid (show StepP c s w (.returned (.bool false)) w4 from ⟨HFW.out.trans hf4, by rw [HST.out]; exact ⟨rfl, As', cs', t, k, wr, at_, ed, hz, hrt⟩⟩)
          clear hdo hz hrt hf4
          go_wp2_with fail
          go_ret
          exact HPP.out
        | inl t =>
          rw [hdo] at hd
          obtain ⟨rfl, As', cs', hrt⟩ := hd
          have hnT : ¬ c.T w1.heap.size := fun h => by have := HH.out.below _ h; have := HF1.out.size; omega
          have k4 := HKW.out.fr hf4 hnT
          have c1' := k4.cell 1
          have c2' := k4.cell 2
          have c4' := k4.cell 4
          have hSl' := k4.lt
          simp only [List.getElem?_toArray, List.getElem?_cons_succ, List.getElem?_cons_zero] at c1' c2' c4'
          have HST := Lib.hid (show stepG c.g s = .inl { t with node := leadsTo c.g s e r } from by rw [step_do HIX.out HE.out HNC.out, hdo])
          have p10 := hrt.blk.cell 10
          have p10f := hrt.blk.frozen 10
          have hRl4 := hrt.blk.lt
          simp only [rnC, List.getElem?_toArray, List.getElem?_cons_succ, List.getElem?_cons_zero] at p10
          rw [← HRR.out] at p10 p10f hRl4
          have hgo := hrt.goto e.to_
          have HPP := Lib.hid (show StepP c s w (.returned (.bool true)) (w4.setCell ⟨R, 10, none⟩ (.int .i64 e.to_)) from by
            rw [HRR.out]
            refine stepP_go HST.out ((HFW.out.trans hf4).trans hgo.2) (As := As') (cs := cs') ?_
            rw [show leadsTo c.g s e r = e.to_ from by unfold leadsTo; rw [if_neg (by rw [← HEK.out]; exact k6)]]
            exact hgo.1)
          clear hdo hf4 hgo k4 hrt
          go_wp2_with fail
          go_ret
          exact HPP.out
end Go.Proofs.Ytdflbaipbmkdgaa
