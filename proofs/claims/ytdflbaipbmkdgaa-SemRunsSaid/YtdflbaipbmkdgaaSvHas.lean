/-
  sem.has: what an expression has; a fault is thrown.
-/
import Derived.Test.YtdflbaipbmkdgaaJnSv
import Derived.Test.YtdflbaipbmkdgaaFlSlices
import Derived.Test.YtdflbaipbmkdgaaJnOpC
import Derived.Outline
namespace Go.Proofs.Ytdflbaipbmkdgaa
open Go.RowKit Go.Shelf
set_option linter.unusedVariables false
set_option linter.unusedSimpArgs false

/-- a block that is known whole -/
def Blk (w : World) (g : Nat) (t : TypeId) (cs : Array Value) : Prop := w.heap[g]? = some (.cells cs t (0, 0))
theorem Blk.cell {w : World} {g : Nat} {t : TypeId} {cs : Array Value} (h : Blk w g t cs) (i : Nat) : w.cell? ⟨g, i, none⟩ = cs[i]? := cell_of_row w g i cs t (0, 0) h
theorem Blk.frozen {w : World} {g : Nat} {t : TypeId} {cs : Array Value} (h : Blk w g t cs) (i : Nat) : w.frozen? ⟨g, i, none⟩ = false := by
  unfold Blk at h
  simp [World.frozen?, h]
theorem Blk.new (w : World) (t : TypeId) (cs : Array Value) : Blk (w.alloc (.cells cs t)) w.heap.size t cs := heap_alloc_new w _
theorem Blk.lt {w : World} {g : Nat} {t : TypeId} {cs : Array Value} (h : Blk w g t cs) : g < w.heap.size := by
  rcases Nat.lt_or_ge g w.heap.size with hlt | hge
  · exact hlt
  · unfold Blk at h; rw [Array.getElem?_eq_none hge] at h; cases h
theorem Blk.set_ {w : World} {g : Nat} {t : TypeId} {cs : Array Value} (h : Blk w g t cs) (i : Nat) (u : Value) : Blk (w.setCell ⟨g, i, none⟩ u) g t (cs.setIfInBounds i u) := by
  unfold Blk at h ⊢
  simp [World.setCell, Array.getElem?_modify, h]
theorem Blk.far {w : World} {g : Nat} {t : TypeId} {cs : Array Value} (h : Blk w g t cs) {p : Addr} (hp : g ≠ p.block) (u : Value) : Blk (w.setCell p u) g t cs := (Below.heap_setCell w p u g hp).trans h
theorem Blk.below {w w' : World} {B g : Nat} {t : TypeId} {cs : Array Value} (h : Blk w g t cs) (hb : Below B w w') (hg : g < B) : Blk w' g t cs := (hb.block g hg).trans h
theorem Blk.alloc {w : World} {g : Nat} {t : TypeId} {cs : Array Value} (h : Blk w g t cs) (o : Obj) : Blk (w.alloc o) g t cs := (Below.heap_alloc w o g h.lt).trans h

theorem cells3 (w : World) (c0 c1 c2 : Array Value) (t0 t1 t2 : TypeId) (i : Nat) :
    (((w.alloc (.cells c0 t0)).alloc (.cells c1 t1)).alloc (.cells c2 t2)).cell? ⟨w.heap.size, i, none⟩ = c0[i]? ∧
    (((w.alloc (.cells c0 t0)).alloc (.cells c1 t1)).alloc (.cells c2 t2)).cell? ⟨w.heap.size + 1, i, none⟩ = c1[i]? ∧
    (((w.alloc (.cells c0 t0)).alloc (.cells c1 t1)).alloc (.cells c2 t2)).cell? ⟨w.heap.size + 1 + 1, i, none⟩ = c2[i]? ∧
    Blk (((w.alloc (.cells c0 t0)).alloc (.cells c1 t1)).alloc (.cells c2 t2)) (w.heap.size + 1 + 1) t2 c2 := by
  have h1 := cells2 w c0 c1 t0 t1 i
  have h2 : Blk (((w.alloc (.cells c0 t0)).alloc (.cells c1 t1)).alloc (.cells c2 t2)) (w.heap.size + 1 + 1) t2 c2 := by
    have := Blk.new ((w.alloc (.cells c0 t0)).alloc (.cells c1 t1)) t2 c2
    simpa using this
  exact ⟨(World.cell?_alloc_lt _ _ _ (by simp; omega)).trans h1.1, (World.cell?_alloc_lt _ _ _ (by simp)).trans h1.2, h2.cell i, h2⟩
/-- what the array of two holds -/
def two (vs : List Int) (k : Nat) : Array Value := #[.int .i64 (if 0 < k then vs.getD 0 0 else 0), .int .i64 (if 1 < k then vs.getD 1 0 else 0)]

theorem mayK_len {v a k n : Int} {l : Nat} (h : mayK v a k n l = true) : l ≤ 2 := by
  simp only [mayK, Bool.and_eq_true, beq_iff_eq] at h
  have := h.2
  unfold argc at this
  repeat (split at this)
  all_goals omega
theorem mayK_2 {v a n : Int} {l : Nat} (h : mayK v a 2 n l = true) : 0 ≤ n ∧ n < v := by
  simp [mayK, rightN, argc] at h; omega
theorem mayK_3 {v a n : Int} {l : Nat} (h : mayK v a 3 n l = true) : 0 ≤ n ∧ n < a := by
  simp [mayK, rightN, argc] at h; omega
theorem mayK_k {v a k n : Int} {l : Nat} (h : mayK v a k n l = true) : 1 ≤ k ∧ k ≤ 11 := by
  simp [mayK] at h; omega
/-- what sem.has is asked of each of some expressions -/
def AsksHas (vs : List Int) (ls : List (List Int)) (Av Aa : Option Addr) (cv ca B : Nat) (xs : Exs) : Prop :=
  ∀ (i : Nat) (k : Int) (nm : ByteArray) (n : Int) (args : Exs) (at_ : Int) (rest : Exs), Exs.drop i xs = .cons k nm n args at_ rest →
    ∀ (W : World) (A : Option Addr) (c : Nat), B ≤ W.heap.size → StSl W B vs ls Av cv Aa ca → ExSl W B args A c →
      Calls Try.prog 31 #[stV Av vs.length cv Aa ls.length ca, exV k nm n A args.len c at_] W (HasPost 73 (valOne vs ls k n (valsX vs ls args)) (fltOne vs ls k n args at_) W)

theorem two_at {vs : List Int} {k j : Nat} {v : Int} (hj : j < k) (hk : k ≤ 2) (h : vs[j]? = some v) : (two vs k)[j]? = some (.int .i64 v) := by
  have : j = 0 ∨ j = 1 := by omega
  rcases this with rfl | rfl
  · simp [two, hj, h]
  · simp [two, hj, h]
theorem two_some (vs : List Int) (k j : Nat) (hj : j < 2) : ∃ u, (two vs k)[j]? = some u := by
  have : j = 0 ∨ j = 1 := by omega
  rcases this with rfl | rfl <;> exact ⟨_, rfl⟩
theorem two_set {vs : List Int} {j : Nat} {v : Int} (hj : j < 2) (h : vs[j]? = some v) : (two vs j).setIfInBounds j (.int .i64 v) = two vs (j + 1) := by
  have : j = 0 ∨ j = 1 := by omega
  rcases this with rfl | rfl
  · simp [two, h]
  · simp [two, h]
theorem two_full {vs : List Int} {k : Nat} (h : vs.length ≤ k) : two vs k = #[.int .i64 (vs.getD 0 0), .int .i64 (vs.getD 1 0)] := by
  unfold two
  match vs, h with
  | [], _ => simp
  | [a], h => simp at h; simp; omega
  | a :: b :: r, h => simp at h; rw [if_pos (by omega), if_pos (by omega)]
/-- the frame of the loop: what is below is as it was, and the array holds what there is so far -/
structure HasFr (vs : List Int) (S F : Nat) (W3 wr : World) (j : Nat) : Prop where
  below : Below (S + 2) W3 wr
  arr : Blk wr (S + 1 + 1) F (two vs j)
  size : S + 2 < wr.heap.size

set_option maxHeartbeats 3200000 in
theorem has_one (vs : List Int) (ls : List (List Int)) (Av Aa : Option Addr) (cv ca B : Nat) (k : Int) (nm : ByteArray) (n : Int) (args : Exs) (at_ : Int) (A : Option Addr) (c : Nat) (w : World)
    (hB : B ≤ w.heap.size) (hst : StSl w B vs ls Av cv Aa ca) (hx : ExSl w B args A c) (hask : AsksHas vs ls Av Aa cv ca B args)
    (hk : mayK vs.length ls.length k n args.len = true) (h64 : St64 vs ls) (hn64 : Ns64 args) :
    Calls Try.prog 31 #[stV Av vs.length cv Aa ls.length ca, exV k nm n A args.len c at_] w (HasPost 73 (valOne vs ls k n (valsX vs ls args)) (fltOne vs ls k n args at_) w) := by
  have HA := Lib.hid hask
  have hl : args.len ≤ 2 := mayK_len hk
  have HK := Lib.hid hk
  clear hask hk
  obtain ⟨nv, hnv⟩ : ∃ m, m = vs.length := ⟨_, rfl⟩
  obtain ⟨na, hna⟩ : ∃ m, m = ls.length := ⟨_, rfl⟩
  obtain ⟨l, hll⟩ : ∃ m, m = args.len := ⟨_, rfl⟩
  rw [← hnv, ← hna, ← hll]
  rw [← hll] at hl
  have HNV := Lib.hid hnv
  have HNA := Lib.hid hna
  have HL := Lib.hid hll
  clear hnv hna hll
  unfold stV exV
  have hbb : ∀ c0 c1 c2 : Array Value, Below w.heap.size w (((w.alloc (.cells c0 28)).alloc (.cells c1 62)).alloc (.cells c2 84)) := fun _ _ _ => (((Below.refl _ _).alloc (Nat.le_refl _) _).alloc (by simp) _).alloc (by simp; omega) _
  have HBB := Lib.hid hbb
  clear hbb
  go_enter Try.func31, Try.ntmps31
  go_wp2
  obtain ⟨W3, hW3⟩ : ∃ W3, W3 = (((w.alloc (.cells #[.slice Av nv cv, .slice Aa na ca] 28)).alloc (.cells #[.int .u8 k, .string nm, .int .i64 n, .slice A l c, .int .i64 at_] 62)).alloc (.cells #[.int .i64 0, .int .i64 0] 84)) := ⟨_, rfl⟩
  have hb3 : Below w.heap.size w W3 := by rw [hW3]; exact HBB.out _ _ _
  have hfr : HasFr (valsX vs ls args) w.heap.size 84 W3 W3 0 := ⟨Below.refl _ _, by rw [hW3]; exact (cells3 w _ _ _ _ _ _ 0).2.2.2, by rw [hW3]; simp⟩
  have hs0 : ∀ i, W3.cell? ⟨w.heap.size, i, none⟩ = #[Value.slice Av nv cv, .slice Aa na ca][i]? := fun i => by rw [hW3]; exact (cells3 w _ _ _ _ _ _ i).1
  have hs1 : ∀ i, W3.cell? ⟨w.heap.size + 1, i, none⟩ = #[.int .u8 k, .string nm, .int .i64 n, Value.slice A l c, .int .i64 at_][i]? := fun i => by rw [hW3]; exact (cells3 w _ _ _ _ _ _ i).2.1
  rw [← hW3]
  have HS0 := Lib.hid hs0
  have HS1 := Lib.hid hs1
  clear hW3 hs0 hs1
  go_loopw [15] (fun i wr => ∃ j : Nat, j ≤ l ∧ i = .int .i64 j ∧ HasFr (valsX vs ls args) w.heap.size 84 W3 wr j ∧ Hid (fltX vs ls args = fltX vs ls (Exs.drop j args))) (fun i _ => l - (intOf i).toNat)
  case atStart => exact ⟨0, Nat.zero_le _, rfl, hfr, by show _ = _; simp [Exs.drop]⟩
  case round =>
    obtain ⟨j, hj, rfl, hf, hflt⟩ := hrel
    have hz := hf.size
    have hz0 : w.heap.size < wr.heap.size := by omega
    have hz1 : w.heap.size + 1 < wr.heap.size := by omega
    have hz2 : w.heap.size + 1 + 1 < wr.heap.size := by omega
    have hbw : Below w.heap.size w wr := hb3.trans (hf.below.mono (by omega))
    have s0 := (hf.below.cell (p := ⟨w.heap.size, 0, none⟩) (by simp)).trans (HS0.out 0)
    have s1 := (hf.below.cell (p := ⟨w.heap.size, 1, none⟩) (by simp)).trans (HS0.out 1)
    have e0 := (hf.below.cell (p := ⟨w.heap.size + 1, 0, none⟩) (by simp)).trans (HS1.out 0)
    have e2 := (hf.below.cell (p := ⟨w.heap.size + 1, 2, none⟩) (by simp)).trans (HS1.out 2)
    have e3 := (hf.below.cell (p := ⟨w.heap.size + 1, 3, none⟩) (by simp)).trans (HS1.out 3)
    have e4 := (hf.below.cell (p := ⟨w.heap.size + 1, 4, none⟩) (by simp)).trans (HS1.out 4)
    simp only [List.getElem?_toArray, List.getElem?_cons_succ, List.getElem?_cons_zero] at s0 s1 e0 e2 e3 e4
    by_cases hlt : j < l
    · obtain ⟨a0, a1, a2, a3, a4, a5, hd⟩ := Exs.drop_cons (k := j) (xs := args) (by rw [← HL.out]; exact hlt)
      obtain ⟨b, o, rfl, hat⟩ := hx.2.2 (by rw [← HL.out]; omega)
      obtain ⟨hbB, c0, c1, c2, ⟨A', c', c3, hsl⟩, c4, r0, r1, r2⟩ := (hat.keep (Same.of hbw hB)).at_ hd
      have hcall : ∀ W, Below wr.heap.size wr W → Calls Try.prog 31 #[.agg #[.slice Av nv cv, .slice Aa na ca], .agg #[.int .u8 a0, .string a1, .int .i64 a2, .slice A' a3.len c', .int .i64 a4]] W (HasPost 73 (valOne vs ls a0 a2 (valsX vs ls a3)) (fltOne vs ls a0 a2 a3 a4) W) := fun W hW => by
        have hbW := hbw.trans (hW.mono hbw.size)
        rw [HNV.out, HNA.out]
        exact HA.out j a0 a1 a2 a3 a4 a5 hd W A' c' (Nat.le_trans hB hbW.size) (hst.keep (Same.of hbW hB)) (hsl.keep (Same.of hW (Nat.le_trans hB hbw.size)))
      have HC := Lib.hid hcall
      have HV := Lib.hid (valsX_at vs ls hd)
      have hj2 : j < 2 := by omega
      have HD := Lib.hid hd
      clear hcall hd hsl hst hx hbw
      by_cases hf0 : (fltOne vs ls a0 a2 a3 a4).1 = 0
      · have HC2 := Lib.hid (fun (W : World) (h : Below wr.heap.size wr W) => (HC.out W h).mono fun e w' (h : HasPost _ _ _ _ _ _) => show e = .returned (.int .i64 (valOne vs ls a0 a2 (valsX vs ls a3))) ∧ Below W.heap.size W w' from by unfold HasPost at h; rw [if_pos hf0] at h; exact h)
        have HF0 := Lib.hid (fltX_step vs ls HD.out hflt.out hf0)
        have HS := Lib.hid (two_set hj2 HV.out)
        obtain ⟨v, hv⟩ : ∃ v, v = valOne vs ls a0 a2 (valsX vs ls a3) := ⟨_, rfl⟩
        rw [← hv] at HC2 HS
        obtain ⟨u, hu⟩ := two_some (valsX vs ls args) j j hj2
        have HU := Lib.hid hu
        clear hv hf0 HC hu hflt
        go_wp2_with fail
        refine (HC2.out _ ((Below.refl _ _).alloc (Nat.le_refl _) _)).mono ?_
        rintro e w1 ⟨rfl, hb1⟩
        have harr : Blk w1 (w.heap.size + 1 + 1) 84 (two (valsX vs ls args) j) := (hf.arr.alloc _).below hb1 (by simp; omega)
        have u0 := (harr.cell j).trans HU.out
        have u1 := harr.frozen j
        have hz3 := hb1.size
        have hbn : Below (w.heap.size + 2) W3 w1 := hf.below.trans (((Below.refl _ _).alloc (by omega) _).trans (hb1.mono (by simp; omega)))
        clear hb1 c0 c1 c2 c3 c4 s0 s1 e0 e2 e3 e4
        go_wp2_with fail
        go_roundw
        case rel => exact ⟨j + 1, by omega, by go_num, ⟨hbn.setCell (by simp) _, by have := harr.set_ j (.int .i64 v); rw [HS.out] at this; exact this, by simp at hz3 ⊢; omega⟩, HF0⟩
        case measure => simp [intOf]; omega
      · have HC2 := Lib.hid (fun (W : World) (h : Below wr.heap.size wr W) => (HC.out W h).mono fun e w' (h : HasPost _ _ _ _ _ _) => show e = fault 73 (fltOne vs ls a0 a2 a3 a4) ∧ Below W.heap.size W w' from by unfold HasPost at h; rw [if_neg hf0] at h; exact h)
        have HF0 := Lib.hid (fltX_stop vs ls HD.out hflt.out hf0)
        go_wp2_with fail
        refine (HC2.out _ ((Below.refl _ _).alloc (Nat.le_refl _) _)).mono ?_
        rintro e w1 ⟨rfl, hb1⟩
        go_wp2_with fail
        exact ⟨rfl, hasPost_no (F := 73) (by rw [fltOne_of HF0.out hf0]; exact hf0) (by rw [fltOne_of HF0.out hf0]) ((hb3.trans (hf.below.mono (by omega))).trans (((Below.refl _ _).alloc (by omega) _).trans (hb1.mono (by simp; omega))))⟩
    · obtain rfl : j = l := by omega
      have hfin : (fltX vs ls args).1 = 0 := by rw [hflt.out, Exs.drop_nil (by rw [← HL.out]; exact Nat.le_refl _)]; rfl
      have hlen : (valsX vs ls args).length ≤ j := by rw [valsX_len, HL.out]; exact Nat.le_refl _
      have hone : fltOne vs ls k n args at_ = if wrongOne ls k n (valsX vs ls args) = 0 then (0, 0) else (wrongOne ls k n (valsX vs ls args), at_) := by rw [fltOne, if_pos hfin]
      have harr := hf.arr
      rw [two_full hlen] at harr
      have t0 := harr.cell 0
      have t1 := harr.cell 1
      simp only [List.getElem?_toArray, List.getElem?_cons_succ, List.getElem?_cons_zero] at t0 t1
      have h0 := is64_getD (is64_valsX h64 hn64) 0
      have h1 := is64_getD (is64_valsX h64 hn64) 1
      obtain ⟨x0, hx0⟩ : ∃ x, x = (valsX vs ls args).getD 0 0 := ⟨_, rfl⟩
      obtain ⟨x1, hx1⟩ : ∃ x, x = (valsX vs ls args).getD 1 0 := ⟨_, rfl⟩
      rw [← hx0] at t0 h0
      rw [← hx1] at t1 h1
      have HX0 := Lib.hid hx0
      have HX1 := Lib.hid hx1
      have HONE := Lib.hid hone
      have HBW := Lib.hid hbw
      have hst2 := hst.keep (Same.of hbw hB)
      clear hx0 hx1 hone hbw hfin hlen harr hflt hst hx hfr
      by_cases k1 : k = 1
      · subst k1
        have hw : wrongOne ls 1 n (valsX vs ls args) = 0 := by simp [wrongOne]
        have hP : HasPost 73 (valOne vs ls 1 n (valsX vs ls args)) (fltOne vs ls 1 n args at_) w (.returned (.int .i64 n)) wr := hasPost_ok (by rw [HONE.out, if_pos hw]) (by simp [valOne]) HBW.out
        have HP := Lib.hid hP
        clear hw hP h0 h1 hst2
        go_wp2_with fail
        go_ret
        exact HP.out
      have b1 : (k == 1) = false := by simpa using k1
      by_cases k2 : k = 2
      · subst k2
        have hm := mayK_2 HK.out
        obtain ⟨m, rfl⟩ := Int.eq_ofNat_of_zero_le hm.1
        have hm1 : m < vs.length := by omega
        obtain ⟨b2, o2, rfl, hia⟩ := hst2.vars.2.2 (by omega)
        have cv0 := (hia.2 m _ (List.getElem?_eq_getElem hm1)).1
        have hw : wrongOne ls 2 m (valsX vs ls args) = 0 := by simp [wrongOne]
        have hP : HasPost 73 (valOne vs ls 2 m (valsX vs ls args)) (fltOne vs ls 2 m args at_) w (.returned (.int .i64 vs[m])) wr := hasPost_ok (by rw [HONE.out, if_pos hw]) (by simp [valOne, hm1]) HBW.out
        have HP := Lib.hid hP
        obtain ⟨y, hy⟩ : ∃ y, y = vs[m] := ⟨_, rfl⟩
        rw [← hy] at HP cv0
        have hmv : m < nv := by rw [HNV.out]; exact hm1
        clear hw hP h0 h1 hst2 hia hy hm hm1
        go_wp2_with fail
        go_ret
        exact HP.out
      have b2 : (k == 2) = false := by simpa using k2
      by_cases k3 : k = 3
      · subst k3
        have hm := mayK_3 HK.out
        obtain ⟨m, rfl⟩ := Int.eq_ofNat_of_zero_le hm.1
        have hm1 : m < ls.length := by omega
        obtain ⟨b2, o2, rfl, hia⟩ := hst2.arrs.2.2 (by omega)
        obtain ⟨A3, c3, cv0, hs3⟩ := hia.2 m _ (List.getElem?_eq_getElem hm1)
        have hma : m < na := by rw [HNA.out]; exact hm1
        have hgl : ls.getD (m : Int).toNat [] = ls[m] := by simp [hm1]
        obtain ⟨l3, hl3⟩ : ∃ y, y = ls[m].length := ⟨_, rfl⟩
        rw [← hl3] at cv0
        have hlm : l3 ≤ 9223372036854775807 := by rw [hl3]; exact Nat.le_trans hs3.1 hs3.2.1
        by_cases hin : 0 ≤ x0 ∧ x0 < l3
        · obtain ⟨m0, rfl⟩ := Int.eq_ofNat_of_zero_le hin.1
          have hm0 : m0 < ls[m].length := by omega
          obtain ⟨b4, o4, rfl, hib⟩ := hs3.2.2 (by omega)
          have cv1 := (hib.2 m0 _ (List.getElem?_eq_getElem hm0)).1
          have hw : wrongOne ls 3 m (valsX vs ls args) = 0 := by simp only [wrongOne]; rw [← HX0.out, hgl]; simp; omega
          have hP : HasPost 73 (valOne vs ls 3 m (valsX vs ls args)) (fltOne vs ls 3 m args at_) w (.returned (.int .i64 ls[m][m0])) wr := hasPost_ok (by rw [HONE.out, if_pos hw]) (by simp only [valOne]; rw [← HX0.out, hgl]; simp [hm0]) HBW.out
          have HP := Lib.hid hP
          obtain ⟨y, hy⟩ : ∃ y, y = ls[m][m0] := ⟨_, rfl⟩
          rw [← hy] at HP cv1
          have hm2 : m0 < l3 := by omega
          clear hw hP h0 h1 hst2 hia hib hs3 hy hm hm1 hm0 hin hl3 hgl
          go_wp2_with fail
          go_ret
          exact HP.out
        · have hw : wrongOne ls 3 m (valsX vs ls args) = 5 := by simp only [wrongOne]; rw [← HX0.out, hgl, ← hl3]; simp; omega
          have hP : HasPost 73 (valOne vs ls 3 m (valsX vs ls args)) (fltOne vs ls 3 m args at_) w (fault 73 (5, at_)) wr := hasPost_no (by rw [HONE.out, if_neg (by rw [hw]; decide), hw]; simp) (by rw [HONE.out, if_neg (by rw [hw]; decide), hw]) HBW.out
          have HP := Lib.hid hP
          by_cases hneg : x0 < 0
          · clear hw hP h0 h1 hst2 hia hs3 hm hm1 hin hl3 hgl
            go_wp2_with fail
            exact ⟨rfl, HP.out⟩
          · have hge : (l3 : Int) ≤ x0 := by omega
            clear hw hP h0 h1 hst2 hia hs3 hm hm1 hin hl3 hgl
            go_wp2_with fail
            exact ⟨rfl, HP.out⟩
      have b3 : (k == 3) = false := by simpa using k3
      have hkk := mayK_k HK.out
      have k4 : 4 ≤ k := by omega
      have hv : valOne vs ls k n (valsX vs ls args) = opR k x0 x1 := by rw [valOne, if_neg k1, if_neg k2, if_neg k3, HX0.out, HX1.out]
      have hw : wrongOne ls k n (valsX vs ls args) = opW k x0 x1 := by rw [wrongOne, if_neg k1, if_neg k2, if_neg k3, HX0.out, HX1.out]
      have hcall : ∀ W, Calls Try.prog 51 #[.int .u8 k, .int .i64 x0, .int .i64 x1] W fun e w' => e = .returned (.tuple #[.int .i64 (opR k x0 x1), .int .u8 (opW k x0 x1), .int .i64 0]) ∧ Below W.heap.size W w' := fun W => apply_any k x0 x1 W k4 hkk.2 h0 h1
      have HC := Lib.hid hcall
      rw [hw] at HONE
      have HV := Lib.hid hv
      obtain ⟨r, hr⟩ : ∃ r, r = opR k x0 x1 := ⟨_, rfl⟩
      obtain ⟨q, hq⟩ : ∃ q, q = opW k x0 x1 := ⟨_, rfl⟩
      rw [← hr, ← hq] at HC
      rw [← hq] at HONE
      rw [← hr] at HV
      clear hv hw hcall hkk h0 h1 hst2 hr hq k1 k2 k3
      go_wp2_with fail
      refine (HC.out _).mono ?_
      rintro e w1 ⟨rfl, hb1⟩
      have hbn := HBW.out.trans (hb1.mono HBW.out.size)
      have e4' := (hb1.cell (p := ⟨w.heap.size + 1, 4, none⟩) (by simp; omega)).trans e4
      by_cases hq0 : q = 0
      · have hP : HasPost 73 (valOne vs ls k n (valsX vs ls args)) (fltOne vs ls k n args at_) w (.returned (.int .i64 r)) w1 := hasPost_ok (by rw [HONE.out, if_pos hq0]) (by rw [HV.out]) hbn
        have HP := Lib.hid hP
        clear hP
        subst hq0
        go_wp2_with fail
        go_ret
        exact HP.out
      · have hP : HasPost 73 (valOne vs ls k n (valsX vs ls args)) (fltOne vs ls k n args at_) w (fault 73 (q, at_)) w1 := hasPost_no (by rw [HONE.out, if_neg hq0]; exact hq0) (by rw [HONE.out, if_neg hq0]) hbn
        have HP := Lib.hid hP
        have hq1 : (q != 0) = true := by simpa using hq0
        clear hP hq0
        go_wp2_with fail
        exact ⟨rfl, HP.out⟩

/-- THE CONTRACT of sem.has, of each of some expressions that may be -/
theorem has_asks (vs : List Int) (ls : List (List Int)) (Av Aa : Option Addr) (cv ca B : Nat) (h64 : St64 vs ls) : ∀ xs : Exs, mayX vs.length ls.length xs = true → Ns64 xs → AsksHas vs ls Av Aa cv ca B xs
  | .nil, _, _ => fun i _ _ _ _ _ _ hd => by cases i <;> simp [Exs.drop] at hd
  | .cons k nm n args at_ rest, hm, hn => fun i k' nm' n' args' at' rest' hd W A c hB hst hx => by
    simp only [mayX, Bool.and_eq_true] at hm
    cases i with
    | zero =>
      simp only [Exs.drop] at hd
      injection hd with e1 e2 e3 e4 e5 e6
      subst e1 e2 e3 e4 e5 e6
      exact has_one vs ls Av Aa cv ca B k nm n args at_ A c W hB hst hx (has_asks vs ls Av Aa cv ca B h64 args hm.1.2 hn.2.1) hm.1.1 h64 hn.2.1
    | succ i =>
      simp only [Exs.drop] at hd
      exact has_asks vs ls Av Aa cv ca B h64 rest hm.2 hn.2.2 i k' nm' n' args' at' rest' hd W A c hB hst hx
end Go.Proofs.Ytdflbaipbmkdgaa
