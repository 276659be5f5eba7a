/-
  law08.LexApart.
-/
import Derived.Test.YtknckiblofochaaDoorLxBlanks
import Derived.Test.YtknckiblofochaaDoorLrLaw
import Derived.IntWalk
import Derived.BigQuiet
namespace Go.Proofs.YtknckiblofochaaDoor
open Go.RowKit Go.Shelf
set_option linter.unusedVariables false
set_option linter.unusedSimpArgs false

theorem below_drewN {B : Nat} {w w' : World} (h : Below B w w') (q : Nat) : Below B w (w'.drewN q) := ⟨h.os, h.tape, h.output, h.size, h.block⟩
theorem cell_lt {w : World} {a : Addr} {v : Value} (h : w.cell? a = some v) : a.block < w.heap.size := by
  unfold World.cell? at h
  cases hb : w.heap[a.block]? with
  | none => rw [hb] at h; exact absurd h (by simp)
  | some o => exact (Array.getElem?_eq_some_iff.1 hb).1
theorem toksF_bad : ∀ (f : Nat) (l : List UInt8) (p : Nat), (toksF f l p).2.2 ≠ 0 → (toksF f l p).1 = []
  | 0, _, _, _ => rfl
  | f + 1, l, p, h => by
    rw [toksF] at h ⊢
    simp only at h ⊢
    split
    · rfl
    · rename_i h1
      rw [if_neg h1] at h
      split
      · rename_i h2
        rw [if_pos h2] at h
        split
        · rename_i h3
          rw [if_pos h3] at h
          exact absurd rfl h
        · rename_i h3
          exact toksF_bad f _ _ h3
      · rfl
theorem toks_bad {l : List UInt8} (h : (toks l).2.2 ≠ 0) : (toks l).1 = [] := by
  unfold toks at h ⊢
  split
  · rfl
  · rename_i h1
    rw [if_neg h1] at h
    exact toksF_bad _ _ _ h
theorem lexApart_long (s : ByteArray) (w : World) (he : LexEnv w) (hs : ¬ s.size ≤ 100000) : Calls Tryd.prog 3 #[.string s] w (TruePost w) := by
  have H1 := Lib.hid (alive_any w he)
  have e1 : decide ((100000 : Int) < s.size) = true := by simp; omega
  clear hs he
  go_enter Tryd.func3, Tryd.ntmps3
  go_wp2_with fail
  refine H1.out.mono ?_
  rintro _ w1 ⟨rfl, hb⟩
  go_wp2_with fail
  go_ret
  exact ⟨rfl, hb⟩
theorem lexApart_bad (s : ByteArray) (w : World) (he : LexEnv w) (hs : s.size ≤ 100000) (h : (toks s.data.toList).2.2 ≠ 0) : Calls Tryd.prog 3 #[.string s] w (TruePost w) := by
  have H1 := Lib.hid (alive_any w he)
  have h2 := fun W (h : Below w.heap.size w W) => tokens_any s (by omega) W (he.keep h)
  have hnil := toks_bad h
  obtain ⟨⟨ts, at_, er⟩, hr⟩ : ∃ r, r = toks s.data.toList := ⟨_, rfl⟩
  rw [← hr] at h2 h hnil
  simp only at h hnil
  subst hnil
  unfold TokPost at h2
  simp only at h2
  have H2 := Lib.hid h2
  have e1 : (er != 0) = true := by simpa using h
  clear h2 he hr h
  go_enter Tryd.func3, Tryd.ntmps3
  go_wp2_with fail
  refine H1.out.mono ?_
  rintro _ w1 ⟨rfl, hb⟩
  go_wp2_with fail
  refine (H2.out _ hb).mono ?_
  rintro _ w2 ⟨v, rfl, ho, hb2⟩
  obtain ⟨p, cap, rfl⟩ := row_form ho
  have hbb := hb.trans (hb2.mono hb.size)
  clear ho hb hb2
  go_wp2_with fail
  go_ret
  exact ⟨rfl, hbb⟩
set_option maxRecDepth 100000 in
set_option maxHeartbeats 3200000 in
theorem lexApart_ok (s : ByteArray) (w : World) (he : LexEnv w) (hs : s.size ≤ 100000) (h : (toks s.data.toList).2.2 = 0) : Calls Tryd.prog 3 #[.string s] w (TruePost w) := by
  have H1 := Lib.hid (alive_any w he)
  have h2 := fun W (h : Below w.heap.size w W) => tokens_any s (by omega) W (he.keep h)
  obtain ⟨hlies, hsz⟩ := toks_lies h
  obtain ⟨⟨ts, at_, er⟩, hr⟩ : ∃ r, r = toks s.data.toList := ⟨_, rfl⟩
  rw [← hr] at h2 h hlies
  simp only at h hlies
  subst h
  unfold TokPost at h2
  simp only at h2
  have H2 := Lib.hid h2
  have HE := Lib.hid he
  have hlen := toks_len s.data.toList
  rw [← hr] at hlen
  simp only at hlen
  have HL := Lib.hid hlies
  rw [size_len] at hsz
  have e0 : decide ((100000 : Int) < s.size) = false := by simp; omega
  clear h2 he hr hlies
  go_enter Tryd.func3, Tryd.ntmps3
  go_wp2_with fail
  refine H1.out.mono ?_
  rintro _ w1 ⟨rfl, hb⟩
  go_wp2_with fail
  refine (H2.out _ hb).mono ?_
  rintro _ w2 ⟨v, rfl, ho, hb2⟩
  obtain ⟨p0, cap, rfl⟩ := row_form ho
  have HB2 := Lib.hid (hb.trans (hb2.mono hb.size))
  obtain ⟨n, hn⟩ : ∃ n, n = ts.length := ⟨_, rfl⟩
  rw [← hn] at ho hlen ⊢
  have HO := Lib.hid ho
  have HN := Lib.hid hn
  clear ho hb hb2 hn
  go_wp2_with fail
  go_loopw [7, 8] (fun v7 v8 wr => ∃ k p : Nat, k ≤ n ∧ v8 = .int .i64 k ∧ v7 = .int .i64 p ∧ Hid (Lies s.data.toList p (ts.drop k)) ∧ Hid (Below w.heap.size w wr) ∧ Hid (Below w2.heap.size w2 wr)) (fun _ v8 _ => n - (intOf v8).toNat)
  case atStart => exact ⟨0, 0, Nat.zero_le _, rfl, rfl, by simpa using HL, HB2, Below.refl _ _⟩
  case round =>
    obtain ⟨k, p, hk, rfl, rfl, hlie, hbw, hb2w⟩ := hrel
    by_cases hlt : k < n
    · obtain ⟨t, ht⟩ : ∃ t, ts[k]? = some t := ⟨_, List.getElem?_eq_getElem (by rw [← HN.out]; exact hlt)⟩
      have hd : ts.drop k = t :: ts.drop (k + 1) := by
        obtain ⟨hi, e⟩ := List.getElem?_eq_some_iff.1 ht
        rw [← e]; exact List.drop_eq_getElem_cons hi
      have hlo := hlie.out
      rw [hd] at hlo
      obtain ⟨l1, l2, l3, l4, l5, l6, l7⟩ := hlo
      have hx := HO.out
      rw [HN.out] at hx
      obtain ⟨g, c1, ev, hg, hc⟩ := tk_cells hx ht
      simp only [Value.slice.injEq] at ev
      obtain ⟨rfl, -, -⟩ := ev
      have hw : ∀ j, j < 3 → wr.cell? ⟨g, k * 3 + j, none⟩ = (tkC t)[j]? := fun j hj => by
        refine (hb2w.out.cell (p := ⟨g, k * 3 + j, none⟩) ?_).trans (hc j hj)
        exact cell_lt (a := ⟨g, k * 3 + 0, none⟩) (v := .int .u8 t.kind) (by rw [hc 0 (by omega)]; rfl)
      have x0 := hw 0 (by omega)
      have x1 := hw 1 (by omega)
      have x2 := hw 2 (by omega)
      simp only [tkC, List.getElem?_cons_zero, List.getElem?_cons_succ, Nat.add_zero] at x0 x1 x2
      obtain ⟨tx, htx⟩ : ∃ tx : ByteArray, tx = ⟨t.text.toArray⟩ := ⟨_, rfl⟩
      have htl : t.text = tx.data.toList := by rw [htx]
      have htn : t.text.length = tx.size := by rw [htl, size_len]
      have hts : tx.size ≤ 4096 := by rw [← htn]; rw [size_len] at l2; omega
      have hcut : s.extract t.at_ (t.at_ + tx.size) = tx := by
        have : (s.extract t.at_ (t.at_ + tx.size)).data.toList = t.text := by rw [← l4, htn]; simp
        rw [tx_eq this, htx]
      have hblk : ∀ W, Calls Tryd.prog 9 #[.string (s.extract p t.at_)] W fun e w' => e = .returned (.bool true) ∧ W = w' := fun W => by
        have := blanks_any (s.extract p t.at_) (by simp; omega) W
        have e1 : (s.extract p t.at_).data.toList = (s.data.toList.drop p).take (t.at_ - p) := by simp
        have e2 : (s.extract p t.at_).size = t.at_ - p := by rw [← size_len, e1, List.length_take, List.length_drop]; omega
        rw [e2, e1, runB_take, Nat.min_eq_left l5, beq_self_eq_true] at this
        exact this
      have hq : ∀ W, Below w.heap.size w W → Calls Tryd.prog 8 #[.string tx] W fun e w' => ∃ v, e = .returned (.tuple #[v, .int .i64 0, .int .i64 0]) ∧ w'.ownsRow W.heap.size 28 3 v 1 [.int .u8 t.kind, .string tx, .int .i64 0] ∧ Below W.heap.size W w' := fun W h => by
        have := tokens_any tx (by omega) W (HE.out.keep h)
        rw [← htl, toks_own l6 (by omega)] at this
        unfold TokPost at this
        simp only [List.length_cons, List.length_nil, List.flatMap_cons, List.flatMap_nil, List.append_nil, tkC, ← htx] at this
        exact this
      rw [← htx] at x1
      have l2' : t.at_ + tx.size ≤ s.size := by rw [← htn]; rw [size_len] at l2; exact l2
      have l3' : 0 < tx.size := by rw [← htn]; exact l3
      rw [htn] at l7
      have L7 := Lib.hid l7
      have HC := Lib.hid hcut
      have HBL := Lib.hid hblk
      have HQ := Lib.hid hq
      obtain ⟨kd, hkd⟩ : ∃ kd, kd = t.kind := ⟨_, rfl⟩
      obtain ⟨a, ha⟩ : ∃ a, a = t.at_ := ⟨_, rfl⟩
      rw [← hkd] at x0 HQ
      rw [← ha] at x2 L7 HC HBL l1 l2'
      clear l2 l3 l4 l5 l6 l7 hcut hblk hq hd hc hw ht hx htx htl htn hlie hkd ha
      have hlt' : ((k : Nat) : Int) < (n : Int) := by omega
      go_wp2_with fail
      have hbx : ∀ q, Below w.heap.size w ((wr.alloc (.cells #[.int .u8 kd, .string tx, .int .i64 a] 28)).drewN q) := fun q => by
        have h := hbw.out.alloc hbw.out.size (.cells #[.int .u8 kd, .string tx, .int .i64 a] 28)
        exact ⟨h.os, h.tape, h.output, h.size, h.block⟩
      have HBX := Lib.hid hbx
      clear hbx x0 x1 x2
      have f2 : decide (a < p) = false := by simp; omega
      have f3 : decide ((s.size : Int) < (a : Int) + (tx.size : Int)) = false := by simp; omega
      have f3' : decide (s.size < a + tx.size) = false := by simp; omega
      have f4 : ((tx.size : Int) == 0) = false := by rw [beq_eq_false_iff_ne]; omega
      have f5 : ((a : Int) + (tx.size : Int)).toNat = a + tx.size := by omega
      have f6 := HC.out
      have f1 : IntKind.i64.wrap ((a : Int) + (tx.size : Int)) = (a : Int) + (tx.size : Int) := IntWalk.i64_in _ (by omega)
      go_quiet ((go_at_call 9; exact quiet_left (HBL.out _)))
      clear f1 f2 f3 f3' f4 f5 f6
      go_wp2_with fail
      refine (HQ.out _ (HBX.out _)).mono ?_
      rintro _ w4 ⟨v', rfl, ho1, hb4⟩
      rcases ho1.2 with ⟨_, h0⟩ | ⟨g', cap', cur, rfl, hg', _, _, hcap', _⟩
      · simp at h0
      have cc : ∀ j, j < 3 → w4.cell? ⟨g', j, none⟩ = _ := fun j hj => World.ownsRow.cellAt ho1 j (by simpa using hj)
      have c0 := cc 0 (by decide)
      have c1 := cc 1 (by decide)
      simp only [List.getElem?_cons_zero, List.getElem?_cons_succ] at c0 c1
      have y0 := (hb4.cell (p := ⟨wr.heap.size, 0, none⟩) (by simp)).trans (newCell wr #[.int .u8 kd, .string tx, .int .i64 a] 28 0)
      have y1 := (hb4.cell (p := ⟨wr.heap.size, 1, none⟩) (by simp)).trans (newCell wr #[.int .u8 kd, .string tx, .int .i64 a] 28 1)
      have y2 := (hb4.cell (p := ⟨wr.heap.size, 2, none⟩) (by simp)).trans (newCell wr #[.int .u8 kd, .string tx, .int .i64 a] 28 2)
      simp only [List.getElem?_toArray, List.getElem?_cons_succ, List.getElem?_cons_zero] at y0 y1 y2
      have hbn := Lib.hid ((HBX.out _).trans (hb4.mono (HBX.out _).size))
      have hb2n := hb2w.out.trans (((Below.refl wr.heap.size wr).alloc (Nat.le_refl _) (.cells #[.int .u8 kd, .string tx, .int .i64 a] 28)).mono hb2w.out.size)
      have hb2n := hb2n.trans (Below.mono ⟨hb4.os, hb4.tape, hb4.output, hb4.size, hb4.block⟩ hb2n.size)
      have HB2N := Lib.hid hb2n
      clear cc ho1 hb4 hb2n hg' hcap'
      go_wp2_with fail
      go_quiet (fail)
      go_wp2_with fail
      go_roundw
      case rel => exact ⟨k + 1, a + tx.size, by omega, by go_num, by go_num, L7, below_drewN hbn.out _, below_drewN HB2N.out _⟩
      case measure => simp [intOf]; omega
    · have hend : runB isBlk (s.data.toList.drop p) = (s.data.toList.drop p).length ∧ p ≤ s.data.toList.length := by
        have := hlie.out
        rw [List.drop_eq_nil_of_le (by rw [← HN.out]; omega)] at this
        exact this
      have hblk : ∀ W, Calls Tryd.prog 9 #[.string (s.extract p s.size)] W fun e w' => e = .returned (.bool true) ∧ W = w' := fun W => by
        have := blanks_any (s.extract p s.size) (by simp; omega) W
        rw [← size_len (s.extract p s.size), drop_data, hend.1, beq_self_eq_true] at this
        exact this
      have hps := hend.2
      rw [size_len] at hps
      have HBL := Lib.hid hblk
      clear hblk hend hlie
      go_wp2_with fail
      refine (HBL.out _).mono ?_
      rintro _ w4 ⟨rfl, rfl⟩
      go_wp2_with fail
      go_ret
      exact ⟨rfl, hbw.out⟩
/-- LexApart is true, whatever the text -/
theorem lexApart_any (s : ByteArray) (w : World) (he : LexEnv w) : Calls Tryd.prog 3 #[.string s] w (TruePost w) := by
  by_cases hs : s.size ≤ 100000
  · by_cases h : (toks s.data.toList).2.2 = 0
    · exact lexApart_ok s w he hs h
    · exact lexApart_bad s w he hs h
  · exact lexApart_long s w he hs
end Go.Proofs.YtknckiblofochaaDoor
