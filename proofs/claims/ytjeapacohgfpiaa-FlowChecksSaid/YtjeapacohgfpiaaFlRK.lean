/-
  facetroomref13.Same: the same as flow.Same.
-/
import Derived.Test.YtjeapacohgfpiaaFlRB
import Derived.BigRegion
import Derived.Deep.DeepCutAuto
namespace Go.Proofs.Ytjeapacohgfpiaa
open Go.RowKit Go.Shelf

set_option maxRecDepth 100000 in
set_option maxHeartbeats 3200000 in
/-- THE CONTRACT of ref13.Same -/
theorem rSame_any (g o : Gr) (Aa Ae Aa' Ae' : Option Addr) (ca ce ca' ce' B : Nat) (w : World) (hB : B ≤ w.heap.size) (hg : GrSl w B g Aa ca Ae ce) (ho : GrSl w B o Aa' ca' Ae' ce') :
    Calls Try.prog 15 #[grV g.vars Aa g.arrays.length ca g.nodes g.start g.last Ae g.edges.length ce, grV o.vars Aa' o.arrays.length ca' o.nodes o.start o.last Ae' o.edges.length ce'] w (BoolPost (sameG g o) w) := by
  obtain ⟨v, ar, nd, st, la, xs⟩ := g
  obtain ⟨v', ar', nd', st', la', ys⟩ := o
  have hl := Nat.le_trans hg.edges.1 hg.edges.2.1
  have hl' := Nat.le_trans ho.edges.1 ho.edges.2.1
  have HX := Lib.hid hg.edges
  have HY := Lib.hid ho.edges
  have hii : ∀ W, Below w.heap.size w W → Calls Try.prog 21 #[.slice Aa ar.length ca, .slice Aa' ar'.length ca'] W (QPost (ar == ar') W) := fun W h =>
    rints_any ar ar' Aa Aa' ca ca' W B (hg.arrays.keep (Same.of h hB)) (ho.arrays.keep (Same.of h hB))
  clear hg ho
  unfold sameG grV
  simp only at HX HY hl hl' ⊢
  obtain ⟨na, hna⟩ : ∃ n, n = ar.length := ⟨_, rfl⟩
  obtain ⟨na', hna'⟩ : ∃ n, n = ar'.length := ⟨_, rfl⟩
  obtain ⟨m, hm⟩ : ∃ n, n = xs.length := ⟨_, rfl⟩
  obtain ⟨m', hm'⟩ : ∃ n, n = ys.length := ⟨_, rfl⟩
  obtain ⟨ia, hia⟩ : ∃ b, b = (ar == ar') := ⟨_, rfl⟩
  obtain ⟨r, hr⟩ : ∃ b, b = all2E sameEd xs ys := ⟨_, rfl⟩
  rw [← hna, ← hna', ← hia] at hii
  rw [← hna, ← hna', ← hia, ← hm, ← hm', ← hr]
  rw [← hm] at hl
  rw [← hm'] at hl'
  have HI := Lib.hid hii
  have HM := Lib.hid hm
  have HM' := Lib.hid hm'
  have HR := Lib.hid hr
  clear hii hna hna' hm hm' hia hr
  have hbb : ∀ c0 c1 : Array Value, Below w.heap.size w ((w.alloc (.cells c0 35)).alloc (.cells c1 35)) := fun _ _ => ((Below.refl _ _).alloc (Nat.le_refl _) _).alloc (by simp) _
  have HBB := Lib.hid hbb
  clear hbb
  cases h1 : v == v'
  · have h1' : (v != v') = true := by rw [bne, h1]; rfl
    go_enter Try.func15, Try.ntmps15
    go_wp2_with (go_at_call 21; refine (HI.out _ (HBB.out _ _)).mono ?_; rintro _ _ ⟨rfl, q, rfl⟩)
    go_ret
    exact ⟨by simp, by first | exact HBB.out _ _ | exact below_drewN' (HBB.out _ _) _⟩
  have h1' : (v != v') = false := by rw [bne, h1]; rfl
  cases ia
  · go_enter Try.func15, Try.ntmps15
    go_wp2_with (go_at_call 21; refine (HI.out _ (HBB.out _ _)).mono ?_; rintro _ _ ⟨rfl, q, rfl⟩)
    go_ret
    exact ⟨by simp, by first | exact HBB.out _ _ | exact below_drewN' (HBB.out _ _) _⟩
  cases h3 : nd == nd'
  · have h3' : (nd != nd') = true := by rw [bne, h3]; rfl
    go_enter Try.func15, Try.ntmps15
    go_wp2_with (go_at_call 21; refine (HI.out _ (HBB.out _ _)).mono ?_; rintro _ _ ⟨rfl, q, rfl⟩)
    go_ret
    exact ⟨by simp, by first | exact HBB.out _ _ | exact below_drewN' (HBB.out _ _) _⟩
  have h3' : (nd != nd') = false := by rw [bne, h3]; rfl
  cases h4 : st == st'
  · have h4' : (st != st') = true := by rw [bne, h4]; rfl
    go_enter Try.func15, Try.ntmps15
    go_wp2_with (go_at_call 21; refine (HI.out _ (HBB.out _ _)).mono ?_; rintro _ _ ⟨rfl, q, rfl⟩)
    go_ret
    exact ⟨by simp, by first | exact HBB.out _ _ | exact below_drewN' (HBB.out _ _) _⟩
  have h4' : (st != st') = false := by rw [bne, h4]; rfl
  cases h5 : la == la'
  · have h5' : (la != la') = true := by rw [bne, h5]; rfl
    go_enter Try.func15, Try.ntmps15
    go_wp2_with (go_at_call 21; refine (HI.out _ (HBB.out _ _)).mono ?_; rintro _ _ ⟨rfl, q, rfl⟩)
    go_ret
    exact ⟨by simp, by first | exact HBB.out _ _ | exact below_drewN' (HBB.out _ _) _⟩
  have h5' : (la != la') = false := by rw [bne, h5]; rfl
  by_cases hlen : m = m'
  case neg =>
    have hn : ((m : Int) == (m' : Int)) = false := by simp; omega
    have hn' : ((m : Int) != (m' : Int)) = true := by simp; omega
    have hrr : r = false := by rw [HR.out]; exact all2E_len (by rw [← HM.out, ← HM'.out]; exact hlen)
    subst hrr
    go_enter Try.func15, Try.ntmps15
    go_wp2_with (go_at_call 21; refine (HI.out _ (HBB.out _ _)).mono ?_; rintro _ _ ⟨rfl, q, rfl⟩)
    go_ret
    exact ⟨by simp, by first | exact HBB.out _ _ | exact below_drewN' (HBB.out _ _) _⟩
  subst hlen
  go_enter Try.func15, Try.ntmps15
  go_wp2_with (go_at_call 21; refine (HI.out _ (HBB.out _ _)).mono ?_; rintro _ _ ⟨rfl, q, rfl⟩)
  go_loopw [5] (fun i wr => ∃ k : Nat, k ≤ m ∧ i = .int .i64 k ∧ Hid (Below w.heap.size w wr ∧ Below (w.heap.size + 2) ((w.alloc (.cells #[.int .i64 v, .slice Aa na ca, .int .i64 nd, .int .i64 st, .int .i64 la, .slice Ae m ce] 35)).alloc (.cells #[.int .i64 v', .slice Aa' na' ca', .int .i64 nd', .int .i64 st', .int .i64 la', .slice Ae' m ce'] 35)) wr) ∧ Hid (r = all2E sameEd (xs.drop k) (ys.drop k))) (fun i _ => m - (intOf i).toNat)
  case atStart => exact ⟨0, Nat.zero_le _, rfl, ⟨below_drewN' (HBB.out _ _) _, below_drewN' ((Below.refl ((w.alloc (.cells #[.int .i64 v, .slice Aa na ca, .int .i64 nd, .int .i64 st, .int .i64 la, .slice Ae m ce] 35)).alloc (.cells #[.int .i64 v', .slice Aa' na' ca', .int .i64 nd', .int .i64 st', .int .i64 la', .slice Ae' m ce'] 35)).heap.size _).mono (by simp)) _⟩, HR.out⟩
  case round =>
    obtain ⟨k, hk, rfl, hbs, hall⟩ := hrel
    obtain ⟨hb1, hb2⟩ := hbs.out
    have g5 := (hb2.cell (p := ⟨w.heap.size, 5, none⟩) (by simp)).trans (cells2 w _ _ _ _ 5).1
    have j5 := (hb2.cell (p := ⟨w.heap.size + 1, 5, none⟩) (by simp)).trans (cells2 w _ _ _ _ 5).2
    simp only [List.getElem?_toArray, List.getElem?_cons_succ, List.getElem?_cons_zero] at g5 j5
    by_cases hlt : k < m
    · obtain ⟨a, ha⟩ : ∃ e, xs[k]? = some e := ⟨_, List.getElem?_eq_getElem (by rw [← HM.out]; exact hlt)⟩
      obtain ⟨b, hb⟩ : ∃ e, ys[k]? = some e := ⟨_, List.getElem?_eq_getElem (by rw [← HM'.out]; exact hlt)⟩
      obtain ⟨x, o, rfl, hat⟩ := HX.out.2.2 (by rw [← HM.out]; omega)
      obtain ⟨x', o', rfl, hat'⟩ := HY.out.2.2 (by rw [← HM'.out]; omega)
      have hBr := Nat.le_trans hB hb1.size
      obtain ⟨hbB, c0, c1, c2, c3, c4, ⟨A1, k1, c5, s1⟩, c6, _⟩ := (hat.keep (Same.of hb1 hB)).at_ ha
      obtain ⟨hbB', d0, d1, d2, d3, d4, ⟨A2, k2, d5, s2⟩, d6, _⟩ := (hat'.keep (Same.of hb1 hB)).at_ hb
      have hxr : x < wr.heap.size := Nat.lt_of_lt_of_le hbB hBr
      have hxr' : x' < wr.heap.size := Nat.lt_of_lt_of_le hbB' hBr
      have hwr : w.heap.size + 1 < wr.heap.size := by have := hb2.size; simp at this; omega
      have hwr1 : w.heap.size < wr.heap.size := by omega
      have hlt' : (k : Int) < (m : Int) := by omega
      have hge : (0 : Int) ≤ (k : Int) := by omega
      have HST := Lib.hid (hall.out.trans (all2E_drop (q := sameEd) ha hb))
      have HS := Lib.hid (fun (W : World) (h : Below wr.heap.size wr W) => r_same_any a.args b.args A1 A2 k1 k2 W B (s1.keep (Same.of h hBr)) (s2.keep (Same.of h hBr)))
      have HB1 := Lib.hid hb1
      have HB2 := Lib.hid hb2
      clear ha hb hat hat' s1 s2 hb1 hb2 hall
      obtain ⟨t, ht⟩ : ∃ t, t = sameX a.args b.args := ⟨_, rfl⟩
      have HT := Lib.hid (show sameEd a b = ((a.from_ == b.from_) && (a.to_ == b.to_) && (a.at_ == b.at_) && (a.kind == b.kind) && (a.n == b.n) && (a.cmp == b.cmp) && t) from by rw [ht]; rfl)
      rw [← ht] at HS
      clear ht
      go_upto_region 6 with fail
      go_cut [6, 7] (fun s6 s7 wx => ∃ P Q : Nat, s6 = .pointer (some ⟨P, 0, none⟩) ∧ s7 = .pointer (some ⟨Q, 0, none⟩) ∧ Below wr.heap.size wr wx ∧ P < wx.heap.size ∧ Q < wx.heap.size ∧ wx.cell? ⟨P, 0, none⟩ = some (.int .i64 a.from_) ∧ wx.cell? ⟨P, 1, none⟩ = some (.int .i64 a.to_) ∧ wx.cell? ⟨P, 2, none⟩ = some (.int .u8 a.kind) ∧ wx.cell? ⟨P, 3, none⟩ = some (.int .i64 a.n) ∧ wx.cell? ⟨P, 4, none⟩ = some (.int .u8 a.cmp) ∧ wx.cell? ⟨P, 5, none⟩ = some (.slice A1 a.args.len k1) ∧ wx.cell? ⟨P, 6, none⟩ = some (.int .i64 a.at_) ∧ wx.cell? ⟨Q, 0, none⟩ = some (.int .i64 b.from_) ∧ wx.cell? ⟨Q, 1, none⟩ = some (.int .i64 b.to_) ∧ wx.cell? ⟨Q, 2, none⟩ = some (.int .u8 b.kind) ∧ wx.cell? ⟨Q, 3, none⟩ = some (.int .i64 b.n) ∧ wx.cell? ⟨Q, 4, none⟩ = some (.int .u8 b.cmp) ∧ wx.cell? ⟨Q, 5, none⟩ = some (.slice A2 b.args.len k2) ∧ wx.cell? ⟨Q, 6, none⟩ = some (.int .i64 b.at_))
      case first =>
        go_region
        all_goals
          go_wp2_with fail
          go_meet
          refine ⟨_, _, rfl, rfl, (((Below.refl _ _).alloc (Nat.le_refl _) _).alloc (by simp) _).drew, by simp <;> omega, by simp <;> omega, ?_⟩
          simp
      case rest =>
        obtain ⟨P, Q, rfl, rfl, hbx, hP, hQ, p0, p1, p2, p3, p4, p5, p6, q0, q1, q2, q3, q4, q5, q6⟩ := hcut
        have HBX := Lib.hid hbx
        clear hbx c0 c1 c2 c3 c4 c5 c6 d0 d1 d2 d3 d4 d5 d6 g5 j5
        cases e0 : a.from_ == b.from_
        · have e0' : (a.from_ != b.from_) = true := by rw [bne, e0]; rfl
          have HF := Lib.hid (show r = false from by rw [HST.out, HT.out, e0]; simp)
          go_wp2_with (go_at_call 41; refine (HS.out _ HBX.out).mono ?_; rintro _ _ ⟨rfl, q, rfl⟩)
          go_ret
          exact ⟨by rw [HF.out]; simp, HB1.out.trans (HBX.out.mono HB1.out.size)⟩
        have e0' : (a.from_ != b.from_) = false := by rw [bne, e0]; rfl
        cases e1 : a.to_ == b.to_
        · have e1' : (a.to_ != b.to_) = true := by rw [bne, e1]; rfl
          have HF := Lib.hid (show r = false from by rw [HST.out, HT.out, e1]; simp)
          go_wp2_with (go_at_call 41; refine (HS.out _ HBX.out).mono ?_; rintro _ _ ⟨rfl, q, rfl⟩)
          go_ret
          exact ⟨by rw [HF.out]; simp, HB1.out.trans (HBX.out.mono HB1.out.size)⟩
        have e1' : (a.to_ != b.to_) = false := by rw [bne, e1]; rfl
        cases e2 : a.at_ == b.at_
        · have e2' : (a.at_ != b.at_) = true := by rw [bne, e2]; rfl
          have HF := Lib.hid (show r = false from by rw [HST.out, HT.out, e2]; simp)
          go_wp2_with (go_at_call 41; refine (HS.out _ HBX.out).mono ?_; rintro _ _ ⟨rfl, q, rfl⟩)
          go_ret
          exact ⟨by rw [HF.out]; simp, HB1.out.trans (HBX.out.mono HB1.out.size)⟩
        have e2' : (a.at_ != b.at_) = false := by rw [bne, e2]; rfl
        cases e3 : a.kind == b.kind
        · have e3' : (a.kind != b.kind) = true := by rw [bne, e3]; rfl
          have HF := Lib.hid (show r = false from by rw [HST.out, HT.out, e3]; simp)
          go_wp2_with (go_at_call 41; refine (HS.out _ HBX.out).mono ?_; rintro _ _ ⟨rfl, q, rfl⟩)
          go_ret
          exact ⟨by rw [HF.out]; simp, HB1.out.trans (HBX.out.mono HB1.out.size)⟩
        have e3' : (a.kind != b.kind) = false := by rw [bne, e3]; rfl
        cases e4 : a.n == b.n
        · have e4' : (a.n != b.n) = true := by rw [bne, e4]; rfl
          have HF := Lib.hid (show r = false from by rw [HST.out, HT.out, e4]; simp)
          go_wp2_with (go_at_call 41; refine (HS.out _ HBX.out).mono ?_; rintro _ _ ⟨rfl, q, rfl⟩)
          go_ret
          exact ⟨by rw [HF.out]; simp, HB1.out.trans (HBX.out.mono HB1.out.size)⟩
        have e4' : (a.n != b.n) = false := by rw [bne, e4]; rfl
        cases e5 : a.cmp == b.cmp
        · have e5' : (a.cmp != b.cmp) = true := by rw [bne, e5]; rfl
          have HF := Lib.hid (show r = false from by rw [HST.out, HT.out, e5]; simp)
          go_wp2_with (go_at_call 41; refine (HS.out _ HBX.out).mono ?_; rintro _ _ ⟨rfl, q, rfl⟩)
          go_ret
          exact ⟨by rw [HF.out]; simp, HB1.out.trans (HBX.out.mono HB1.out.size)⟩
        have e5' : (a.cmp != b.cmp) = false := by rw [bne, e5]; rfl
        cases t
        · have HF := Lib.hid (show r = false from by rw [HST.out, HT.out]; simp)
          go_wp2_with (go_at_call 41; refine (HS.out _ HBX.out).mono ?_; rintro _ _ ⟨rfl, q, rfl⟩)
          go_ret
          exact ⟨by rw [HF.out]; simp, below_drewN' (HB1.out.trans (HBX.out.mono HB1.out.size)) _⟩
        · have HN := Lib.hid (show r = all2E sameEd (xs.drop (k + 1)) (ys.drop (k + 1)) from by rw [HST.out, HT.out, e0, e1, e2, e3, e4, e5]; simp)
          go_wp2_with (go_at_call 41; refine (HS.out _ HBX.out).mono ?_; rintro _ _ ⟨rfl, q, rfl⟩)
          go_roundw
          case rel => exact ⟨k + 1, by omega, by go_num, ⟨below_drewN' (HB1.out.trans (HBX.out.mono HB1.out.size)) _, below_drewN' (HB2.out.trans (HBX.out.mono hwr)) _⟩, HN⟩
          case measure => simp [intOf]; omega
    · have HF := Lib.hid (show r = true from by rw [hall.out, List.drop_eq_nil_of_le (by rw [← HM.out]; omega), List.drop_eq_nil_of_le (by rw [← HM'.out]; omega)]; rfl)
      clear hall hb2
      go_wp2_with fail
      go_ret
      exact ⟨by rw [HF.out]; simp, hb1⟩
end Go.Proofs.Ytjeapacohgfpiaa
