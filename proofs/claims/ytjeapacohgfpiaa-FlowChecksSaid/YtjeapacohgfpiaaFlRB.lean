/-
  facetroomref13.SameExprs.
-/
import Derived.Test.YtjeapacohgfpiaaFlRA
namespace Go.Proofs.Ytjeapacohgfpiaa
open Go.RowKit Go.Shelf

/-- WHAT ref13.SameExprs ANSWERS of the Args of each two of some expressions -/
def RX_same (B : Nat) (xs ys : Exs) : Prop :=
  ∀ (i : Nat) (k : Int) (nm : ByteArray) (n : Int) (args : Exs) (at_ : Int) (rest : Exs) (k' : Int) (nm' : ByteArray) (n' : Int) (args' : Exs) (at' : Int) (rest' : Exs),
    Exs.drop i xs = .cons k nm n args at_ rest → Exs.drop i ys = .cons k' nm' n' args' at' rest' →
    ∀ (W : World) (A A' : Option Addr) (c c' : Nat), ExSl W B args A c → ExSl W B args' A' c' →
      Calls Try.prog 41 #[.slice A args.len c, .slice A' args'.len c'] W (QPost (sameX args args') W)
theorem RX_same_step {xs ys : Exs} {i : Nat} {k nm n args at_ rest k' nm' n' args' at' rest'} (hd : Exs.drop i xs = .cons k nm n args at_ rest) (hd' : Exs.drop i ys = .cons k' nm' n' args' at' rest') :
    sameX (Exs.drop i xs) (Exs.drop i ys) = ((k == k') && (n == n') && (nm.toList == nm'.toList) && (at_ == at') && sameX args args' && sameX (Exs.drop (i + 1) xs) (Exs.drop (i + 1) ys)) := by
  rw [Exs.drop_succ i xs hd, Exs.drop_succ i ys hd', hd, hd']
  simp only [sameX]
theorem RX_same_len : ∀ {xs ys : Exs}, xs.len ≠ ys.len → sameX xs ys = false
  | .nil, .nil, h => absurd rfl h
  | .nil, .cons .., _ => rfl
  | .cons .., .nil, _ => rfl
  | .cons _ _ _ _ _ r, .cons _ _ _ _ _ r', h => by
    have : r.len ≠ r'.len := fun e => h (by simp [Exs.len, e])
    simp [sameX, RX_same_len this]
set_option maxRecDepth 100000 in
set_option maxHeartbeats 3200000 in
theorem r_same_one (xs ys : Exs) (A A' : Option Addr) (c c' : Nat) (w : World) (B : Nat) (hx : ExSl w B xs A c) (hy : ExSl w B ys A' c') (hall0 : RX_same B xs ys) :
    Calls Try.prog 41 #[.slice A xs.len c, .slice A' ys.len c'] w (QPost (sameX xs ys) w) := by
  have hl : xs.len ≤ 9223372036854775807 := Nat.le_trans hx.1 hx.2.1
  have hl' : ys.len ≤ 9223372036854775807 := Nat.le_trans hy.1 hy.2.1
  have HA := Lib.hid hall0
  clear hall0
  by_cases hlen : xs.len = ys.len
  · obtain ⟨m, hm⟩ : ∃ m, m = ys.len := ⟨_, rfl⟩
    have hxm : xs.len = m := hlen.trans hm.symm
    rw [hxm, ← hm]
    rw [← hm] at hl'
    have HM := Lib.hid hm
    have HL := Lib.hid hxm
    have HX := Lib.hid hx
    have HY := Lib.hid hy
    clear hlen hm hxm hl hx hy
    go_enter Try.func41, Try.ntmps41
    go_wp2
    go_loopw [5] (fun i wr => ∃ k : Nat, k ≤ m ∧ i = .int .i64 k ∧ Hid (∃ q, wr = w.drewN q) ∧ Hid (sameX xs ys = sameX (Exs.drop k xs) (Exs.drop k ys))) (fun i _ => m - (intOf i).toNat)
    case atStart => exact ⟨0, Nat.zero_le _, rfl, ⟨0, rfl⟩, rfl⟩
    case round =>
      obtain ⟨k, hk, rfl, hq, hall⟩ := hrel
      by_cases hlt : k < m
      · obtain ⟨a0, a1, a2, a3, a4, a5, hd⟩ := Exs.drop_cons (show k < xs.len from by rw [HL.out]; exact hlt)
        obtain ⟨b0, b1, b2, b3, b4, b5, hd'⟩ := Exs.drop_cons (show k < ys.len from by rw [← HM.out]; exact hlt)
        obtain ⟨b, o, rfl, hat⟩ := HX.out.2.2 (by rw [HL.out]; omega)
        obtain ⟨b', o', rfl, hat'⟩ := HY.out.2.2 (by rw [← HM.out]; omega)
        have hs : Same B w wr := by obtain ⟨q, hq⟩ := hq.out; rw [hq]; exact same_drewN _ _ _
        obtain ⟨hbB, c0, c1, c2, ⟨A1, cc, c3, hsl⟩, c4, _⟩ := (hat.keep hs).at_ hd
        obtain ⟨hbB', d0, d1, d2, ⟨A2, cc', d3, hsl'⟩, d4, _⟩ := (hat'.keep hs).at_ hd'
        obtain ⟨r, hr⟩ : ∃ r, r = sameX a3 b3 := ⟨_, rfl⟩
        have HC := Lib.hid (fun q => HA.out k a0 a1 a2 a3 a4 a5 b0 b1 b2 b3 b4 b5 hd hd' (wr.drewN q) A1 A2 cc cc' (hsl.keep (same_drewN B wr q)) (hsl'.keep (same_drewN B wr q)))
        have hst := Lib.hid (hall.out.trans (RX_same_step hd hd'))
        rw [← hr] at HC hst
        have hlt' : ((k : Nat) : Int) < (m : Int) := by omega
        have hge : (0 : Int) ≤ ((k : Nat) : Int) := by omega
        clear hd hd' hat hat' hs hall hr hsl hsl'
        cases h0 : a0 == b0
        · have HF := Lib.hid (show sameX xs ys = false from by rw [hst.out, h0]; simp)
          have hn0 : (a0 != b0) = true := by rw [bne, h0]; rfl
          clear hst
          go_wp2_with fail
          go_quiet (fail)
          go_wp2_with fail
          go_ret
          obtain ⟨q, hq⟩ := hq.out
          exact ⟨by rw [HF.out]; rfl, _, by rw [hq, World.drewN_drewN]⟩
        have hn0 : (a0 != b0) = false := by rw [bne, h0]; rfl
        cases h1 : a2 == b2
        · have HF := Lib.hid (show sameX xs ys = false from by rw [hst.out, h1]; simp)
          have hn1 : (a2 != b2) = true := by rw [bne, h1]; rfl
          clear hst
          go_wp2_with fail
          go_quiet (fail)
          go_wp2_with fail
          go_ret
          obtain ⟨q, hq⟩ := hq.out
          exact ⟨by rw [HF.out]; rfl, _, by rw [hq, World.drewN_drewN]⟩
        have hn1 : (a2 != b2) = false := by rw [bne, h1]; rfl
        cases h2 : a1.toList == b1.toList
        · have HF := Lib.hid (show sameX xs ys = false from by rw [hst.out, h2]; simp)
          have hn2 : (a1.toList != b1.toList) = true := by rw [bne, h2]; rfl
          clear hst
          go_wp2_with fail
          go_quiet (fail)
          go_wp2_with fail
          go_ret
          obtain ⟨q, hq⟩ := hq.out
          exact ⟨by rw [HF.out]; rfl, _, by rw [hq, World.drewN_drewN]⟩
        have hn2 : (a1.toList != b1.toList) = false := by rw [bne, h2]; rfl
        cases h3 : a4 == b4
        · have HF := Lib.hid (show sameX xs ys = false from by rw [hst.out, h3]; simp)
          have hn3 : (a4 != b4) = true := by rw [bne, h3]; rfl
          clear hst
          go_wp2_with fail
          go_quiet (fail)
          go_wp2_with fail
          go_ret
          obtain ⟨q, hq⟩ := hq.out
          exact ⟨by rw [HF.out]; rfl, _, by rw [hq, World.drewN_drewN]⟩
        have hn3 : (a4 != b4) = false := by rw [bne, h3]; rfl
        cases r
        · have HF := Lib.hid (show sameX xs ys = false from by rw [hst.out]; simp)
          clear hst
          go_wp2_with fail
          go_quiet ((go_at_call 41; exact quiet_more (HC.out _)))
          go_wp2_with fail
          go_ret
          obtain ⟨q, hq⟩ := hq.out
          exact ⟨by rw [HF.out]; rfl, _, by rw [hq, World.drewN_drewN]⟩
        · have HN := Lib.hid (show sameX xs ys = sameX (Exs.drop (k + 1) xs) (Exs.drop (k + 1) ys) from by rw [hst.out]; simp [h0, h1, h2, h3])
          clear hst
          go_wp2_with fail
          go_quiet ((go_at_call 41; exact quiet_more (HC.out _)))
          go_wp2_with fail
          go_roundw
          case rel => exact ⟨k + 1, by omega, by go_num, by obtain ⟨q, hq⟩ := hq.out; exact ⟨_, by rw [hq, World.drewN_drewN]⟩, HN⟩
          case measure => simp [intOf]; omega
      · have HF := Lib.hid (show sameX xs ys = true from by rw [hall.out, Exs.drop_nil (by rw [HL.out]; omega), Exs.drop_nil (by rw [← HM.out]; omega)]; rfl)
        clear hall
        go_wp2_with fail
        go_ret
        exact ⟨by rw [HF.out]; rfl, hq.out⟩
  · have HF := Lib.hid (RX_same_len hlen)
    have hne : ((xs.len : Int) == (ys.len : Int)) = false := by simp; omega
    have hne' : ((xs.len : Int) != (ys.len : Int)) = true := by simp; omega
    clear hx hy
    go_enter Try.func41, Try.ntmps41
    go_wp2_with fail
    go_ret
    exact ⟨by rw [HF.out]; rfl, 0, rfl⟩
theorem r_same_all (B : Nat) : ∀ xs ys : Exs, RX_same B xs ys
  | .nil, _ => fun i _ _ _ _ _ _ _ _ _ _ _ _ hd => by cases i <;> simp [Exs.drop] at hd
  | .cons .., .nil => fun i _ _ _ _ _ _ _ _ _ _ _ _ _ hd => by cases i <;> simp [Exs.drop] at hd
  | .cons k nm n args at_ rest, .cons k' nm' n' args' at' rest' => fun i _ _ _ _ _ _ _ _ _ _ _ _ hd hd' W A A' c c' hs hs' => by
    cases i with
    | zero =>
      simp only [Exs.drop] at hd hd'
      injection hd with e1 e2 e3 e4 e5 e6
      injection hd' with f1 f2 f3 f4 f5 f6
      subst e1 e2 e3 e4 e5 e6 f1 f2 f3 f4 f5 f6
      exact r_same_one args args' A A' c c' W B hs hs' (r_same_all B args args')
    | succ i =>
      simp only [Exs.drop] at hd hd'
      exact r_same_all B rest rest' i _ _ _ _ _ _ _ _ _ _ _ _ hd hd' W A A' c c' hs hs'
/-- THE CONTRACT -/
theorem r_same_any (xs ys : Exs) (A A' : Option Addr) (c c' : Nat) (w : World) (B : Nat) (hx : ExSl w B xs A c) (hy : ExSl w B ys A' c') :
    Calls Try.prog 41 #[.slice A xs.len c, .slice A' ys.len c'] w (QPost (sameX xs ys) w) := r_same_one xs ys A A' c c' w B hx hy (r_same_all B xs ys)
end Go.Proofs.Ytjeapacohgfpiaa
