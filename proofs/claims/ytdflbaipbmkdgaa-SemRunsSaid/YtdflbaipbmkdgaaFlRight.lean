/-
  flow.opposite and flow.right: whether the edges out of a node may be.
-/
import Derived.Test.YtdflbaipbmkdgaaJnEdge
import Derived.StillTailTactics
import Derived.BigQuiet
namespace Go.Proofs.Ytdflbaipbmkdgaa
open Go.RowKit Go.Shelf

/-- the opposite comparison -/
def oppC (k : Int) : Int := if k = 3 then 6 else if k = 4 then 5 else if k = 5 then 4 else if k = 6 then 3 else if k = 7 then 8 else if k = 8 then 7 else 0
theorem opp_any (k : Int) (w : World) (h0 : 3 ≤ k) (h1 : k ≤ 8) : Calls Try.prog 47 #[.int .u8 k] w fun e w' => e = .returned (.int .u8 (oppC k)) ∧ w' = w := by
  have hk : k = 3 ∨ k = 4 ∨ k = 5 ∨ k = 6 ∨ k = 7 ∨ k = 8 := by omega
  have i3 : ∀ w, (Instr.index 105 (.agg #[.int .u8 0, .int .u8 0, .int .u8 0, .int .u8 6, .int .u8 5, .int .u8 4, .int .u8 3, .int .u8 8, .int .u8 7]) (.int .u8 3)).run Try.prog w = .ok (.int .u8 6) w := fun _ => by kernel_rfl
  have i4 : ∀ w, (Instr.index 105 (.agg #[.int .u8 0, .int .u8 0, .int .u8 0, .int .u8 6, .int .u8 5, .int .u8 4, .int .u8 3, .int .u8 8, .int .u8 7]) (.int .u8 4)).run Try.prog w = .ok (.int .u8 5) w := fun _ => by kernel_rfl
  have i5 : ∀ w, (Instr.index 105 (.agg #[.int .u8 0, .int .u8 0, .int .u8 0, .int .u8 6, .int .u8 5, .int .u8 4, .int .u8 3, .int .u8 8, .int .u8 7]) (.int .u8 5)).run Try.prog w = .ok (.int .u8 4) w := fun _ => by kernel_rfl
  have i6 : ∀ w, (Instr.index 105 (.agg #[.int .u8 0, .int .u8 0, .int .u8 0, .int .u8 6, .int .u8 5, .int .u8 4, .int .u8 3, .int .u8 8, .int .u8 7]) (.int .u8 6)).run Try.prog w = .ok (.int .u8 3) w := fun _ => by kernel_rfl
  have i7 : ∀ w, (Instr.index 105 (.agg #[.int .u8 0, .int .u8 0, .int .u8 0, .int .u8 6, .int .u8 5, .int .u8 4, .int .u8 3, .int .u8 8, .int .u8 7]) (.int .u8 7)).run Try.prog w = .ok (.int .u8 8) w := fun _ => by kernel_rfl
  have i8 : ∀ w, (Instr.index 105 (.agg #[.int .u8 0, .int .u8 0, .int .u8 0, .int .u8 6, .int .u8 5, .int .u8 4, .int .u8 3, .int .u8 8, .int .u8 7]) (.int .u8 8)).run Try.prog w = .ok (.int .u8 7) w := fun _ => by kernel_rfl
  rcases hk with rfl | rfl | rfl | rfl | rfl | rfl
  all_goals
    go_enter Try.func47, Try.ntmps47
    go_wp2
    go_ret
    exact ⟨rfl, rfl⟩

/-- may the edges out of a node be? -/
def rightB : List Ed → Bool
  | [a] => !(a.kind == 6)
  | [a, b] => (a.kind == 6) && (b.kind == 6) && (b.cmp == oppC a.cmp) && alikeX a.args b.args
  | _ => false

set_option maxHeartbeats 1600000 in
theorem right_1 (a : Ed) (A : Option Addr) (c : Nat) (w : World) (B : Nat) (hx : EdSl w B [a] A c) :
    Calls Try.prog 27 #[.slice A 1 c] w fun e w' => e = .returned (.bool (rightB [a])) ∧ w = w' := by
  obtain ⟨b, o, rfl, hat⟩ := hx.2.2 (by simp)
  obtain ⟨hbB, c0, c1, c2, c3, c4, c5, c6, hok⟩ := hat.at_ (i := 0) (e := a) rfl
  simp only [Nat.zero_mul, Nat.add_zero] at c0 c1 c2 c3 c4 c6
  clear hat hx c5
  go_enter Try.func27, Try.ntmps27
  go_wp2
  go_ret
  exact ⟨rfl, rfl⟩
set_option maxHeartbeats 1600000 in
theorem right_n (l : Nat) (A : Option Addr) (c : Nat) (w : World) (h1 : ¬ l = 1) (h2 : ¬ l = 2) :
    Calls Try.prog 27 #[.slice A l c] w fun e w' => e = .returned (.bool false) ∧ Below w.heap.size w w' := by
  have b1 : ((l : Int) == 1) = false := by simp; omega
  have b2 : ((l : Int) == 2) = false := by simp; omega
  clear h1 h2
  go_enter Try.func27, Try.ntmps27
  go_wp2
  go_quiet (fail)
  go_wp2
  go_ret
  exact ⟨rfl, below_drewN (Below.refl _ _) _⟩
set_option maxRecDepth 100000 in
set_option maxHeartbeats 1600000 in
theorem right_2 (a b : Ed) (A : Option Addr) (c : Nat) (w : World) (B : Nat) (hB : B ≤ w.heap.size) (hx : EdSl w B [a, b] A c) (hcm : a.kind = 6 → 3 ≤ a.cmp ∧ a.cmp ≤ 8) :
    Calls Try.prog 27 #[.slice A 2 c] w (BoolPost (rightB [a, b]) w) := by
  obtain ⟨g, o, rfl, hat⟩ := hx.2.2 (by simp)
  obtain ⟨hbB, c0, c1, c2, c3, c4, ⟨A1, k1, c5, s1⟩, c6, hok⟩ := hat.at_ (i := 0) (e := a) rfl
  obtain ⟨hbB', d0, d1, d2, d3, d4, ⟨A2, k2, d5, s2⟩, d6, hok'⟩ := hat.at_ (i := 1) (e := b) rfl
  simp only [Nat.zero_mul, Nat.add_zero, Nat.one_mul] at c0 c1 c2 c3 c4 c5 c6 d0 d1 d2 d3 d4 d5 d6
  clear hat hx
  cases h1 : a.kind == 6
  · have HF := Lib.hid (show rightB [a, b] = false from by simp only [rightB, h1]; rfl)
    clear hcm s1 s2 hok hok'
    go_enter Try.func27, Try.ntmps27
    go_wp2
    go_quiet (fail)
    go_wp2
    go_ret
    exact ⟨by rw [HF.out]; rfl, below_drewN (Below.refl _ _) _⟩
  cases h2 : b.kind == 6
  · have HF := Lib.hid (show rightB [a, b] = false from by simp only [rightB, h1, h2]; rfl)
    clear hcm s1 s2 hok hok'
    go_enter Try.func27, Try.ntmps27
    go_wp2
    go_quiet (fail)
    go_wp2
    go_ret
    exact ⟨by rw [HF.out]; rfl, below_drewN (Below.refl _ _) _⟩
  obtain ⟨m0, m1⟩ := hcm (eq_of_beq h1)
  cases h3 : b.cmp == oppC a.cmp
  · have HF := Lib.hid (show rightB [a, b] = false from by simp only [rightB, h1, h2, h3]; rfl)
    clear hcm s1 s2 hok hok'
    go_enter Try.func27, Try.ntmps27
    go_wp2
    go_quiet ((go_at_call 47; exact Calls.quiet_of_same (opp_any _ _ m0 m1)))
    go_wp2
    go_ret
    exact ⟨by rw [HF.out]; rfl, below_drewN (Below.refl _ _) _⟩
  have HF := Lib.hid (show rightB [a, b] = alikeX a.args b.args from by simp only [rightB, h1, h2, h3]; rfl)
  have S1 := Lib.hid s1
  have S2 := Lib.hid s2
  have HO := Lib.hid (fun w => opp_any a.cmp w m0 m1)
  clear hcm s1 s2 hok hok'
  go_enter Try.func27, Try.ntmps27
  go_wp2
  refine wp_region_still_tail 44 (by kernel_rfl) (by kernel_rfl) ?_
  simp only [List.take_succ_cons, List.take_zero, List.drop_succ_cons, List.drop_zero]
  repeat still_step
  still_call (HO.out _)
  repeat still_step
  try refine wpStill_nil ?_
  go_wp2_with fail
  have hbd : Below w.heap.size w w.drew := (Below.refl _ _).drew
  refine (alike_any a.args b.args A1 A2 k1 k2 w.drew B hB (S1.out.keep (Same.of hbd hB)) (S2.out.keep (Same.of hbd hB))).mono ?_
  rintro e w1 ⟨rfl, hb1⟩
  go_wp2_with fail
  go_ret
  exact ⟨by rw [HF.out]; rfl, hbd.trans hb1⟩
/-- THE CONTRACT of flow.right -/
theorem right_any (l : List Ed) (A : Option Addr) (c : Nat) (w : World) (B : Nat) (hB : B ≤ w.heap.size) (hx : EdSl w B l A c) (hcm : ∀ a ∈ l, a.kind = 6 → 3 ≤ a.cmp ∧ a.cmp ≤ 8) :
    Calls Try.prog 27 #[.slice A l.length c] w (BoolPost (rightB l) w) := by
  match l, hx, hcm with
  | [], _, _ => exact right_n 0 A c w (by omega) (by omega)
  | [a], hx, _ => exact (right_1 a A c w B hx).mono fun _ _ h => ⟨h.1, h.2 ▸ Below.refl _ _⟩
  | [a, b], hx, hcm => exact right_2 a b A c w B hB hx (hcm a (by simp))
  | a :: b :: d :: r, hx, _ => exact right_n _ A c w (by simp) (by simp)
end Go.Proofs.Ytdflbaipbmkdgaa
