/-
  slices.EqualFunc over expressions; flow.alike and flow.exprs: when expressions are the same, but for names and places, or with them.
-/
import Derived.Test.YtjeapacohgfpiaaFlSlices
import Derived.Test.YtjeapacohgfpiaaBase
namespace Go.Proofs.Ytjeapacohgfpiaa
open Go.RowKit Go.Shelf

/-- two lists, one by one -/
def Exs.all2 (q : Int → ByteArray → Int → Exs → Int → Int → ByteArray → Int → Exs → Int → Bool) : Exs → Exs → Bool
  | .nil, .nil => true
  | .cons k nm n args at_ rest, .cons k' nm' n' args' at' rest' => q k nm n args at_ k' nm' n' args' at' && Exs.all2 q rest rest'
  | _, _ => false
theorem Exs.all2_len {q} : ∀ {xs ys : Exs}, xs.len ≠ ys.len → Exs.all2 q xs ys = false
  | .nil, .nil, h => absurd rfl h
  | .nil, .cons .., _ => rfl
  | .cons .., .nil, _ => rfl
  | .cons _ _ _ _ _ r, .cons _ _ _ _ _ r', h => by
    have : r.len ≠ r'.len := fun e => h (by simp [Exs.len, e])
    simp [Exs.all2, Exs.all2_len this]
theorem Exs.all2_drop {q} {xs ys : Exs} {i : Nat} {k nm n args at_ rest k' nm' n' args' at' rest'} (hd : Exs.drop i xs = .cons k nm n args at_ rest) (hd' : Exs.drop i ys = .cons k' nm' n' args' at' rest')
    (hq : q k nm n args at_ k' nm' n' args' at' = true) (h : Exs.all2 q xs ys = Exs.all2 q (Exs.drop i xs) (Exs.drop i ys)) : Exs.all2 q xs ys = Exs.all2 q (Exs.drop (i + 1) xs) (Exs.drop (i + 1) ys) := by
  rw [h, Exs.drop_succ i xs hd, Exs.drop_succ i ys hd', hd, hd']
  simp [Exs.all2, hq]

/-- WHAT A FUNCTION VALUE ANSWERS of each two of some expressions at one place -/
def AsksEx2 (g : Nat) (w : World) (B : Nat) (q : Int → ByteArray → Int → Exs → Int → Int → ByteArray → Int → Exs → Int → Bool) (xs ys : Exs) : Prop :=
  ∀ (i : Nat) (k : Int) (nm : ByteArray) (n : Int) (args : Exs) (at_ : Int) (rest : Exs) (k' : Int) (nm' : ByteArray) (n' : Int) (args' : Exs) (at' : Int) (rest' : Exs),
    Exs.drop i xs = .cons k nm n args at_ rest → Exs.drop i ys = .cons k' nm' n' args' at' rest' →
    ∀ (W : World) (A A' : Option Addr) (c c' : Nat), Below w.heap.size w W → ExSl W B args A c → ExSl W B args' A' c' →
      Calls Try.prog g #[.agg #[.int .u8 k, .string nm, .int .i64 n, .slice A args.len c, .int .i64 at_], .agg #[.int .u8 k', .string nm', .int .i64 n', .slice A' args'.len c', .int .i64 at']] W (BoolPost (q k nm n args at_ k' nm' n' args' at') W)

set_option maxHeartbeats 800000 in
theorem equalEx (q : Int → ByteArray → Int → Exs → Int → Int → ByteArray → Int → Exs → Int → Bool) (xs ys : Exs) (A A' : Option Addr) (c c' : Nat) (g : Nat) (w : World) (B : Nat) (hB : B ≤ w.heap.size)
    (hx : ExSl w B xs A c) (hy : ExSl w B ys A' c') (hent : Enters Try.prog g) (hask : AsksEx2 g w B q xs ys) :
    Calls Try.prog 39 #[.slice A xs.len c, .slice A' ys.len c', .func (.func g) #[] #[]] w (BoolPost (Exs.all2 q xs ys) w) := by
  have hl : xs.len ≤ 9223372036854775807 := Nat.le_trans hx.1 hx.2.1
  have hl' : ys.len ≤ 9223372036854775807 := Nat.le_trans hy.1 hy.2.1
  have HA := Lib.hid hask
  clear hask
  unfold Enters at hent
  by_cases hlen : xs.len = ys.len
  · obtain ⟨m, hm⟩ : ∃ m, m = ys.len := ⟨_, rfl⟩
    have hxm : xs.len = m := hlen.trans hm.symm
    rw [hxm, ← hm]
    rw [← hm] at hl'
    have HM := Lib.hid hm
    have HL := Lib.hid hxm
    clear hlen hm hxm hl
    go_enter Try.func39, Try.ntmps39
    go_wp2
    go_loopw [17] (fun i wr => ∃ k : Nat, k ≤ m ∧ i = .int .i64 k ∧ Below w.heap.size w wr ∧ Hid (Exs.all2 q xs ys = Exs.all2 q (Exs.drop k xs) (Exs.drop k ys))) (fun i _ => m - (intOf i).toNat)
    case atStart => exact ⟨0, Nat.zero_le _, rfl, Below.refl _ _, rfl⟩
    case round =>
      obtain ⟨k, hk, rfl, hb, hall⟩ := hrel
      by_cases hlt : k < m
      · obtain ⟨a0, a1, a2, a3, a4, a5, hd⟩ := Exs.drop_cons (show k < xs.len from by rw [HL.out]; exact hlt)
        obtain ⟨b0, b1, b2, b3, b4, b5, hd'⟩ := Exs.drop_cons (show k < ys.len from by rw [← HM.out]; exact hlt)
        obtain ⟨b, o, rfl, hat⟩ := hx.2.2 (by rw [HL.out]; omega)
        obtain ⟨b', o', rfl, hat'⟩ := hy.2.2 (by rw [← HM.out]; omega)
        obtain ⟨hbB, c0, c1, c2, ⟨A1, cc, c3, hsl⟩, c4, _⟩ := (hat.keep (Same.of hb hB)).at_ hd
        obtain ⟨hbB', d0, d1, d2, ⟨A2, cc', d3, hsl'⟩, d4, _⟩ := (hat'.keep (Same.of hb hB)).at_ hd'
        have hbw : b < wr.heap.size := Nat.lt_of_lt_of_le hbB (Nat.le_trans hB hb.size)
        have hbw' : b' < wr.heap.size := Nat.lt_of_lt_of_le hbB' (Nat.le_trans hB hb.size)
        have hbn : ¬ b' = wr.heap.size := by omega
        have hcall := Lib.hid (fun W hW s1 s2 => HA.out k a0 a1 a2 a3 a4 a5 b0 b1 b2 b3 b4 b5 hd hd' W A1 A2 cc cc' hW s1 s2)
        have H := Lib.hid hd
        have H' := Lib.hid hd'
        have HS := Lib.hid hsl
        have HS' := Lib.hid hsl'
        clear hd hd' hsl hsl' hx hy
        go_wp2_with fail
        have hW1 : Below wr.heap.size wr ((wr.alloc (.cells #[.int .u8 a0, .string a1, .int .i64 a2, .slice A1 a3.len cc, .int .i64 a4] 45)).alloc (.cells #[.int .u8 b0, .string b1, .int .i64 b2, .slice A2 b3.len cc', .int .i64 b4] 45)) :=
          ((Below.refl _ _).alloc (Nat.le_refl _) _).alloc (by simp) _
        have hBr := Nat.le_trans hB hb.size
        have hW2 := hb.trans (hW1.mono hb.size)
        refine (hcall.out _ hW2 (HS.out.keep (Same.of hW1 hBr)) (HS'.out.keep (Same.of hW1 hBr))).mono ?_
        rintro _ w1 ⟨rfl, hb1⟩
        have hb2 : Below w.heap.size w w1 := hW2.trans (hb1.mono hW2.size)
        cases hp : q a0 a1 a2 a3 a4 b0 b1 b2 b3 b4
        · have hfin : Exs.all2 q xs ys = false := by rw [hall.out, H.out, H'.out]; simp [Exs.all2, hp]
          have HF := Lib.hid hfin
          clear hp hall hcall c0 c1 c2 c3 c4 d0 d1 d2 d3 d4 hb1 hW1 hW2 hfin
          go_wp2_with fail
          go_ret
          exact ⟨by rw [HF.out]; rfl, hb2⟩
        · have hall' := Lib.hid (Exs.all2_drop H.out H'.out hp hall.out)
          clear hp hall hcall c0 c1 c2 c3 c4 d0 d1 d2 d3 d4 hb1 hW1 hW2
          go_wp2_with fail
          go_roundw
          case rel => exact ⟨k + 1, by omega, by go_num, hb2, hall'⟩
          case measure => simp [intOf]; omega
      · have hfin : Exs.all2 q xs ys = true := by rw [hall.out, Exs.drop_nil (by rw [HL.out]; omega), Exs.drop_nil (by rw [← HM.out]; omega)]; rfl
        have HF := Lib.hid hfin
        clear hfin hall
        go_wp2_with fail
        go_ret
        exact ⟨by rw [HF.out]; rfl, hb⟩
  · have HF := Lib.hid (Exs.all2_len (q := q) hlen)
    have hne : ((xs.len : Int) == (ys.len : Int)) = false := by simp; omega
    have hne' : ((xs.len : Int) != (ys.len : Int)) = true := by simp; omega
    clear hx hy
    go_enter Try.func39, Try.ntmps39
    go_wp2_with fail
    go_ret
    exact ⟨by rw [HF.out]; rfl, Below.refl _ _⟩

/-- alike: but for names and places -/
def alikeX : Exs → Exs → Bool
  | .nil, .nil => true
  | .cons k _ n args _ rest, .cons k' _ n' args' _ rest' => (k == k') && (n == n') && alikeX args args' && alikeX rest rest'
  | _, _ => false
theorem alike_all2 : ∀ xs ys : Exs, Exs.all2 (fun k _ n args _ k' _ n' args' _ => (k == k') && (n == n') && alikeX args args') xs ys = alikeX xs ys
  | .nil, .nil => rfl
  | .nil, .cons .. => rfl
  | .cons .., .nil => rfl
  | .cons k nm n args at_ rest, .cons k' nm' n' args' at' rest' => by simp only [Exs.all2, alikeX, alike_all2 rest rest']
/-- the same, place for place -/
def sameX : Exs → Exs → Bool
  | .nil, .nil => true
  | .cons k nm n args at_ rest, .cons k' nm' n' args' at' rest' => (k == k') && (n == n') && (nm.toList == nm'.toList) && (at_ == at') && sameX args args' && sameX rest rest'
  | _, _ => false
theorem same_all2 : ∀ xs ys : Exs, Exs.all2 (fun k nm n args at_ k' nm' n' args' at' => (k == k') && (n == n') && (nm.toList == nm'.toList) && (at_ == at') && sameX args args') xs ys = sameX xs ys
  | .nil, .nil => rfl
  | .nil, .cons .. => rfl
  | .cons .., .nil => rfl
  | .cons k nm n args at_ rest, .cons k' nm' n' args' at' rest' => by simp only [Exs.all2, sameX, same_all2 rest rest']

set_option maxHeartbeats 800000 in
theorem alike_one (k : Int) (nm : ByteArray) (n : Int) (at_ : Int) (A : Option Addr) (l c : Nat) (k' : Int) (nm' : ByteArray) (n' : Int) (at' : Int) (A' : Option Addr) (l' c' : Nat) (r : Bool) (w : World)
    (hc : ∀ W, Below w.heap.size w W → Calls Try.prog 39 #[.slice A l c, .slice A' l' c', .func (.func 76) #[] #[]] W (BoolPost r W)) :
    Calls Try.prog 76 #[exV k nm n A l c at_, exV k' nm' n' A' l' c' at'] w (BoolPost ((k == k') && (n == n') && r) w) := by
  have HC := Lib.hid hc
  clear hc
  unfold exV
  have hbb : ∀ c0 c1 : Array Value, Below w.heap.size w ((w.alloc (.cells c0 45)).alloc (.cells c1 45)) := fun _ _ => ((Below.refl _ _).alloc (Nat.le_refl _) _).alloc (by simp) _
  have HBB := Lib.hid hbb
  clear hbb
  cases h1 : k == k'
  · go_enter Try.func76, Try.ntmps76
    go_wp2_with fail
    go_ret
    exact ⟨rfl, HBB.out _ _⟩
  cases h2 : n == n'
  · go_enter Try.func76, Try.ntmps76
    go_wp2_with fail
    go_ret
    exact ⟨rfl, HBB.out _ _⟩
  go_enter Try.func76, Try.ntmps76
  go_wp2_with fail
  refine (HC.out _ (HBB.out _ _)).mono ?_
  rintro e w1 ⟨rfl, hb1⟩
  go_wp2_with fail
  go_ret
  exact ⟨rfl, (HBB.out _ _).trans (hb1.mono (HBB.out _ _).size)⟩
set_option maxHeartbeats 800000 in
theorem exprs_one (k : Int) (nm : ByteArray) (n : Int) (at_ : Int) (A : Option Addr) (l c : Nat) (k' : Int) (nm' : ByteArray) (n' : Int) (at' : Int) (A' : Option Addr) (l' c' : Nat) (r : Bool) (w : World)
    (hc : ∀ W, Below w.heap.size w W → Calls Try.prog 39 #[.slice A l c, .slice A' l' c', .func (.func 40) #[] #[]] W (BoolPost r W)) :
    Calls Try.prog 40 #[exV k nm n A l c at_, exV k' nm' n' A' l' c' at'] w (BoolPost ((k == k') && (n == n') && (nm.toList == nm'.toList) && (at_ == at') && r) w) := by
  have HC := Lib.hid hc
  clear hc
  unfold exV
  have hbb : ∀ c0 c1 : Array Value, Below w.heap.size w ((w.alloc (.cells c0 45)).alloc (.cells c1 45)) := fun _ _ => ((Below.refl _ _).alloc (Nat.le_refl _) _).alloc (by simp) _
  have HBB := Lib.hid hbb
  clear hbb
  cases h1 : k == k'
  · go_enter Try.func40, Try.ntmps40
    go_wp2_with fail
    go_ret
    exact ⟨rfl, HBB.out _ _⟩
  cases h2 : n == n'
  · go_enter Try.func40, Try.ntmps40
    go_wp2_with fail
    go_ret
    exact ⟨rfl, HBB.out _ _⟩
  cases h3 : nm.toList == nm'.toList
  · go_enter Try.func40, Try.ntmps40
    go_wp2_with fail
    go_ret
    exact ⟨rfl, HBB.out _ _⟩
  cases h4 : at_ == at'
  · go_enter Try.func40, Try.ntmps40
    go_wp2_with fail
    go_ret
    exact ⟨rfl, HBB.out _ _⟩
  go_enter Try.func40, Try.ntmps40
  go_wp2_with fail
  refine (HC.out _ (HBB.out _ _)).mono ?_
  rintro e w1 ⟨rfl, hb1⟩
  go_wp2_with fail
  go_ret
  exact ⟨rfl, (HBB.out _ _).trans (hb1.mono (HBB.out _ _).size)⟩

theorem alike_asks (B : Nat) : ∀ (xs ys : Exs) (w : World), B ≤ w.heap.size → AsksEx2 76 w B (fun k _ n args _ k' _ n' args' _ => (k == k') && (n == n') && alikeX args args') xs ys
  | .nil, _, _, _ => fun i _ _ _ _ _ _ _ _ _ _ _ _ hd => by cases i <;> simp [Exs.drop] at hd
  | .cons .., .nil, _, _ => fun i _ _ _ _ _ _ _ _ _ _ _ _ _ hd => by cases i <;> simp [Exs.drop] at hd
  | .cons k nm n args at_ rest, .cons k' nm' n' args' at' rest', w, hB => fun i _ _ _ _ _ _ _ _ _ _ _ _ hd hd' W A A' c c' hb hs hs' => by
    cases i with
    | zero =>
      simp only [Exs.drop] at hd hd'
      injection hd with e1 e2 e3 e4 e5 e6
      injection hd' with f1 f2 f3 f4 f5 f6
      subst e1 e2 e3 e4 e5 e6 f1 f2 f3 f4 f5 f6
      refine alike_one k nm n at_ A args.len c k' nm' n' at' A' args'.len c' _ W fun W2 hb2 => ?_
      have hBW := Nat.le_trans hB hb.size
      have := equalEx (fun k _ n args _ k' _ n' args' _ => (k == k') && (n == n') && alikeX args args') args args' A A' c c' 76 W2 B (Nat.le_trans hBW hb2.size) (hs.keep (Same.of hb2 hBW)) (hs'.keep (Same.of hb2 hBW))
        (enters_of Try.func76 (by kernel_rfl) rfl) (alike_asks B args args' W2 (Nat.le_trans hBW hb2.size))
      rw [alike_all2] at this
      exact this
    | succ i =>
      simp only [Exs.drop] at hd hd'
      exact alike_asks B rest rest' w hB i _ _ _ _ _ _ _ _ _ _ _ _ hd hd' W A A' c c' hb hs hs'
theorem exprs_asks (B : Nat) : ∀ (xs ys : Exs) (w : World), B ≤ w.heap.size → AsksEx2 40 w B (fun k nm n args at_ k' nm' n' args' at' => (k == k') && (n == n') && (nm.toList == nm'.toList) && (at_ == at') && sameX args args') xs ys
  | .nil, _, _, _ => fun i _ _ _ _ _ _ _ _ _ _ _ _ hd => by cases i <;> simp [Exs.drop] at hd
  | .cons .., .nil, _, _ => fun i _ _ _ _ _ _ _ _ _ _ _ _ _ hd => by cases i <;> simp [Exs.drop] at hd
  | .cons k nm n args at_ rest, .cons k' nm' n' args' at' rest', w, hB => fun i _ _ _ _ _ _ _ _ _ _ _ _ hd hd' W A A' c c' hb hs hs' => by
    cases i with
    | zero =>
      simp only [Exs.drop] at hd hd'
      injection hd with e1 e2 e3 e4 e5 e6
      injection hd' with f1 f2 f3 f4 f5 f6
      subst e1 e2 e3 e4 e5 e6 f1 f2 f3 f4 f5 f6
      refine exprs_one k nm n at_ A args.len c k' nm' n' at' A' args'.len c' _ W fun W2 hb2 => ?_
      have hBW := Nat.le_trans hB hb.size
      have := equalEx (fun k nm n args at_ k' nm' n' args' at' => (k == k') && (n == n') && (nm.toList == nm'.toList) && (at_ == at') && sameX args args') args args' A A' c c' 40 W2 B (Nat.le_trans hBW hb2.size) (hs.keep (Same.of hb2 hBW)) (hs'.keep (Same.of hb2 hBW))
        (enters_of Try.func40 (by kernel_rfl) rfl) (exprs_asks B args args' W2 (Nat.le_trans hBW hb2.size))
      rw [same_all2] at this
      exact this
    | succ i =>
      simp only [Exs.drop] at hd hd'
      exact exprs_asks B rest rest' w hB i _ _ _ _ _ _ _ _ _ _ _ _ hd hd' W A A' c c' hb hs hs'

/-- THE CONTRACT of slices.EqualFunc at flow.alike -/
theorem alike_any (xs ys : Exs) (A A' : Option Addr) (c c' : Nat) (w : World) (B : Nat) (hB : B ≤ w.heap.size) (hx : ExSl w B xs A c) (hy : ExSl w B ys A' c') :
    Calls Try.prog 39 #[.slice A xs.len c, .slice A' ys.len c', .func (.func 76) #[] #[]] w (BoolPost (alikeX xs ys) w) := by
  have := equalEx _ xs ys A A' c c' 76 w B hB hx hy (enters_of Try.func76 (by kernel_rfl) rfl) (alike_asks B xs ys w hB)
  rw [alike_all2] at this
  exact this
theorem same_any (xs ys : Exs) (A A' : Option Addr) (c c' : Nat) (w : World) (B : Nat) (hB : B ≤ w.heap.size) (hx : ExSl w B xs A c) (hy : ExSl w B ys A' c') :
    Calls Try.prog 39 #[.slice A xs.len c, .slice A' ys.len c', .func (.func 40) #[] #[]] w (BoolPost (sameX xs ys) w) := by
  have := equalEx _ xs ys A A' c c' 40 w B hB hx hy (enters_of Try.func40 (by kernel_rfl) rfl) (exprs_asks B xs ys w hB)
  rw [same_all2] at this
  exact this
end Go.Proofs.Ytjeapacohgfpiaa
