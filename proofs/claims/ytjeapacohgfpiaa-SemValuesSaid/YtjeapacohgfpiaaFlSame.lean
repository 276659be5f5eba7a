/-
  flow.Same: when graphs are the same.
-/
import Derived.Test.YtjeapacohgfpiaaFlAlike
import Derived.Test.YtjeapacohgfpiaaFlCheck
import Derived.Test.YtjeapacohgfpiaaShelf
namespace Go.Proofs.Ytjeapacohgfpiaa
open Go.RowKit Go.Shelf

theorem ints_eq (l l' : List Int) (A A' : Option Addr) (c c' : Nat) (w : World) (B : Nat) (hx : IsSl w B l A c) (hy : IsSl w B l' A' c') :
    Calls Try.prog 36 #[.slice A l.length c, .slice A' l'.length c'] w (BoolPost (l == l') w) := by
  have hl := Nat.le_trans hx.1 hx.2.1
  have hl' := Nat.le_trans hy.1 hy.2.1
  by_cases hlen : l.length = l'.length
  · by_cases h0 : l.length = 0
    · have e1 : l = [] := List.length_eq_zero_iff.1 h0
      have e2 : l' = [] := List.length_eq_zero_iff.1 (hlen ▸ h0)
      subst e1; subst e2
      exact (Try.slices_Equal_int_empty A A' c 0 c' w (by omega)).mono fun _ _ h => ⟨h.1, h.2 ▸ Below.refl _ _⟩
    · obtain ⟨b, o, rfl, hat⟩ := hx.2.2 (by omega)
      obtain ⟨b', o', rfl, hat'⟩ := hy.2.2 (by omega)
      refine (Try.slices_Equal_int b o l.length c b' o' l'.length c' l l' w (Nat.le_refl _) (Nat.le_refl _) hl hl' (fun j hj => ?_) (fun j hj => ?_)).mono fun _ _ h => ⟨by simpa using h.1, by obtain ⟨q, rfl⟩ := h.2; exact below_drewN (Below.refl _ _) _⟩
      · rw [(hat.2 j _ (List.getElem?_eq_getElem hj)).1]
        simp [List.getD, hj]
      · rw [(hat'.2 j _ (List.getElem?_eq_getElem hj)).1]
        simp [List.getD, hj]
  · have hne : (l == l') = false := by
      rw [beq_eq_false_iff_ne]
      exact fun e => hlen (by rw [e])
    rw [hne]
    exact (Try.slices_Equal_int_lens A A' l.length c l'.length c' w hlen).mono fun _ _ h => ⟨h.1, h.2 ▸ Below.refl _ _⟩

def sameEd (a b : Ed) : Bool := (a.from_ == b.from_) && (a.to_ == b.to_) && (a.at_ == b.at_) && (a.kind == b.kind) && (a.n == b.n) && (a.cmp == b.cmp) && sameX a.args b.args
def all2E (q : Ed → Ed → Bool) : List Ed → List Ed → Bool
  | [], [] => true
  | a :: l, b :: l' => q a b && all2E q l l'
  | _, _ => false
theorem all2E_len {q} : ∀ {xs ys : List Ed}, xs.length ≠ ys.length → all2E q xs ys = false
  | [], [], h => absurd rfl h
  | [], _ :: _, _ => rfl
  | _ :: _, [], _ => rfl
  | _ :: r, _ :: r', h => by
    have : r.length ≠ r'.length := fun e => h (by simp [e])
    simp [all2E, all2E_len this]
theorem all2E_drop {q} {xs ys : List Ed} {i : Nat} {a b : Ed} (ha : xs[i]? = some a) (hb : ys[i]? = some b) : all2E q (xs.drop i) (ys.drop i) = (q a b && all2E q (xs.drop (i + 1)) (ys.drop (i + 1))) := by
  obtain ⟨hi, rfl⟩ := List.getElem?_eq_some_iff.1 ha
  obtain ⟨hi', rfl⟩ := List.getElem?_eq_some_iff.1 hb
  rw [List.drop_eq_getElem_cons hi, List.drop_eq_getElem_cons hi']
  rfl

set_option maxRecDepth 100000 in
set_option maxHeartbeats 1600000 in
theorem same_one (a b : Ed) (A A' : Option Addr) (c c' : Nat) (w : World) (B : Nat) (hB : B ≤ w.heap.size) (hx : ExSl w B a.args A c) (hy : ExSl w B b.args A' c') :
    Calls Try.prog 38 #[edV a A c, edV b A' c'] w (BoolPost (sameEd a b) w) := by
  obtain ⟨f, t, k, n, cm, args, at_⟩ := a
  obtain ⟨f', t', k', n', cm', args', at'⟩ := b
  have HX := Lib.hid hx
  have HY := Lib.hid hy
  clear hx hy
  unfold edV sameEd
  simp only at HX HY ⊢
  go_enter Try.func38, Try.ntmps38
  go_upto_region 1 with fail
  go_cut [5, 6] (fun s5 s6 wx => ∃ P Q : Nat, s5 = .pointer (some ⟨P, 0, none⟩) ∧ s6 = .pointer (some ⟨Q, 0, none⟩) ∧ Below w.heap.size w wx ∧
    wx.cell? ⟨w.heap.size, 0, none⟩ = some (.int .i64 f) ∧ wx.cell? ⟨w.heap.size, 1, none⟩ = some (.int .i64 t) ∧ wx.cell? ⟨w.heap.size, 6, none⟩ = some (.int .i64 at_) ∧
    wx.cell? ⟨w.heap.size + 1, 0, none⟩ = some (.int .i64 f') ∧ wx.cell? ⟨w.heap.size + 1, 1, none⟩ = some (.int .i64 t') ∧ wx.cell? ⟨w.heap.size + 1, 6, none⟩ = some (.int .i64 at') ∧
    wx.cell? ⟨P, 0, none⟩ = some (.int .u8 k) ∧ wx.cell? ⟨P, 1, none⟩ = some (.int .i64 n) ∧ wx.cell? ⟨P, 2, none⟩ = some (.int .u8 cm) ∧ wx.cell? ⟨P, 3, none⟩ = some (.slice A args.len c) ∧
    wx.cell? ⟨Q, 0, none⟩ = some (.int .u8 k') ∧ wx.cell? ⟨Q, 1, none⟩ = some (.int .i64 n') ∧ wx.cell? ⟨Q, 2, none⟩ = some (.int .u8 cm') ∧ wx.cell? ⟨Q, 3, none⟩ = some (.slice A' args'.len c'))
  case first =>
    go_region
    all_goals
      go_wp2_with fail
      go_meet
      refine ⟨_, _, rfl, rfl, (((((Below.refl _ _).alloc (Nat.le_refl _) _).alloc (by simp) _).alloc (by simp <;> omega) _).alloc (by simp <;> omega) _).drew, (cells4 w _ _ _ _ _ _ _ _ 0).1, (cells4 w _ _ _ _ _ _ _ _ 1).1, (cells4 w _ _ _ _ _ _ _ _ 6).1, (cells4 w _ _ _ _ _ _ _ _ 0).2.1, (cells4 w _ _ _ _ _ _ _ _ 1).2.1, (cells4 w _ _ _ _ _ _ _ _ 6).2.1, ?_⟩
      first
        | exact ⟨(cells4 w _ _ _ _ _ _ _ _ 0).2.2.1, (cells4 w _ _ _ _ _ _ _ _ 1).2.2.1, (cells4 w _ _ _ _ _ _ _ _ 2).2.2.1, (cells4 w _ _ _ _ _ _ _ _ 3).2.2.1, (cells4 w _ _ _ _ _ _ _ _ 0).2.2.2, (cells4 w _ _ _ _ _ _ _ _ 1).2.2.2, (cells4 w _ _ _ _ _ _ _ _ 2).2.2.2, (cells4 w _ _ _ _ _ _ _ _ 3).2.2.2⟩
        | exact ⟨(cells4 w _ _ _ _ _ _ _ _ 0).2.2.2, (cells4 w _ _ _ _ _ _ _ _ 1).2.2.2, (cells4 w _ _ _ _ _ _ _ _ 2).2.2.2, (cells4 w _ _ _ _ _ _ _ _ 3).2.2.2, (cells4 w _ _ _ _ _ _ _ _ 0).2.2.1, (cells4 w _ _ _ _ _ _ _ _ 1).2.2.1, (cells4 w _ _ _ _ _ _ _ _ 2).2.2.1, (cells4 w _ _ _ _ _ _ _ _ 3).2.2.1⟩
  case rest =>
    obtain ⟨P, Q, rfl, rfl, hbw, f0, f1, f6, e0, e1, e6, p0, p1, p2, p3, q0, q1, q2, q3⟩ := hcut
    have HBW := Lib.hid hbw
    clear hbw
    cases h1 : f == f'
    · go_wp2_with fail
      go_ret
      exact ⟨by rw [h1]; rfl, HBW.out⟩
    cases h2 : t == t'
    · go_wp2_with fail
      go_ret
      exact ⟨by rw [h1, h2]; rfl, HBW.out⟩
    cases h3 : at_ == at'
    · go_wp2_with fail
      go_ret
      exact ⟨by rw [h1, h2, h3]; rfl, HBW.out⟩
    cases h4 : k == k'
    · go_wp2_with fail
      go_ret
      exact ⟨by rw [h1, h2, h3, h4]; rfl, HBW.out⟩
    cases h5 : n == n'
    · go_wp2_with fail
      go_ret
      exact ⟨by rw [h1, h2, h3, h4, h5]; rfl, HBW.out⟩
    cases h6 : cm == cm'
    · go_wp2_with fail
      go_ret
      exact ⟨by rw [h1, h2, h3, h4, h5, h6]; rfl, HBW.out⟩
    go_wp2_with fail
    refine (same_any args args' A A' c c' _ B (Nat.le_trans hB HBW.out.size) (HX.out.keep (Same.of HBW.out hB)) (HY.out.keep (Same.of HBW.out hB))).mono ?_
    rintro _ w1 ⟨rfl, hb1⟩
    go_wp2_with fail
    go_ret
    exact ⟨by rw [h1, h2, h3, h4, h5, h6]; rfl, HBW.out.trans (hb1.mono HBW.out.size)⟩

set_option maxHeartbeats 800000 in
theorem equalEd (xs ys : List Ed) (A A' : Option Addr) (c c' : Nat) (w : World) (B : Nat) (hB : B ≤ w.heap.size) (hx : EdSl w B xs A c) (hy : EdSl w B ys A' c') :
    Calls Try.prog 37 #[.slice A xs.length c, .slice A' ys.length c', .func (.func 38) #[] #[]] w (BoolPost (all2E sameEd xs ys) w) := by
  have hl : xs.length ≤ 9223372036854775807 := Nat.le_trans hx.1 hx.2.1
  have hl' : ys.length ≤ 9223372036854775807 := Nat.le_trans hy.1 hy.2.1
  by_cases hlen : xs.length = ys.length
  · obtain ⟨m, hm⟩ : ∃ m, m = ys.length := ⟨_, rfl⟩
    have hxm : xs.length = m := hlen.trans hm.symm
    rw [hxm, ← hm]
    rw [← hm] at hl'
    have HM := Lib.hid hm
    have HL := Lib.hid hxm
    clear hlen hm hxm hl
    go_enter Try.func37, Try.ntmps37
    go_wp2
    go_loopw [17] (fun i wr => ∃ k : Nat, k ≤ m ∧ i = .int .i64 k ∧ Below w.heap.size w wr ∧ Hid (all2E sameEd xs ys = all2E sameEd (xs.drop k) (ys.drop k))) (fun i _ => m - (intOf i).toNat)
    case atStart => exact ⟨0, Nat.zero_le _, rfl, Below.refl _ _, rfl⟩
    case round =>
      obtain ⟨k, hk, rfl, hb, hall⟩ := hrel
      by_cases hlt : k < m
      · obtain ⟨a, hd⟩ : ∃ a, xs[k]? = some a := ⟨_, List.getElem?_eq_getElem (by rw [HL.out]; exact hlt)⟩
        obtain ⟨a', hd'⟩ : ∃ a, ys[k]? = some a := ⟨_, List.getElem?_eq_getElem (by rw [← HM.out]; exact hlt)⟩
        obtain ⟨b, o, rfl, hat⟩ := hx.2.2 (by rw [HL.out]; omega)
        obtain ⟨b', o', rfl, hat'⟩ := hy.2.2 (by rw [← HM.out]; omega)
        obtain ⟨hbB, c0, c1, c2, c3, c4, ⟨A1, cc, c5, hsl⟩, c6, _⟩ := (hat.keep (Same.of hb hB)).at_ hd
        obtain ⟨hbB', d0, d1, d2, d3, d4, ⟨A2, cc', d5, hsl'⟩, d6, _⟩ := (hat'.keep (Same.of hb hB)).at_ hd'
        have hbw : b < wr.heap.size := Nat.lt_of_lt_of_le hbB (Nat.le_trans hB hb.size)
        have hbw' : b' < wr.heap.size := Nat.lt_of_lt_of_le hbB' (Nat.le_trans hB hb.size)
        have hbn : ¬ b' = wr.heap.size := by omega
        have hcall := fun W hW s1 s2 => same_one a a' A1 A2 cc cc' W B hW s1 s2
        unfold edV at hcall
        have HCALL := Lib.hid hcall
        have hst := hall.out
        rw [all2E_drop hd hd'] at hst
        have HST := Lib.hid hst
        have HS := Lib.hid hsl
        have HS' := Lib.hid hsl'
        clear hd hd' hsl hsl' hx hy hcall hst hall
        go_wp2_with fail
        have hW1 : Below wr.heap.size wr ((wr.alloc (.cells #[.int .i64 a.from_, .int .i64 a.to_, .int .u8 a.kind, .int .i64 a.n, .int .u8 a.cmp, .slice A1 a.args.len cc, .int .i64 a.at_] 49)).alloc (.cells #[.int .i64 a'.from_, .int .i64 a'.to_, .int .u8 a'.kind, .int .i64 a'.n, .int .u8 a'.cmp, .slice A2 a'.args.len cc', .int .i64 a'.at_] 49)) :=
          ((Below.refl _ _).alloc (Nat.le_refl _) _).alloc (by simp) _
        have hBr := Nat.le_trans hB hb.size
        have hW2 := hb.trans (hW1.mono hb.size)
        refine (HCALL.out _ (Nat.le_trans hB hW2.size) (HS.out.keep (Same.of hW1 hBr)) (HS'.out.keep (Same.of hW1 hBr))).mono ?_
        rintro _ w1 ⟨rfl, hb1⟩
        have hb2 : Below w.heap.size w w1 := hW2.trans (hb1.mono hW2.size)
        cases hp : sameEd a a'
        · have hfin : all2E sameEd xs ys = false := by rw [HST.out, hp]; rfl
          have HF := Lib.hid hfin
          clear hp c0 c1 c2 c3 c4 c5 c6 d0 d1 d2 d3 d4 d5 d6 hb1 hW1 hW2 hfin
          go_wp2_with fail
          go_ret
          exact ⟨by rw [HF.out]; rfl, hb2⟩
        · have hall' : all2E sameEd xs ys = all2E sameEd (xs.drop (k + 1)) (ys.drop (k + 1)) := by rw [HST.out, hp]; rfl
          have HALL := Lib.hid hall'
          clear hp c0 c1 c2 c3 c4 c5 c6 d0 d1 d2 d3 d4 d5 d6 hb1 hW1 hW2 hall'
          go_wp2_with fail
          go_roundw
          case rel => exact ⟨k + 1, by omega, by go_num, hb2, HALL⟩
          case measure => simp [intOf]; omega
      · have hfin : all2E sameEd xs ys = true := by rw [hall.out, List.drop_eq_nil_of_le (by rw [HL.out]; omega), List.drop_eq_nil_of_le (by rw [← HM.out]; omega)]; rfl
        have HF := Lib.hid hfin
        clear hfin hall
        go_wp2_with fail
        go_ret
        exact ⟨by rw [HF.out]; rfl, hb⟩
  · have HF := Lib.hid (all2E_len (q := sameEd) hlen)
    have hne : ((xs.length : Int) == (ys.length : Int)) = false := by simp; omega
    clear hx hy
    go_enter Try.func37, Try.ntmps37
    go_wp2_with fail
    go_ret
    exact ⟨by rw [HF.out]; rfl, Below.refl _ _⟩

def sameG (g o : Gr) : Bool := (g.vars == o.vars) && (g.arrays == o.arrays) && (g.nodes == o.nodes) && (g.start == o.start) && (g.last == o.last) && all2E sameEd g.edges o.edges

set_option maxRecDepth 100000 in
set_option maxHeartbeats 1600000 in
/-- THE CONTRACT of flow.Same -/
theorem flowSame_any (g o : Gr) (Aa Ae Aa' Ae' : Option Addr) (ca ce ca' ce' B : Nat) (w : World) (hB : B ≤ w.heap.size) (hg : GrSl w B g Aa ca Ae ce) (ho : GrSl w B o Aa' ca' Ae' ce') :
    Calls Try.prog 14 #[grV g.vars Aa g.arrays.length ca g.nodes g.start g.last Ae g.edges.length ce, grV o.vars Aa' o.arrays.length ca' o.nodes o.start o.last Ae' o.edges.length ce'] w (BoolPost (sameG g o) w) := by
  obtain ⟨v, ar, nd, st, la, ed⟩ := g
  obtain ⟨v', ar', nd', st', la', ed'⟩ := o
  have HG := Lib.hid hg
  have HO := Lib.hid ho
  clear hg ho
  unfold sameG grV
  simp only at HG HO ⊢
  have hbb : ∀ c0 c1 : Array Value, Below w.heap.size w ((w.alloc (.cells c0 35)).alloc (.cells c1 35)) := fun _ _ => ((Below.refl _ _).alloc (Nat.le_refl _) _).alloc (by simp) _
  have HBB := Lib.hid hbb
  clear hbb
  cases h1 : v == v'
  · go_enter Try.func14, Try.ntmps14
    go_wp2_with fail
    go_ret
    exact ⟨rfl, HBB.out _ _⟩
  go_enter Try.func14, Try.ntmps14
  go_wp2_with fail
  have hW := HBB.out #[.int .i64 v, .slice Aa ar.length ca, .int .i64 nd, .int .i64 st, .int .i64 la, .slice Ae ed.length ce] #[.int .i64 v', .slice Aa' ar'.length ca', .int .i64 nd', .int .i64 st', .int .i64 la', .slice Ae' ed'.length ce']
  have hcs := fun i => cells2 w #[.int .i64 v, .slice Aa ar.length ca, .int .i64 nd, .int .i64 st, .int .i64 la, .slice Ae ed.length ce] #[.int .i64 v', .slice Aa' ar'.length ca', .int .i64 nd', .int .i64 st', .int .i64 la', .slice Ae' ed'.length ce'] 35 35 i
  refine (ints_eq ar ar' Aa Aa' ca ca' _ B (HG.out.arrays.keep (Same.of hW hB)) (HO.out.arrays.keep (Same.of hW hB))).mono ?_
  rintro _ w1 ⟨rfl, hb1⟩
  have hb2 := hW.trans (hb1.mono hW.size)
  have k2 := (hb1.cell (p := ⟨w.heap.size, 2, none⟩) (by simp; omega)).trans (hcs 2).1
  have k3 := (hb1.cell (p := ⟨w.heap.size, 3, none⟩) (by simp; omega)).trans (hcs 3).1
  have k4 := (hb1.cell (p := ⟨w.heap.size, 4, none⟩) (by simp; omega)).trans (hcs 4).1
  have k5 := (hb1.cell (p := ⟨w.heap.size, 5, none⟩) (by simp; omega)).trans (hcs 5).1
  have m2 := (hb1.cell (p := ⟨w.heap.size + 1, 2, none⟩) (by simp)).trans (hcs 2).2
  have m3 := (hb1.cell (p := ⟨w.heap.size + 1, 3, none⟩) (by simp)).trans (hcs 3).2
  have m4 := (hb1.cell (p := ⟨w.heap.size + 1, 4, none⟩) (by simp)).trans (hcs 4).2
  have m5 := (hb1.cell (p := ⟨w.heap.size + 1, 5, none⟩) (by simp)).trans (hcs 5).2
  simp only [List.getElem?_toArray, List.getElem?_cons_succ, List.getElem?_cons_zero] at k2 k3 k4 k5 m2 m3 m4 m5
  have HB2 := Lib.hid hb2
  clear hcs hW hb1 hb2
  cases h2 : ar == ar'
  · go_wp2_with fail
    go_ret
    exact ⟨by rw [h2]; rfl, HB2.out⟩
  cases h3 : nd == nd'
  · go_wp2_with fail
    go_ret
    exact ⟨by rw [h2, h3]; rfl, HB2.out⟩
  cases h4 : st == st'
  · go_wp2_with fail
    go_ret
    exact ⟨by rw [h2, h3, h4]; rfl, HB2.out⟩
  cases h5 : la == la'
  · go_wp2_with fail
    go_ret
    exact ⟨by rw [h2, h3, h4, h5]; rfl, HB2.out⟩
  go_wp2_with fail
  refine (equalEd ed ed' Ae Ae' ce ce' _ B (Nat.le_trans hB HB2.out.size) (HG.out.edges.keep (Same.of HB2.out hB)) (HO.out.edges.keep (Same.of HB2.out hB))).mono ?_
  rintro _ w2 ⟨rfl, hb3⟩
  go_wp2_with fail
  go_ret
  exact ⟨by rw [h2, h3, h4, h5]; rfl, HB2.out.trans (hb3.mono HB2.out.size)⟩
end Go.Proofs.Ytjeapacohgfpiaa
