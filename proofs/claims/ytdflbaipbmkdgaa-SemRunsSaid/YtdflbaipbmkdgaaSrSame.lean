/-
  Lists of lists are the same: slices.EqualFunc as sem's Same asks it, and ref14's SameStore.
-/
import Derived.Test.YtdflbaipbmkdgaaJnSv
import Derived.Test.YtdflbaipbmkdgaaJnRA
namespace Go.Proofs.Ytdflbaipbmkdgaa
open Go.RowKit Go.Shelf
set_option linter.unusedVariables false
set_option linter.unusedSimpArgs false

theorem lists_drop {α : Type} [BEq α] {l l' : List α} {k : Nat} {a b : α} (ha : l[k]? = some a) (hb : l'[k]? = some b) : (l.drop k == l'.drop k) = ((a == b) && (l.drop (k + 1) == l'.drop (k + 1))) := by
  obtain ⟨h1, rfl⟩ := List.getElem?_eq_some_iff.1 ha
  obtain ⟨h2, rfl⟩ := List.getElem?_eq_some_iff.1 hb
  rw [List.drop_eq_getElem_cons h1, List.drop_eq_getElem_cons h2]
  rfl
theorem same1_any (l l' : List Int) (A A' : Option Addr) (c c' : Nat) (w : World) (B : Nat) (hx : IsSl w B l A c) (hy : IsSl w B l' A' c') :
    Calls Try.prog 19 #[.slice A l.length c, .slice A' l'.length c'] w (BoolPost (l == l') w) := by
  have H := Lib.hid (ints_eq l l' A A' c c' w B hx hy)
  obtain ⟨b, hb⟩ : ∃ b, b = (l == l') := ⟨_, rfl⟩
  obtain ⟨m, hm⟩ : ∃ m, m = l.length := ⟨_, rfl⟩
  obtain ⟨m', hm'⟩ : ∃ m, m = l'.length := ⟨_, rfl⟩
  rw [← hb, ← hm, ← hm'] at H ⊢
  clear hb hx hy hm hm'
  go_enter Try.func19, Try.ntmps19
  go_wp2_with fail
  go_at_call 17
  refine H.out.mono ?_
  rintro e w1 ⟨rfl, hb1⟩
  go_wp2_with fail
  go_ret
  exact ⟨rfl, hb1⟩
set_option maxHeartbeats 1600000 in
theorem rows_eq (ls ls' : List (List Int)) (A A' : Option Addr) (c c' : Nat) (w : World) (B : Nat) (hB : B ≤ w.heap.size) (hx : ArSl w B ls A c) (hy : ArSl w B ls' A' c') :
    Calls Try.prog 18 #[.slice A ls.length c, .slice A' ls'.length c', .func (.func 19) #[] #[]] w (BoolPost (ls == ls') w) := by
  have hm : ls.length ≤ 9223372036854775807 := Nat.le_trans hx.1 hx.2.1
  have hent : Enters Try.prog 19 := enters_of Try.func19 (by kernel_rfl) rfl
  unfold Enters at hent
  by_cases hne : ls.length = ls'.length
  · obtain ⟨n, hn⟩ : ∃ n, n = ls.length := ⟨_, rfl⟩
    rw [← hne, ← hn]
    rw [← hn] at hm
    have HN := Lib.hid hn
    have HE := Lib.hid hne
    have HX := Lib.hid hx
    have HY := Lib.hid hy
    clear hn hne hx hy
    go_enter Try.func18, Try.ntmps18
    go_wp2_with fail
    go_loopw [17] (fun i wr => ∃ k : Nat, k ≤ n ∧ i = .int .i64 k ∧ Below w.heap.size w wr ∧ Hid ((ls == ls') = (ls.drop k == ls'.drop k))) (fun i _ => n - (intOf i).toNat)
    case atStart => exact ⟨0, Nat.zero_le _, rfl, Below.refl _ _, rfl⟩
    case round =>
      obtain ⟨k, hk, rfl, hb, hd⟩ := hrel
      by_cases hlt : k < n
      · have h1 : k < ls.length := by rw [← HN.out]; exact hlt
        have h2 : k < ls'.length := by rw [← HE.out, ← HN.out]; exact hlt
        obtain ⟨b, o, rfl, hat⟩ := HX.out.2.2 (by omega)
        obtain ⟨b', o', rfl, hat'⟩ := HY.out.2.2 (by omega)
        obtain ⟨A3, c3, x3, hs3⟩ := (hat.keep (Same.of hb hB)).2 k _ (List.getElem?_eq_getElem h1)
        obtain ⟨A4, c4, x4, hs4⟩ := (hat'.keep (Same.of hb hB)).2 k _ (List.getElem?_eq_getElem h2)
        have hs := lists_drop (List.getElem?_eq_getElem h1) (List.getElem?_eq_getElem h2)
        have hc := same1_any _ _ _ _ _ _ wr B hs3 hs4
        obtain ⟨q, hq⟩ : ∃ q, q = (ls[k] == ls'[k]) := ⟨_, rfl⟩
        obtain ⟨m1, hm1⟩ : ∃ m, m = ls[k].length := ⟨_, rfl⟩
        obtain ⟨m2, hm2⟩ : ∃ m, m = ls'[k].length := ⟨_, rfl⟩
        rw [← hq] at hs
        rw [← hq, ← hm1, ← hm2] at hc
        rw [← hm1] at x3
        rw [← hm2] at x4
        have HS := Lib.hid hs
        have HC := Lib.hid hc
        clear hat hat' hs3 hs4 hs hc hq hm1 hm2 h1 h2
        go_wp2_with fail
        go_at_call 19
        refine HC.out.mono ?_
        rintro e w1 ⟨rfl, hb1⟩
        have hb2 : Below w.heap.size w w1 := hb.trans (hb1.mono hb.size)
        cases q with
        | false =>
          have HF := Lib.hid (show (ls == ls') = false from by rw [hd.out, HS.out]; rfl)
          clear hb1 x3 x4
          go_wp2_with fail
          go_ret
          exact ⟨by rw [HF.out]; rfl, hb2⟩
        | true =>
          have HF := Lib.hid (show (ls == ls') = (ls.drop (k + 1) == ls'.drop (k + 1)) from by rw [hd.out, HS.out]; rfl)
          clear hb1 x3 x4
          go_wp2_with fail
          go_roundw
          case rel => exact ⟨k + 1, by omega, by go_num, hb2, HF⟩
          case measure => simp [intOf]; omega
      · have HF := Lib.hid (show (ls == ls') = true from by
          rw [hd.out, List.drop_eq_nil_of_le (by rw [← HN.out]; omega), List.drop_eq_nil_of_le (by rw [← HE.out, ← HN.out]; omega)]; rfl)
        have HB := Lib.hid hb
        clear hd hb
        go_wp2_with fail
        go_ret
        exact ⟨by rw [HF.out]; rfl, HB.out⟩
  · have HF := Lib.hid (show (ls == ls') = false from by
      cases h : ls == ls' with
      | false => rfl
      | true => exact absurd (by rw [eq_of_beq h]) hne)
    obtain ⟨n1, h1⟩ : ∃ n, n = ls.length := ⟨_, rfl⟩
    obtain ⟨n2, h2⟩ : ∃ n, n = ls'.length := ⟨_, rfl⟩
    rw [← h1, ← h2] at hne ⊢
    have hne2 : ((n1 : Int) != (n2 : Int)) = true := by simp; omega
    clear hne h1 h2 hm hx hy
    go_enter Try.func18, Try.ntmps18
    go_wp2
    go_ret
    exact ⟨by rw [HF.out]; rfl, Below.refl _ _⟩
end Go.Proofs.Ytdflbaipbmkdgaa
