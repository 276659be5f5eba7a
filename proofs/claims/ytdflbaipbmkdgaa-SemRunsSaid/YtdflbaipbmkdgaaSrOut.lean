/-
  ref13.Out once more: the row that it answers is a new one.
-/
import Derived.Test.YtdflbaipbmkdgaaJnRC
import Derived.Test.YtdflbaipbmkdgaaJnData
namespace Go.Proofs.Ytdflbaipbmkdgaa
open Go.RowKit Go.Shelf
set_option linter.unusedVariables false
set_option linter.unusedSimpArgs false

def OutN (l : List Ed) (x : Int) (W : World) (e : Ending) (w' : World) : Prop :=
  ∃ A c, e = .returned (.slice A (idxE l x l.length).length c) ∧ IsSl w' w'.heap.size ((idxE l x l.length).map fun (i : Nat) => (i : Int)) A c ∧ Below W.heap.size W w' ∧ ∀ b o, A = some ⟨b, o, none⟩ → W.heap.size ≤ b

set_option maxRecDepth 100000 in
set_option maxHeartbeats 1600000 in
theorem rout_new (l : List Ed) (x : Int) (vars : Int) (Aa : Option Addr) (na ca : Nat) (nodes start last : Int) (Ae : Option Addr) (ce B : Nat) (w : World) (hB : B ≤ w.heap.size)
    (hx : EdSl w B l Ae ce) (hlen : l.length ≤ 2048) :
    Calls Try.prog 36 #[grV vars Aa na ca nodes start last Ae l.length ce, .int .i64 x] w (OutN l x w) := by
  obtain ⟨i0, hi0, hz0, hz1, hz2⟩ := info_parts infoInt
  have HX := Lib.hid hx
  obtain ⟨n, hn⟩ : ∃ n, n = l.length := ⟨_, rfl⟩
  have HN := Lib.hid hn
  rw [← hn] at hlen ⊢
  clear hx hn
  unfold grV
  go_enter Try.func36, Try.ntmps36
  go_wp2
  go_loopw [5, 6] (fun v i wr => ∃ k : Nat, k ≤ n ∧ i = .int .i64 k ∧ Hid (wr.ownsRow (w.heap.size + 1) 3 1 v (idxE l x k).length (intsV (idxE l x k))) ∧ Hid (Below (w.heap.size + 1) (w.alloc (.cells #[.int .i64 vars, .slice Aa na ca, .int .i64 nodes, .int .i64 start, .int .i64 last, .slice Ae n ce] 25)) wr)) (fun _ i _ => n - (intOf i).toNat)
  case atStart =>
    refine ⟨0, Nat.zero_le _, rfl, by show World.ownsRow _ _ _ _ _ (idxE l x 0).length (intsV (idxE l x 0)); exact World.ownsRow_nil _ _ _ _, ?_⟩
    exact (Below.refl (w.alloc (.cells #[.int .i64 vars, .slice Aa na ca, .int .i64 nodes, .int .i64 start, .int .i64 last, .slice Ae n ce] 25)).heap.size _).mono (by simp)
  case round =>
    rename_i v
    obtain ⟨k, hk, rfl, hown, hb⟩ := hrel
    have hbw : Below w.heap.size w wr := ((Below.refl _ _).alloc (Nat.le_refl _) _).trans (hb.out.mono (by simp))
    have c5 := (hb.out.cell (p := ⟨w.heap.size, 5, none⟩) (by simp)).trans (newCell w _ _ 5)
    simp only [List.getElem?_toArray, List.getElem?_cons_succ, List.getElem?_cons_zero] at c5
    have hws : w.heap.size + 1 ≤ wr.heap.size := by have := hb.out.size; simpa using this
    by_cases hlt : k < n
    · obtain ⟨e, he⟩ : ∃ e, l[k]? = some e := ⟨_, List.getElem?_eq_getElem (by rw [← HN.out]; exact hlt)⟩
      obtain ⟨b, o, rfl, hat⟩ := HX.out.2.2 (by rw [← HN.out]; omega)
      obtain ⟨hbB, c0, _⟩ := (hat.keep (Same.of hbw hB)).at_ he
      have hfe : fromAt l x k = (e.from_ == x) := by simp [fromAt, he]
      have HFE := Lib.hid hfe
      have HBW := Lib.hid hbw
      have hil := idxE_le l x k
      obtain ⟨m, hm⟩ : ∃ m, m = (idxE l x k).length := ⟨_, rfl⟩
      obtain ⟨xs, hxs⟩ : ∃ xs, xs = intsV (idxE l x k) := ⟨_, rfl⟩
      have hown' := hown.out
      rw [← hm, ← hxs] at hown'
      rw [← hm] at hil
      have HM := Lib.hid hm
      have HXS := Lib.hid hxs
      clear hat he hfe hbw hm hxs
      cases hq : e.from_ == x
      · clear hown'
        have HQ := Lib.hid (show idxE l x (k + 1) = idxE l x k from by rw [idxE_succ, HFE.out, hq]; rfl)
        go_wp2_with fail
        go_roundw
        case rel => exact ⟨k + 1, by omega, by go_num, by rw [Hid, HQ.out]; exact hown.out, hb⟩
        case measure => simp [intOf]; omega
      · have HQ := Lib.hid (show idxE l x (k + 1) = idxE l x k ++ [k] from by rw [idxE_succ, HFE.out, hq]; rfl)
        go_wp2_with (first
          | (at_builtin; refine wpList_append_own _ rfl _ _ 22 rfl (w.heap.size + 1) 3 i0 (.int .i64 0) 1 8 Try.underlying22 hi0 hz0 hz1 hz2 rfl (by decide) _ _ _ rfl (hown'.alloc _) ⟨wr.heap.size, 0, none⟩ 1 1 [.int .i64 (k : Int)] rfl rfl ?c1 ?c2 ?c3 ?c4 ?c5 ?_)
          | go_in)
        case c1 =>
          intro j u hj
          match j, hj with
          | 0, hj => simp at hj; subst hj; simp [Addr.add]
        case c2 => intro u hu; simp at hu; subst hu; rfl
        case c3 => unfold maxLen; omega
        case c4 => omega
        case c5 => simp; omega
        intro v' w1 hown2 hgrow _
        have hbn : Below (w.heap.size + 1) (w.alloc (.cells #[.int .i64 vars, .slice Aa na ca, .int .i64 nodes, .int .i64 start, .int .i64 last, .slice (some ⟨b, o, none⟩) n ce] 25)) w1 :=
          (hb.out.alloc hws _).grown hgrow (by simp; omega) (fun g hg => by
            obtain ⟨_, h | ⟨g', cap, cur, rfl, h1, _⟩⟩ := hown'
            · rw [h.1] at hg; simp [Value.ownBlock] at hg
            · simp [Value.ownBlock] at hg; omega)
        have hown3 : w1.ownsRow (w.heap.size + 1) 3 1 v' (idxE l x (k + 1)).length (intsV (idxE l x (k + 1))) := by
          rw [HQ.out, intsV, List.map_append, List.length_append, ← HM.out]
          rw [HXS.out] at hown2
          exact hown2
        have HO := Lib.hid hown3
        have HB2 := Lib.hid hbn
        clear hown2 hgrow hown' hown3 hbn hb c0 c5
        go_wp2_with fail
        go_roundw
        case rel => exact ⟨k + 1, by omega, by go_num, HO, HB2⟩
        case measure => simp [intOf]; omega
    · have hk' : k = l.length := by rw [← HN.out]; omega
      have hown2 := hown.out
      rw [hk'] at hown2
      obtain ⟨A, c, rfl, hs⟩ := isSl_of_owns hown2 (fun i hi => by have := idxE_lt l x l.length i hi; rw [← HN.out] at this; omega)
      have HS := Lib.hid hs
      have HBW := Lib.hid hbw
      have HNW := Lib.hid (show ∀ b o, A = some ⟨b, o, none⟩ → w.heap.size ≤ b from fun b o e => by
        subst e
        have := (hown2.lt b (by simp [Value.ownBlock])).1
        omega)
      clear hs hown hown2 hb hbw hk'
      go_wp2_with fail
      go_ret
      exact ⟨A, c, rfl, HS.out, HBW.out, HNW.out⟩
end Go.Proofs.Ytdflbaipbmkdgaa
