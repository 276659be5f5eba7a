/-
  flow.outs: the edges out of each node.
-/
import Derived.Test.YtdflbaipbmkdgaaFlGroups
import Derived.Test.YtdflbaipbmkdgaaFlCheckA
import Derived.Deep.RegionHeld3
import Derived.Deep.DrawnRows
namespace Go.Proofs.Ytdflbaipbmkdgaa
open Go.RowKit Go.Shelf Go.Maps
attribute [local go_sem ↓] Go.wp_at_zero Go.wp_at_succ

theorem infoEdge : (Try.prog.info? 45).map (fun i => (i.zero, i.size, i.bytes)) = some (some (.agg #[.int .i64 0, .int .i64 0, .int .u8 0, .int .i64 0, .int .u8 0, .slice none 0 0, .int .i64 0]), 7, 72) := by kernel_rfl

/-- what flow.outs leaves: a map of the call's own -/
def OutsPost (rs : List EdR) (W : World) (e : Ending) (w' : World) : Prop :=
  ∃ (b base n : Nat) (V : Int → Value) (D : DataW Value), e = .returned (.map (some b)) ∧ GM w' b base n V rs D ∧ W.heap.size ≤ b ∧ base ≤ w'.heap.size ∧ Below W.heap.size W w'

set_option maxRecDepth 100000 in
set_option maxHeartbeats 1600000 in
theorem outs_any (rs : List EdR) (vars : Int) (Aa : Option Addr) (na ca : Nat) (nodes start last : Int) (Ae : Option Addr) (ce B : Nat) (w : World) (hB : B ≤ w.heap.size)
    (hlen : rs.length ≤ 2048) (hx : rs.length ≤ ce ∧ (0 < rs.length → ∃ b o, Ae = some ⟨b, o, none⟩ ∧ RAt w B rs b o)) :
    Calls Try.prog 26 #[grV vars Aa na ca nodes start last Ae rs.length ce] w (OutsPost rs w) := by
  obtain ⟨i0, hi0, hz0, hz1, hz2⟩ := info_parts infoEdge
  have hmm := @run_makeMap Try.prog
  obtain ⟨hx1, hx⟩ := hx
  unfold grV
  go_enter Try.func26, Try.ntmps26
  go_wp2
  go_loopw [10] (fun i wr => ∃ (k : Nat) (V : Int → Value) (D : DataW Value), k ≤ rs.length ∧ i = .int .i64 k ∧ Hid (GM wr (w.heap.size + 1) (w.heap.size + 2) k V (rs.take k) D) ∧ Below w.heap.size w wr ∧ w.heap.size + 2 ≤ wr.heap.size) (fun i _ => rs.length - (intOf i).toNat)
  case atStart =>
    refine ⟨0, fun _ => nilS, .map [], Nat.zero_le _, rfl, ?_, ((Below.refl _ _).alloc (Nat.le_refl _) _).alloc (by simp) _, by simp⟩
    have h := GM.made (w.alloc (.cells #[.int .i64 vars, .slice Aa na ca, .int .i64 nodes, .int .i64 start, .int .i64 last, .slice Ae rs.length ce] 25))
    rw [World.size_alloc] at h
    exact h
  case round =>
    obtain ⟨k, V, D, hk, rfl, hgm, hb, hws⟩ := hrel
    by_cases hlt : k < rs.length
    · obtain ⟨r, hr⟩ : ∃ r, rs[k]? = some r := ⟨_, List.getElem?_eq_getElem hlt⟩
      obtain ⟨b, o, rfl, hat⟩ := hx (by omega)
      obtain ⟨hbB, hcell, hsl, hok⟩ := (hat.keep (Same.of hb hB)).at_ hr
      have c0 := hcell 0 _ rfl
      have c1 := hcell 1 _ rfl
      have c2 := hcell 2 _ rfl
      have c3 := hcell 3 _ rfl
      have c4 := hcell 4 _ rfl
      have c5 := hcell 5 _ rfl
      have c6 := hcell 6 _ rfl
      simp only [Nat.add_zero] at c0
      have HR := Lib.hid hr
      have HO := Lib.hid hok
      clear hcell hr hok hsl
      have hx64 : in64 r.e.from_ := HO.out.1
      have hrow := hgm.out.rows r.e.from_ hx64
      have HRow := Lib.hid hrow
      have hml : (outR (rs.take k) r.e.from_).length ≤ k := Nat.le_trans (List.length_filter_le _ _) (by simp; omega)
      obtain ⟨m, hm⟩ : ∃ m, m = (outR (rs.take k) r.e.from_).length := ⟨_, rfl⟩
      obtain ⟨xs, hxs⟩ : ∃ xs, xs = flatR (outR (rs.take k) r.e.from_) := ⟨_, rfl⟩
      obtain ⟨v, hv⟩ : ∃ v, v = V r.e.from_ := ⟨_, rfl⟩
      rw [← hm, ← hxs, ← hv] at hrow
      rw [← hm] at hml
      have HM := Lib.hid hm
      have HXS := Lib.hid hxs
      have HV := Lib.hid hv
      have hL : ∀ W, wr.grownBy W none → (Instr.lookup 69 (.map (some (w.heap.size + 1))) (.int .i64 r.e.from_) false).run Try.prog W = .ok v W := fun W hW => by rw [hv]; exact (hgm.out.kept hW).look hx64
      have hL1 := hL _ (only_drew (World.grownBy_alloc wr (.cells #[.int .i64 r.e.from_, .int .i64 r.e.to_, .int .u8 r.e.kind, .int .i64 r.e.n, .int .u8 r.e.cmp, .slice r.A r.e.args.len r.c, .int .i64 r.e.at_] 45) none))
      have hL2 := hL _ (only_drew (only_alloc (World.grownBy_alloc wr (.cells #[.int .i64 r.e.from_, .int .i64 r.e.to_, .int .u8 r.e.kind, .int .i64 r.e.n, .int .u8 r.e.cmp, .slice r.A r.e.args.len r.c, .int .i64 r.e.at_] 45) none) (.cells #[.int .i64 r.e.from_, .int .i64 r.e.to_, .int .u8 r.e.kind, .int .i64 r.e.n, .int .u8 r.e.cmp, .slice r.A r.e.args.len r.c, .int .i64 r.e.at_] 45)))
      have HX := Lib.hid hx64
      have hne2 : some wr.heap.size ≠ some (w.heap.size + 1) := by simp; omega
      have hvb : v.ownBlock ≠ some wr.heap.size := fun e => by have := (hrow.lt _ e).2; omega
      clear hm hxs hv hL hx64
      go_wp2_with fail
      go_region_held3 (fun w' => w'.cell? ⟨wr.heap.size, 0, none⟩ = some (.int .i64 r.e.from_) ∧ w'.cell? ⟨wr.heap.size, 1, none⟩ = some (.int .i64 r.e.to_) ∧ w'.cell? ⟨wr.heap.size, 2, none⟩ = some (.int .u8 r.e.kind) ∧ w'.cell? ⟨wr.heap.size, 3, none⟩ = some (.int .i64 r.e.n) ∧
          w'.cell? ⟨wr.heap.size, 4, none⟩ = some (.int .u8 r.e.cmp) ∧ w'.cell? ⟨wr.heap.size, 5, none⟩ = some (.slice r.A r.e.args.len r.c) ∧ w'.cell? ⟨wr.heap.size, 6, none⟩ = some (.int .i64 r.e.at_))
        (first
          | (go_split_ands
             refine ⟨by go_keep, by go_keep, by go_keep, by go_keep, by go_keep, by go_keep, by go_keep⟩)
          | (go_split_ands
             refine ⟨?_, ?_, ?_, ?_, ?_, ?_, ?_⟩
             all_goals ((rw [hg2.cell_far _ hsz1 hne2]; assumption)))
          | (go_split_ands
             refine ⟨?_, ?_, ?_, ?_, ?_, ?_, ?_⟩
             all_goals ((rw [hgrow.cell_far _ (by simp; omega) (Ne.symm hvb)]; simp))))
        ((refine step_append_lies _ (by rfl) _ _ _ (by rfl) (w.heap.size + 2) 45 i0 _ 7 72 Try.underlying23 hi0 hz0 hz1 hz2 rfl (by omega) v m xs (by rfl) (((hrow.alloc _).alloc _).drew)
            ⟨wr.heap.size + 1, 0, none⟩ 1 1 r.cells (by rfl) (by rfl) (World.news_of_block (cs := #[.int .i64 r.e.from_, .int .i64 r.e.to_, .int .u8 r.e.kind, .int .i64 r.e.n, .int .u8 r.e.cmp, .slice r.A r.e.args.len r.c, .int .i64 r.e.at_]) (t := 45) (fr := (0, 0)) (heap_new2 wr _ _)) (by simp [EdR.cells, Value.oneCell'])
            (by omega) (by unfold maxLen; omega) (by omega) (by simp; omega) (wr.heap.size + 1 + 1) (by simp) ?_; intro gg cap w1 hown1 hgrow hat hltg; have hsz1 : wr.heap.size < w1.heap.size := Nat.lt_of_lt_of_le (by simp <;> omega) hgrow.size; obtain ⟨w2, D2, hupd, hgm2, hg2⟩ := hgm.out.step r HX.out (.slice (some ⟨gg, 0, none⟩) (m + 1) cap) (by unfold maxLen; omega) (by rw [← HV.out]; exact (only_drew (only_alloc (World.grownBy_alloc wr _ _) _)).trans hgrow) (by rw [← HM.out, ← HXS.out]; exact hown1) (by rw [← HV.out]; simp only [Value.ownBlock]; rcases hat with e | e; exact .inl e.symm; exact .inr ⟨gg, rfl, by omega⟩)))
      all_goals
        have hbn : Below w.heap.size w w2 := by
          have h1 := ((hb.alloc (Nat.le_trans (by omega) hws) (.cells r.cells.toArray 45)).alloc (by simp; omega) (.cells r.cells.toArray 45)).drew
          have h2 := h1.grown hgrow (by simp; omega) (fun g hg => by have := (hrow.lt g hg).1; omega)
          exact h2.grown hg2 (by omega) (fun g hg => by simp at hg; omega)
        have hws2 : w.heap.size + 2 ≤ w2.heap.size := by have h1 := hg2.size; omega
        have ht : rs.take k ++ [r] = rs.take (k + 1) := by
          obtain ⟨hi, e⟩ := List.getElem?_eq_some_iff.1 HR.out
          rw [List.take_succ_eq_append_getElem hi, e]
        rw [ht] at hgm2
        have HG2 := Lib.hid hgm2
        clear hgm2 hL1 hL2 hupd ht c0 c1 c2 c3 c4 c5 c6 hgrow hown1 hg2 hrow
        go_wp2_with fail
        go_roundw
        case rel => exact ⟨k + 1, _, D2, by omega, by go_num, HG2, hbn, hws2⟩
        case measure => simp [intOf]; omega
    · have hk' : k = rs.length := by omega
      have hg' := hgm.out
      rw [hk', List.take_length] at hg'
      have HG := Lib.hid hg'
      clear hgm hx hg' hk'
      go_wp2_with fail
      go_ret
      exact ⟨w.heap.size + 1, w.heap.size + 2, _, V, D, rfl, HG.out, by omega, hws, hb⟩
end Go.Proofs.Ytdflbaipbmkdgaa
