/-
  facetroomref13.Out: the numbers of the edges out of a node.
-/
import Derived.Test.YtdflbaipbmkdgaaJnCk3
import Derived.Laws.OwnMore
import Derived.BigQuiet
namespace Go.Proofs.Ytdflbaipbmkdgaa
open Go.RowKit Go.Shelf

theorem infoInt : (Try.prog.info? 3).map (fun i => (i.zero, i.size, i.bytes)) = some (some (.int .i64 0), 1, 8) := by kernel_rfl
/-- is the edge at a number one out of a node? -/
def fromAt (l : List Ed) (x : Int) (i : Nat) : Bool := match l[i]? with | some e => e.from_ == x | none => false
/-- the numbers, below k, of the edges out of a node -/
def idxE (l : List Ed) (x : Int) (k : Nat) : List Nat := (List.range k).filter (fromAt l x)
def intsV (l : List Nat) : List Value := l.map fun (i : Nat) => Value.int .i64 (i : Int)
theorem idxE_succ (l : List Ed) (x : Int) (k : Nat) : idxE l x (k + 1) = if fromAt l x k then idxE l x k ++ [k] else idxE l x k := by
  unfold idxE
  rw [List.range_succ, List.filter_append]
  by_cases h : fromAt l x k <;> simp [h]
theorem idxE_le (l : List Ed) (x : Int) (k : Nat) : (idxE l x k).length ≤ k := by
  have := List.length_filter_le (fromAt l x) (List.range k)
  simpa [idxE] using this
theorem idxE_picks (l : List Ed) (x : Int) : ∀ k : Nat, k ≤ l.length → (idxE l x k).map (fun i => l[i]?) = (outE (l.take k) x).map some
  | 0, _ => by simp [idxE, outE]
  | k + 1, h => by
    have ih := idxE_picks l x k (by omega)
    have hk : k < l.length := by omega
    have e1 : l.take (k + 1) = l.take k ++ [l[k]] := List.take_succ_eq_append_getElem hk
    rw [idxE_succ, e1]
    have e2 : fromAt l x k = (l[k].from_ == x) := by simp [fromAt, List.getElem?_eq_getElem hk]
    simp only [outE] at ih ⊢
    rw [List.filter_append, e2]
    cases hq : l[k].from_ == x
    · simp [hq, ih]
    · simp [hq, ih, List.getElem?_eq_getElem hk]
theorem picks_all (l : List Ed) (x : Int) : (idxE l x l.length).map (fun i => l[i]?) = (outE l x).map some := by
  have := idxE_picks l x l.length (Nat.le_refl _)
  rwa [List.take_length] at this
theorem idxE_lt (l : List Ed) (x : Int) (k : Nat) : ∀ i ∈ idxE l x k, i < k := fun i hi => by
  simp [idxE] at hi; exact hi.1

def OutP (l : List Ed) (x : Int) (W : World) (e : Ending) (w' : World) : Prop :=
  ∃ A c, e = .returned (.slice A (idxE l x l.length).length c) ∧ IsSl w' w'.heap.size ((idxE l x l.length).map fun (i : Nat) => (i : Int)) A c ∧ Below W.heap.size W w'

theorem isSl_of_owns {w : World} {base : Nat} {e : TypeId} {v : Value} {is : List Nat} (h : w.ownsRow base e 1 v is.length (intsV is)) (hlt : ∀ i ∈ is, i ≤ 9223372036854775807) :
    ∃ A c, v = .slice A is.length c ∧ IsSl w w.heap.size (is.map fun (i : Nat) => (i : Int)) A c := by
  have hown := h
  obtain ⟨hl, h | ⟨g, cap, cur, rfl, hb, hg, hn, hc, hs, ht⟩⟩ := h
  · obtain ⟨rfl, h0⟩ := h
    have e0 : is = [] := List.length_eq_zero_iff.1 h0
    subst e0
    exact ⟨none, 0, rfl, by simp, by decide, by simp⟩
  · have hgl : g < w.heap.size := by
      rcases Nat.lt_or_ge g w.heap.size with h | h
      · exact h
      · rw [Array.getElem?_eq_none h] at hg; exact absurd hg (by simp)
    refine ⟨some ⟨g, 0, none⟩, cap, rfl, by simpa using hn, by simpa [maxLen] using hc, fun _ => ⟨g, 0, rfl, hgl, fun i n hi => ?_⟩⟩
    rw [List.getElem?_map] at hi
    cases hx : is[i]? with
    | none => rw [hx] at hi; simp at hi
    | some j =>
      rw [hx] at hi
      simp at hi
      subst hi
      obtain ⟨hil, hxe⟩ := List.getElem?_eq_some_iff.1 hx
      have hc := hown.cellAt i (by simpa using hil)
      refine ⟨?_, ?_⟩
      · rw [Nat.zero_add, hc, intsV, List.getElem?_map, hx]; rfl
      · have := hlt j (List.mem_of_getElem? hx)
        unfold in64; omega

set_option maxRecDepth 100000 in
set_option maxHeartbeats 1600000 in
theorem rout_any (l : List Ed) (x : Int) (vars : Int) (Aa : Option Addr) (na ca : Nat) (nodes start last : Int) (Ae : Option Addr) (ce B : Nat) (w : World) (hB : B ≤ w.heap.size)
    (hx : EdSl w B l Ae ce) (hlen : l.length ≤ 2048) :
    Calls Try.prog 36 #[grV vars Aa na ca nodes start last Ae l.length ce, .int .i64 x] w (OutP l x w) := by
  obtain ⟨i0, hi0, hz0, hz1, hz2⟩ := info_parts infoInt
  have HX := Lib.hid hx
  obtain ⟨n, hn⟩ : ∃ n, n = l.length := ⟨_, rfl⟩
  have HN := Lib.hid hn
  rw [← hn] at hlen ⊢
  clear hx hn
  unfold grV
  go_enter Try.func36, Try.ntmps36
  go_wp2
  go_loopw [5, 6] (fun v i wr => ∃ k : Nat, k ≤ n ∧ i = .int .i64 k ∧ Hid (wr.ownsRow (w.heap.size + 1) 3 1 v (idxE l x k).length (intsV (idxE l x k))) ∧ Hid (Below (w.heap.size + 1) (w.alloc (.cells #[.int .i64 vars, .slice Aa na ca, .int .i64 nodes, .int .i64 start, .int .i64 last, .slice Ae n ce] 25)) wr)) (fun _ i _ => n - (intOf i).toNat)
  case atStart =>
    refine ⟨0, Nat.zero_le _, rfl, by show World.ownsRow _ _ _ _ _ (idxE l x 0).length (intsV (idxE l x 0)); exact World.ownsRow_nil _ _ _ _, ?_⟩
    exact (Below.refl (w.alloc (.cells #[.int .i64 vars, .slice Aa na ca, .int .i64 nodes, .int .i64 start, .int .i64 last, .slice Ae n ce] 25)).heap.size _).mono (by simp)
  case round =>
    rename_i v
    obtain ⟨k, hk, rfl, hown, hb⟩ := hrel
    have hbw : Below w.heap.size w wr := ((Below.refl _ _).alloc (Nat.le_refl _) _).trans (hb.out.mono (by simp))
    have c5 := (hb.out.cell (p := ⟨w.heap.size, 5, none⟩) (by simp)).trans (newCell w _ _ 5)
    simp only [List.getElem?_toArray, List.getElem?_cons_succ, List.getElem?_cons_zero] at c5
    have hws : w.heap.size + 1 ≤ wr.heap.size := by have := hb.out.size; simpa using this
    by_cases hlt : k < n
    · obtain ⟨e, he⟩ : ∃ e, l[k]? = some e := ⟨_, List.getElem?_eq_getElem (by rw [← HN.out]; exact hlt)⟩
      obtain ⟨b, o, rfl, hat⟩ := HX.out.2.2 (by rw [← HN.out]; omega)
      obtain ⟨hbB, c0, _⟩ := (hat.keep (Same.of hbw hB)).at_ he
      have hfe : fromAt l x k = (e.from_ == x) := by simp [fromAt, he]
      have HFE := Lib.hid hfe
      have HBW := Lib.hid hbw
      have hil := idxE_le l x k
      obtain ⟨m, hm⟩ : ∃ m, m = (idxE l x k).length := ⟨_, rfl⟩
      obtain ⟨xs, hxs⟩ : ∃ xs, xs = intsV (idxE l x k) := ⟨_, rfl⟩
      have hown' := hown.out
      rw [← hm, ← hxs] at hown'
      rw [← hm] at hil
      have HM := Lib.hid hm
      have HXS := Lib.hid hxs
      clear hat he hfe hbw hm hxs
      cases hq : e.from_ == x
      · clear hown'
        have HQ := Lib.hid (show idxE l x (k + 1) = idxE l x k from by rw [idxE_succ, HFE.out, hq]; rfl)
        go_wp2_with fail
        go_roundw
        case rel => exact ⟨k + 1, by omega, by go_num, by rw [Hid, HQ.out]; exact hown.out, hb⟩
        case measure => simp [intOf]; omega
      · have HQ := Lib.hid (show idxE l x (k + 1) = idxE l x k ++ [k] from by rw [idxE_succ, HFE.out, hq]; rfl)
        go_wp2_with (first
          | (at_builtin; refine wpList_append_own _ rfl _ _ 22 rfl (w.heap.size + 1) 3 i0 (.int .i64 0) 1 8 Try.underlying22 hi0 hz0 hz1 hz2 rfl (by decide) _ _ _ rfl (hown'.alloc _) ⟨wr.heap.size, 0, none⟩ 1 1 [.int .i64 (k : Int)] rfl rfl ?c1 ?c2 ?c3 ?c4 ?c5 ?_)
          | go_in)
        case c1 =>
          intro j u hj
          match j, hj with
          | 0, hj => simp at hj; subst hj; simp [Addr.add]
        case c2 => intro u hu; simp at hu; subst hu; rfl
        case c3 => unfold maxLen; omega
        case c4 => omega
        case c5 => simp; omega
        intro v' w1 hown2 hgrow _
        have hbn : Below (w.heap.size + 1) (w.alloc (.cells #[.int .i64 vars, .slice Aa na ca, .int .i64 nodes, .int .i64 start, .int .i64 last, .slice (some ⟨b, o, none⟩) n ce] 25)) w1 :=
          (hb.out.alloc hws _).grown hgrow (by simp; omega) (fun g hg => by
            obtain ⟨_, h | ⟨g', cap, cur, rfl, h1, _⟩⟩ := hown'
            · rw [h.1] at hg; simp [Value.ownBlock] at hg
            · simp [Value.ownBlock] at hg; omega)
        have hown3 : w1.ownsRow (w.heap.size + 1) 3 1 v' (idxE l x (k + 1)).length (intsV (idxE l x (k + 1))) := by
          rw [HQ.out, intsV, List.map_append, List.length_append, ← HM.out]
          rw [HXS.out] at hown2
          exact hown2
        have HO := Lib.hid hown3
        have HB2 := Lib.hid hbn
        clear hown2 hgrow hown' hown3 hbn hb c0 c5
        go_wp2_with fail
        go_roundw
        case rel => exact ⟨k + 1, by omega, by go_num, HO, HB2⟩
        case measure => simp [intOf]; omega
    · have hk' : k = l.length := by rw [← HN.out]; omega
      have hown2 := hown.out
      rw [hk'] at hown2
      obtain ⟨A, c, rfl, hs⟩ := isSl_of_owns hown2 (fun i hi => by have := idxE_lt l x l.length i hi; rw [← HN.out] at this; omega)
      have HS := Lib.hid hs
      have HBW := Lib.hid hbw
      clear hs hown hown2 hb hbw hk'
      go_wp2_with fail
      go_ret
      exact ⟨A, c, rfl, HS.out, HBW.out⟩
end Go.Proofs.Ytdflbaipbmkdgaa

/-
  facetroomref13.round: whether a node leads to itself by skips alone.
-/
namespace Go.Proofs.Ytdflbaipbmkdgaa
open Go.RowKit Go.Shelf

theorem walkR_one {l : List Ed} {x y : Int} {e : Ed} (h : outE l y = [e]) (f : Nat) : walkR l x y (f + 1) = if e.kind = 1 then if e.to_ = x then true else walkR l x e.to_ f else false := by
  simp [walkR, h]
theorem walkR_no {l : List Ed} {x y : Int} (h : (outE l y).length ≠ 1) (f : Nat) : walkR l x y f = false := by
  cases f with
  | zero => rfl
  | succ f =>
    unfold walkR
    split
    · rename_i e he; rw [he] at h; exact absurd rfl h
    · rfl
theorem picks_len (l : List Ed) (x : Int) : (idxE l x l.length).length = (outE l x).length := by
  have := congrArg List.length (picks_all l x)
  simpa using this
theorem picks_one {l : List Ed} {x : Int} {e : Ed} (h : outE l x = [e]) : ∃ i, idxE l x l.length = [i] ∧ l[i]? = some e := by
  have h1 := picks_all l x
  rw [h] at h1
  cases hi : idxE l x l.length with
  | nil => rw [hi] at h1; simp at h1
  | cons i r =>
    rw [hi] at h1
    simp only [List.map_cons, List.map_nil, List.cons.injEq] at h1
    obtain ⟨h2, h3⟩ := h1
    have : r = [] := List.map_eq_nil_iff.1 h3
    subst this
    exact ⟨i, rfl, h2⟩

set_option maxRecDepth 100000 in
set_option maxHeartbeats 1600000 in
theorem rround_any (l : List Ed) (x : Int) (hx64 : in64 x) (vars : Int) (Aa : Option Addr) (na ca : Nat) (nodes start last : Int) (Ae : Option Addr) (ce B : Nat) (w : World) (hB : B ≤ w.heap.size)
    (hx : EdSl w B l Ae ce) (hlen : l.length ≤ 2048) :
    Calls Try.prog 37 #[grV vars Aa na ca nodes start last Ae l.length ce, .int .i64 x] w (BoolPost (walkR l x x (l.length + 1)) w) := by
  have HX := Lib.hid hx
  have HC := Lib.hid (fun (y : Int) (W : World) (h1 : B ≤ W.heap.size) (h2 : EdSl W B l Ae ce) => rout_any l y vars Aa na ca nodes start last Ae ce B W h1 h2 hlen)
  unfold grV at HC
  obtain ⟨n, hn⟩ : ∃ n, n = l.length := ⟨_, rfl⟩
  have HN := Lib.hid hn
  rw [← hn] at hlen HC ⊢
  clear hx hn
  unfold grV
  go_enter Try.func37, Try.ntmps37
  go_wp2
  go_loopw [5, 6] (fun a i wr => ∃ (k : Nat) (y : Int), k ≤ n + 1 ∧ a = .int .i64 y ∧ i = .int .i64 k ∧ Hid (in64 y) ∧ Hid (walkR l x x (n + 1) = walkR l x y (n + 1 - k)) ∧ Hid (Below w.heap.size w wr ∧ Below (w.heap.size + 1) (w.alloc (.cells #[.int .i64 vars, .slice Aa na ca, .int .i64 nodes, .int .i64 start, .int .i64 last, .slice Ae n ce] 25)) wr)) (fun _ i _ => n + 1 - (intOf i).toNat)
  case atStart =>
    exact ⟨0, x, Nat.zero_le _, rfl, rfl, hx64, rfl, (Below.refl _ _).alloc (Nat.le_refl _) _, (Below.refl (w.alloc (.cells #[.int .i64 vars, .slice Aa na ca, .int .i64 nodes, .int .i64 start, .int .i64 last, .slice Ae n ce] 25)).heap.size _).mono (by simp)⟩
  case round =>
    obtain ⟨k, y, hk, rfl, rfl, hy, hw, hbs⟩ := hrel
    obtain ⟨hb1, hb2⟩ := hbs.out
    have g0 := (hb2.cell (p := ⟨w.heap.size, 0, none⟩) (by simp)).trans (newCell w _ _ 0)
    have g1 := (hb2.cell (p := ⟨w.heap.size, 1, none⟩) (by simp)).trans (newCell w _ _ 1)
    have g2 := (hb2.cell (p := ⟨w.heap.size, 2, none⟩) (by simp)).trans (newCell w _ _ 2)
    have g3 := (hb2.cell (p := ⟨w.heap.size, 3, none⟩) (by simp)).trans (newCell w _ _ 3)
    have g4 := (hb2.cell (p := ⟨w.heap.size, 4, none⟩) (by simp)).trans (newCell w _ _ 4)
    have g5 := (hb2.cell (p := ⟨w.heap.size, 5, none⟩) (by simp)).trans (newCell w _ _ 5)
    simp only [List.getElem?_toArray, List.getElem?_cons_succ, List.getElem?_cons_zero] at g0 g1 g2 g3 g4 g5
    have HB1 := Lib.hid hb1
    have HB2 := Lib.hid hb2
    by_cases hlt : k ≤ n
    · have hkn : decide ((k : Int) ≤ (n : Int)) = true := by simp; omega
      have hwrs : w.heap.size < wr.heap.size := by have := hb2.size; simp at this; omega
      clear hb1 hb2
      go_wp2_with fail
      refine (HC.out y wr (Nat.le_trans hB HB1.out.size) (HX.out.keep (Same.of HB1.out hB))).mono ?_
      rintro _ w1 ⟨A', c', rfl, hs, hb3⟩
      have hn1 := HB1.out.trans (hb3.mono HB1.out.size)
      have hn2 := HB2.out.trans (hb3.mono (show w.heap.size + 1 ≤ wr.heap.size from hwrs))
      have g5' := (hb3.cell (p := ⟨w.heap.size, 5, none⟩) hwrs).trans g5
      have hw2 : walkR l x x (n + 1) = walkR l x y ((n - k) + 1) := by rw [hw.out, show n + 1 - k = (n - k) + 1 from by omega]
      have HN1 := Lib.hid hn1
      have HN2 := Lib.hid hn2
      clear hn2 hb3 g0 g1 g2 g3 g4 g5 hw
      by_cases h1 : (outE l y).length = 1
      · obtain ⟨e, he⟩ := List.length_eq_one_iff.1 h1
        obtain ⟨i, hi, hie⟩ := picks_one he
        rw [walkR_one he] at hw2
        rw [hi] at hs ⊢
        have hil : i < n := by rw [HN.out]; exact (List.getElem?_eq_some_iff.1 hie).1
        obtain ⟨g, o, rfl, hat⟩ := HX.out.2.2 (by rw [← HN.out]; omega)
        obtain ⟨hbB, c0, c1, c2, _, _, _, _, hok⟩ := (hat.keep (Same.of hn1 hB)).at_ hie
        obtain ⟨g', o', rfl, hg', his⟩ := hs.2.2 (by simp)
        have d0 := (his 0 _ rfl).1
        rw [Nat.add_zero] at d0
        have hi1 : (i : Int) < (n : Int) := by omega
        have hi0 : (0 : Int) ≤ (i : Int) := by omega
        have HW := Lib.hid hw2
        have HOK := Lib.hid hok.2.1
        clear he hi hie hat his hs hok hw2 hn1 h1 hg'
        cases hq : e.kind == 1
        · have hq' : (e.kind != 1) = true := by rw [bne, hq]; rfl
          have HF := Lib.hid (show walkR l x x (n + 1) = false from by rw [HW.out, if_neg (by simpa using hq)])
          go_wp2_with fail
          go_quiet (fail)
          go_wp2_with fail
          go_ret
          exact ⟨by rw [HF.out]; rfl, below_drewN' HN1.out _⟩
        · have hq' : (e.kind != 1) = false := by rw [bne, hq]; rfl
          cases hr : e.to_ == x
          · have HM := Lib.hid (show walkR l x x (n + 1) = walkR l x e.to_ (n + 1 - (k + 1)) from by rw [HW.out, if_pos (by simpa using hq), if_neg (by simpa using hr), show n + 1 - (k + 1) = n - k from by omega])
            go_wp2_with fail
            go_quiet (fail)
            go_wp2_with fail
            go_quiet (fail)
            go_wp2_with fail
            go_roundw
            case rel => exact ⟨k + 1, e.to_, by omega, by rfl, by go_num, HOK, HM, below_drewN' HN1.out _, below_drewN' HN2.out _⟩
            case measure => simp [intOf]; omega
          · have HF := Lib.hid (show walkR l x x (n + 1) = true from by rw [HW.out, if_pos (by simpa using hq), if_pos (by simpa using hr)])
            go_wp2_with fail
            go_quiet (fail)
            go_wp2_with fail
            go_quiet (fail)
            go_wp2_with fail
            go_ret
            exact ⟨by rw [HF.out]; rfl, below_drewN' HN1.out _⟩
      · have HF := Lib.hid (show walkR l x x (n + 1) = false from by rw [hw2, walkR_no h1])
        obtain ⟨m, hm⟩ : ∃ m, m = (idxE l y l.length).length := ⟨_, rfl⟩
        have hm1 : ((m : Int) == 1) = false := by
          have := picks_len l y
          rw [← hm] at this
          simp; omega
        have hm2 : ((m : Int) != 1) = true := by rw [bne, hm1]; rfl
        have hml : m ≤ 9223372036854775807 := by
          have := idxE_le l y l.length
          have h2 := HN.out
          omega
        rw [← hm]
        clear hm hs hw2 h1 hn1
        go_wp2_with fail
        go_quiet (fail)
        go_wp2_with fail
        go_ret
        exact ⟨by rw [HF.out]; rfl, below_drewN' HN1.out _⟩
    · have hkn : decide ((k : Int) ≤ (n : Int)) = false := by simp; omega
      have HF := Lib.hid (show walkR l x x (n + 1) = false from by rw [hw.out, show n + 1 - k = 0 from by omega]; rfl)
      clear hb1 hb2 hw
      go_wp2_with fail
      go_ret
      exact ⟨by rw [HF.out]; rfl, HB1.out⟩
end Go.Proofs.Ytdflbaipbmkdgaa
