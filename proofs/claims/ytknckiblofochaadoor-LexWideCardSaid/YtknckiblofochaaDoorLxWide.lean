/-
  law08.LexWide.
-/
import Derived.Test.YtknckiblofochaaDoorLxApart
namespace Go.Proofs.YtknckiblofochaaDoor
open Go.RowKit Go.Shelf
set_option linter.unusedVariables false
set_option linter.unusedSimpArgs false

theorem lexWide_long (s : ByteArray) (w : World) (he : LexEnv w) (hs : ¬ s.size ≤ 100000) : Calls Tryd.prog 4 #[.string s] w (TruePost w) := by
  have H1 := Lib.hid (alive_any w he)
  have e1 : decide ((100000 : Int) < s.size) = true := by simp; omega
  clear hs he
  go_enter Tryd.func4, Tryd.ntmps4
  go_wp2_with fail
  refine H1.out.mono ?_
  rintro _ w1 ⟨rfl, hb⟩
  go_wp2_with fail
  go_ret
  exact ⟨rfl, hb⟩
theorem lexWide_bad (s : ByteArray) (w : World) (he : LexEnv w) (hs : s.size ≤ 100000) (h : (toks s.data.toList).2.2 ≠ 0) : Calls Tryd.prog 4 #[.string s] w (TruePost w) := by
  have H1 := Lib.hid (alive_any w he)
  have h2 := fun W (h : Below w.heap.size w W) => tokens_any s (by omega) W (he.keep h)
  obtain ⟨⟨ts, at_, er⟩, hr⟩ : ∃ r, r = toks s.data.toList := ⟨_, rfl⟩
  rw [← hr] at h2 h
  simp only at h
  unfold TokPost at h2
  simp only at h2
  have H2 := Lib.hid h2
  have e1 : (er != 0) = true := by simpa using h
  clear h2 he hr h
  go_enter Tryd.func4, Tryd.ntmps4
  go_wp2_with fail
  refine H1.out.mono ?_
  rintro _ w1 ⟨rfl, hb⟩
  go_wp2_with fail
  refine (H2.out _ hb).mono ?_
  rintro _ w2 ⟨v, rfl, ho, hb2⟩
  obtain ⟨p, cap, rfl⟩ := row_form ho
  have hbb := hb.trans (hb2.mono hb.size)
  clear ho hb hb2
  go_wp2_with fail
  go_ret
  exact ⟨rfl, hbb⟩
/-- the text so far -/
def wideS (ts : List Tk) (k : Nat) : ByteArray := ⟨(10 :: wideL (ts.take k)).toArray⟩
theorem wideS_step {ts : List Tk} {k : Nat} {t : Tk} (h : ts[k]? = some t) : wideS ts k ++ ⟨t.text.toArray⟩ ++ ⟨#[32, 9]⟩ = wideS ts (k + 1) := by
  unfold wideS
  have : ts.take (k + 1) = ts.take k ++ [t] := by
    obtain ⟨hi, e⟩ := List.getElem?_eq_some_iff.1 h
    rw [List.take_succ_eq_append_getElem hi, e]
  rw [this, wideL_snoc]
  apply ByteArray.ext
  simp
theorem wideS_size {s : List UInt8} {ts : List Tk} (h : Lies s 0 ts) (hs : s.length ≤ 4096) (k : Nat) : (wideS ts k).size ≤ 12289 := by
  have h1 := wideL_len h
  have h2 := wideL_take ts k
  show ((10 :: wideL (ts.take k)).toArray).size ≤ _
  simp
  omega
set_option maxRecDepth 100000 in
set_option maxHeartbeats 3200000 in
theorem lexWide_ok (s : ByteArray) (w : World) (he : LexEnv w) (hs : s.size ≤ 100000) (h : (toks s.data.toList).2.2 = 0) : Calls Tryd.prog 4 #[.string s] w (TruePost w) := by
  have H1 := Lib.hid (alive_any w he)
  have h2 := fun W (h : Below w.heap.size w W) => tokens_any s (by omega) W (he.keep h)
  obtain ⟨hlies, hsz⟩ := toks_lies h
  have hw := toks_wide h
  obtain ⟨⟨ts, at_, er⟩, hr⟩ : ∃ r, r = toks s.data.toList := ⟨_, rfl⟩
  rw [← hr] at h2 h hlies hw
  simp only at h hlies hw
  subst h
  unfold TokPost at h2
  simp only at h2
  have H2 := Lib.hid h2
  have HE := Lib.hid he
  have hlen := toks_len s.data.toList
  rw [← hr] at hlen
  simp only at hlen
  have hws := wideS_size hlies hsz
  have HWS := Lib.hid hws
  have HW := Lib.hid hw
  rw [size_len] at hsz
  have e0 : decide ((100000 : Int) < s.size) = false := by simp; omega
  clear h2 he hr hlies hws hw
  go_enter Tryd.func4, Tryd.ntmps4
  go_wp2_with fail
  refine H1.out.mono ?_
  rintro _ w1 ⟨rfl, hb⟩
  go_wp2_with fail
  refine (H2.out _ hb).mono ?_
  rintro _ w2 ⟨v, rfl, ho, hb2⟩
  obtain ⟨p0, cap, rfl⟩ := row_form ho
  have HB2 := Lib.hid (hb.trans (hb2.mono hb.size))
  obtain ⟨n, hn⟩ : ∃ n, n = ts.length := ⟨_, rfl⟩
  rw [← hn] at ho hlen ⊢
  have HO := Lib.hid ho
  have HN := Lib.hid hn
  clear ho hb hb2 hn
  go_wp2_with fail
  go_loop [7, 8] (fun v7 v8 => ∃ k : Nat, k ≤ n ∧ v8 = .int .i64 k ∧ v7 = .string (wideS ts k)) (fun _ v8 => n - (intOf v8).toNat)
  case atStart => exact ⟨0, Nat.zero_le _, rfl, rfl⟩
  case round =>
    obtain ⟨k, hk, rfl, rfl⟩ := hrel
    by_cases hlt : k < n
    · obtain ⟨t, ht⟩ : ∃ t, ts[k]? = some t := ⟨_, List.getElem?_eq_getElem (by rw [← HN.out]; exact hlt)⟩
      have hx := HO.out
      rw [HN.out] at hx
      obtain ⟨g, c1, ev, hg, hc⟩ := tk_cells hx ht
      simp only [Value.slice.injEq] at ev
      obtain ⟨rfl, -, -⟩ := ev
      have x1 := hc 1 (by omega)
      simp only [tkC, List.getElem?_cons_zero, List.getElem?_cons_succ, Nat.add_zero] at x1
      have hst := wideS_step ht
      have hsum : (wideS ts k).size + t.text.length + 2 ≤ 12289 := by
        have h1 := HWS.out (k + 1)
        rw [← hst] at h1
        have e : ((wideS ts k ++ ⟨t.text.toArray⟩ ++ ⟨#[32, 9]⟩ : ByteArray)).size = (wideS ts k).size + t.text.length + 2 := by
          rw [ByteArray.size_append, ByteArray.size_append]
          rfl
        rw [e] at h1
        exact h1
      have z1 : (wideS ts k).size + t.text.length ≤ 9223372036854775807 := by omega
      have z2 : (wideS ts k).size + t.text.length + 2 ≤ 9223372036854775807 := by omega
      have HS := Lib.hid hst
      clear hst hsum
      clear hc hx ht
      go_wp2_with fail
      go_round
      case rel => exact ⟨k + 1, by omega, by go_num, by rw [← HS.out]⟩
      case measure => simp [intOf]; omega
    · obtain rfl : n = k := by omega
      have hx : wideS ts n = ⟨(10 :: wideL ts).toArray⟩ := by unfold wideS; rw [HN.out, List.take_length]
      have hxl : (wideS ts n).data.toList = 10 :: wideL ts := by rw [hx]
      have hxz : (wideS ts n).size = (10 :: wideL ts).length := by rw [← size_len, hxl]
      obtain ⟨x, hxx⟩ : ∃ x, x = wideS ts n := ⟨_, rfl⟩
      have hx2 := HWS.out n
      rw [← hxx] at hxl hxz hx2 ⊢
      have h3 := fun W (h : Below w.heap.size w W) => tokens_any x (by omega) W (HE.out.keep h)
      rw [hxl] at h3
      by_cases hbig : 4096 < x.size
      · rw [show toks (10 :: wideL ts) = ([], 0, 3) from by unfold toks; rw [if_pos (by omega)]] at h3
        unfold TokPost at h3
        simp only at h3
        have H3 := Lib.hid h3
        have e3 : decide ((4096 : Int) < x.size) = true := by simp; omega
        clear h3 hx hxl hxz hxx
        go_wp2_with fail
        refine (H3.out _ HB2.out).mono ?_
        rintro _ w3 ⟨v3, rfl, _, hb3⟩
        go_wp2_with fail
        go_ret
        exact ⟨rfl, HB2.out.trans (hb3.mono HB2.out.size)⟩
      · obtain ⟨q1, q2⟩ := HW.out (by omega)
        obtain ⟨⟨ms, mat, mer⟩, hm⟩ : ∃ r, r = toks (10 :: wideL ts) := ⟨_, rfl⟩
        rw [← hm] at h3 q1 q2
        simp only at q1 q2
        subst q1
        unfold TokPost at h3
        simp only at h3
        have hml : ms.length = n := by
          have := congrArg List.length q2
          simpa [← HN.out] using this
        have H3 := Lib.hid h3
        have Q2 := Lib.hid q2
        have HML := Lib.hid hml
        have e3 : decide ((4096 : Int) < x.size) = false := by simp; omega
        clear h3 hx hxl hxz hxx q2 hm hml hk hlt
        go_wp2_with fail
        refine (H3.out _ HB2.out).mono ?_
        rintro _ w3 ⟨v3, rfl, ho3, hb3⟩
        obtain ⟨p3, cap3, rfl⟩ := row_form ho3
        have HO3 := Lib.hid ho3
        have HB3 := Lib.hid hb3
        have hk3 := HO.out.kept (only_of_below hb3 none) (by rcases Option.eq_none_or_eq_some (Value.slice p0 n cap).ownBlock with h | ⟨_, h⟩ <;> simp [h])
        have HK3 := Lib.hid hk3
        rw [HML.out] at ho3 HO3 ⊢
        clear ho3 hb3 hk3
        go_wp2_with fail
        go_loopw [12] (fun v12 wr => ∃ k : Nat, k ≤ n ∧ v12 = .int .i64 k ∧ Hid (∃ q, wr = w3.drewN q)) (fun v12 _ => n - (intOf v12).toNat)
        case atStart => exact ⟨0, Nat.zero_le _, rfl, ⟨0, rfl⟩⟩
        case round =>
          obtain ⟨k, hk, rfl, hq⟩ := hrel
          by_cases hlt : k < n
          · obtain ⟨t, ht⟩ : ∃ t, ts[k]? = some t := ⟨_, List.getElem?_eq_getElem (by rw [← HN.out]; exact hlt)⟩
            obtain ⟨m, hm⟩ : ∃ m, ms[k]? = some m := ⟨_, List.getElem?_eq_getElem (by rw [HML.out]; exact hlt)⟩
            have hkt : m.kind = t.kind ∧ m.text = t.text := by
              have := congrArg (fun l => l[k]?) Q2.out
              simp only [List.getElem?_map, ht, hm, Option.map_some, Option.some.injEq, kt, Prod.mk.injEq] at this
              exact this
            have hx1 := HK3.out
            have hx2 := HO3.out
            rw [HN.out] at hx1
            rw [← HML.out] at hx2
            obtain ⟨g, c1, ev, _, hc⟩ := tk_cells hx1 ht
            obtain ⟨g', c2, ev', _, hd⟩ := tk_cells hx2 hm
            simp only [Value.slice.injEq] at ev ev'
            obtain ⟨rfl, -, -⟩ := ev
            obtain ⟨rfl, -, -⟩ := ev'
            have hw : ∀ a : Addr, wr.cell? a = w3.cell? a := by obtain ⟨q, hq⟩ := hq.out; intro a; rw [hq]; rfl
            have x0 := (hw _).trans (hc 0 (by omega))
            have x1 := (hw _).trans (hc 1 (by omega))
            have y0 := (hw _).trans (hd 0 (by omega))
            have y1 := (hw _).trans (hd 1 (by omega))
            simp only [tkC, List.getElem?_cons_zero, List.getElem?_cons_succ, Nat.add_zero] at x0 x1 y0 y1
            rw [hkt.1] at y0
            rw [hkt.2] at y1
            have hlt' : ((k : Nat) : Int) < (n : Int) := by omega
            have hge : (0 : Int) ≤ ((k : Nat) : Int) := by omega
            clear hc hd hw hx1 hx2 ht hm hkt
            go_wp2_with fail
            go_quiet (fail)
            go_wp2_with fail
            go_roundw
            case rel => exact ⟨k + 1, by omega, by go_num, by obtain ⟨q, hq⟩ := hq.out; exact ⟨_, by rw [hq, World.drewN_drewN]⟩⟩
            case measure => simp [intOf]; omega
          · obtain ⟨q, hqq⟩ := hq.out
            have hge : ¬ ((k : Nat) : Int) < n := by omega
            go_wp2_with fail
            go_ret
            first
              | exact ⟨rfl, below_drewN (HB2.out.trans (HB3.out.mono HB2.out.size)) _⟩
              | exact ⟨rfl, by rw [hqq]; exact below_drewN (HB2.out.trans (HB3.out.mono HB2.out.size)) _⟩
/-- LexWide is true, whatever the text -/
theorem lexWide_any (s : ByteArray) (w : World) (he : LexEnv w) : Calls Tryd.prog 4 #[.string s] w (TruePost w) := by
  by_cases hs : s.size ≤ 100000
  · by_cases h : (toks s.data.toList).2.2 = 0
    · exact lexWide_ok s w he hs h
    · exact lexWide_bad s w he hs h
  · exact lexWide_long s w he hs
end Go.Proofs.YtknckiblofochaaDoor
