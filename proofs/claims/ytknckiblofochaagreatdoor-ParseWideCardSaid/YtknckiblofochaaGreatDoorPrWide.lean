/-
  law09.ParseWide.
-/
import Derived.Test.YtknckiblofochaaGreatDoorJnPs
import Derived.Test.YtknckiblofochaaGreatDoorJnPl
import Derived.Test.YtknckiblofochaaGreatDoorRqSameT
namespace Go.Proofs.YtknckiblofochaaGreatDoor
open Go.RowKit Go.Shelf
set_option linter.unusedVariables false
set_option linter.unusedSimpArgs false

theorem tkP_cells {w : World} {base : Nat} {v : Value} {l : List Tk} (h : w.ownsRow base 64 3 v l.length (l.flatMap tkC)) {k : Nat} {t : Tk} (hk : l[k]? = some t) :
    ∃ g cap, v = .slice (some ⟨g, 0, none⟩) l.length cap ∧ base ≤ g ∧ g < w.heap.size ∧ ∀ j, j < 3 → w.cell? ⟨g, k * 3 + j, none⟩ = (tkC t)[j]? := by
  have hkl := (List.getElem?_eq_some_iff.1 hk).1
  obtain ⟨g, cap, rfl, hb, hg⟩ := h.form (by omega)
  refine ⟨g, cap, rfl, hb, hg, fun j hj => ?_⟩
  rw [h.cellAt (k * 3 + j) (by omega), flat3 l k t hk j hj]
theorem rowP_form {w : World} {base : Nat} {v : Value} {n : Nat} {xs : List Value} (h : w.ownsRow base 64 3 v n xs) : ∃ p cap, v = .slice p n cap := by
  obtain ⟨_, ⟨h1, h0⟩ | ⟨g, cap, cur, hv, _⟩⟩ := h
  · exact ⟨none, 0, by rw [h1, h0]⟩
  · exact ⟨_, cap, hv⟩
theorem wideM_len {s : List UInt8} : ∀ {ts : List Tk} {p : Nat}, Lies s p ts → (wideM ts).length + 2 * p ≤ 2 * s.length
  | [], p, h => by have := h.2; simp [wideM]; omega
  | t :: r, p, h => by
    obtain ⟨h1, h2, h3, _, _, _, h7⟩ := h
    have := wideM_len h7
    simp only [wideM, List.length_append, List.length_cons]
    omega
theorem wideM_take (l : List Tk) (k : Nat) : (wideM (l.take k)).length ≤ (wideM l).length := by
  induction l generalizing k with
  | nil => simp [wideM]
  | cons a r ih =>
    cases k with
    | zero => simp [wideM]
    | succ k =>
      have := ih k
      simp only [List.take_succ_cons, wideM, List.length_append, List.length_cons]
      omega
/-- the text so far -/
def wideP (ts : List Tk) (k : Nat) : ByteArray := ⟨(wideM (ts.take k)).toArray⟩
theorem wideP_step {ts : List Tk} {k : Nat} {t : Tk} (h : ts[k]? = some t) : wideP ts k ++ ⟨#[32]⟩ ++ ⟨t.text.toArray⟩ = wideP ts (k + 1) := by
  unfold wideP
  have : ts.take (k + 1) = ts.take k ++ [t] := by
    obtain ⟨hi, e⟩ := List.getElem?_eq_some_iff.1 h
    rw [List.take_succ_eq_append_getElem hi, e]
  rw [this, wideM_snoc]
  apply ByteArray.ext
  simp
theorem wideP_size {s : List UInt8} {ts : List Tk} (h : Lies s 0 ts) (hs : s.length ≤ 4096) (k : Nat) : (wideP ts k).size ≤ 8192 := by
  have h1 := wideM_len h
  have h2 := wideM_take ts k
  show ((wideM (ts.take k)).toArray).size ≤ _
  simp
  omega
theorem pwide_long (s : ByteArray) (w : World) (he : NameEnv w) (hs : ¬ s.size ≤ 100000) : Calls Tryz.prog 9 #[.string s] w (TruePost w) := by
  have H1 := Lib.hid (palive_any w he)
  have e1 : decide ((100000 : Int) < s.size) = true := by simp; omega
  clear hs he
  go_enter Tryz.func9, Tryz.ntmps9
  go_wp2_with fail
  refine H1.out.mono ?_
  rintro _ w1 ⟨rfl, hb⟩
  go_wp2_with fail
  go_ret
  exact ⟨rfl, hb⟩
theorem pwide_bad (s : ByteArray) (w : World) (he : NameEnv w) (hs : s.size ≤ 100000) (h : (toks s.data.toList).2.2 ≠ 0) : Calls Tryz.prog 9 #[.string s] w (TruePost w) := by
  have H1 := Lib.hid (palive_any w he)
  have h2 := fun W (h : Below w.heap.size w W) => tokens_any s (by omega) W (he.lex.keep h)
  obtain ⟨⟨ts, at_, er⟩, hr⟩ : ∃ r, r = toks s.data.toList := ⟨_, rfl⟩
  rw [← hr] at h2 h
  simp only at h
  unfold TokPost at h2
  simp only at h2
  have H2 := Lib.hid h2
  have e1 : (er != 0) = true := by simpa using h
  have e0 : decide ((100000 : Int) < s.size) = false := by simp; omega
  clear h2 he hr h
  go_enter Tryz.func9, Tryz.ntmps9
  go_wp2_with fail
  refine H1.out.mono ?_
  rintro _ w1 ⟨rfl, hb⟩
  go_wp2_with fail
  refine (H2.out _ hb).mono ?_
  rintro _ w2 ⟨v, rfl, ho, hb2⟩
  obtain ⟨p, cap, rfl⟩ := rowP_form ho
  have hbb := hb.trans (hb2.mono hb.size)
  clear ho hb hb2
  go_wp2_with fail
  go_ret
  exact ⟨rfl, hbb⟩
set_option maxRecDepth 100000 in
set_option maxHeartbeats 3200000 in
theorem pwide_ok (s : ByteArray) (w : World) (he : NameEnv w) (hs : s.size ≤ 100000) (h : (toks s.data.toList).2.2 = 0) : Calls Tryz.prog 9 #[.string s] w (TruePost w) := by
  have H1 := Lib.hid (palive_any w he)
  have h2 := fun W (h : Below w.heap.size w W) => tokens_any s (by omega) W (he.lex.keep h)
  obtain ⟨hlies, hsz⟩ := toks_lies h
  have hlen := lies_count hlies
  have hpw := parse_wide h
  obtain ⟨⟨ts, at_, er⟩, hr⟩ : ∃ r, r = toks s.data.toList := ⟨_, rfl⟩
  rw [← hr] at h2 h hlies hlen hpw
  simp only at h hlies hlen hpw
  subst h
  unfold TokPost at h2
  simp only at h2
  have H2 := Lib.hid h2
  have HE := Lib.hid he
  have hws := wideP_size hlies hsz
  have HWS := Lib.hid hws
  have HPW := Lib.hid hpw
  replace hlen : ts.length ≤ 4096 := by omega
  rw [size_len] at hsz
  have e0 : decide ((100000 : Int) < s.size) = false := by simp; omega
  clear h2 he hr hlies hws hpw
  go_enter Tryz.func9, Tryz.ntmps9
  go_wp2_with fail
  refine H1.out.mono ?_
  rintro _ w1 ⟨rfl, hb⟩
  go_wp2_with fail
  refine (H2.out _ hb).mono ?_
  rintro _ w2 ⟨v, rfl, ho, hb2⟩
  obtain ⟨p0, cap, rfl⟩ := rowP_form ho
  have HF2 := Lib.hid ((show Fr NoT w w1 from Fr.below hb).trans (Fr.below hb2))
  obtain ⟨n, hn⟩ : ∃ n, n = ts.length := ⟨_, rfl⟩
  rw [← hn] at ho hlen ⊢
  have HO := Lib.hid ho
  have HN := Lib.hid hn
  clear ho hb hb2 hn
  go_wp2_with fail
  go_loop [7, 8] (fun v7 v8 => ∃ k : Nat, k ≤ n ∧ v8 = .int .i64 k ∧ v7 = .string (wideP ts k)) (fun _ v8 => n - (intOf v8).toNat)
  case atStart => exact ⟨0, Nat.zero_le _, rfl, rfl⟩
  case round =>
    obtain ⟨k, hk, rfl, rfl⟩ := hrel
    by_cases hlt : k < n
    · obtain ⟨t, ht⟩ : ∃ t, ts[k]? = some t := ⟨_, List.getElem?_eq_getElem (by rw [← HN.out]; exact hlt)⟩
      have hx := HO.out
      rw [HN.out] at hx
      obtain ⟨g, c1, ev, hg, hgl, hc⟩ := tkP_cells hx ht
      simp only [Value.slice.injEq] at ev
      obtain ⟨rfl, -, -⟩ := ev
      have x1 := hc 1 (by omega)
      simp only [tkC, List.getElem?_cons_zero, List.getElem?_cons_succ, Nat.add_zero] at x1
      have hst := wideP_step ht
      have hsum : (wideP ts k).size + 1 + t.text.length ≤ 8192 := by
        have h1 := HWS.out (k + 1)
        rw [← hst] at h1
        have e : ((wideP ts k ++ ⟨#[32]⟩ ++ ⟨t.text.toArray⟩ : ByteArray)).size = (wideP ts k).size + 1 + t.text.length := by
          rw [ByteArray.size_append, ByteArray.size_append]
          rfl
        rw [e] at h1
        exact h1
      have z1 : (wideP ts k).size + 1 ≤ 9223372036854775807 := by omega
      have z2 : (wideP ts k).size + 1 + t.text.length ≤ 9223372036854775807 := by omega
      have HS := Lib.hid hst
      clear hst hsum
      clear hc hx ht
      go_wp2_with fail
      go_round
      case rel => exact ⟨k + 1, by omega, by go_num, by rw [← HS.out]⟩
      case measure => simp [intOf]; omega
    · obtain rfl : n = k := by omega
      have hx : wideP ts n = ⟨(wideM ts).toArray⟩ := by unfold wideP; rw [HN.out, List.take_length]
      have hxl : (wideP ts n).data.toList = wideM ts := by rw [hx]
      have hxz : (wideP ts n).size = (wideM ts).length := by rw [← size_len, hxl]
      obtain ⟨x, hxx⟩ : ∃ x, x = wideP ts n := ⟨_, rfl⟩
      have hx2 := HWS.out n
      rw [← hxx] at hxl hxz hx2 ⊢
      by_cases hbig : 4096 < x.size
      · have e3 : decide ((4096 : Int) < x.size) = true := by simp; omega
        clear hx hxl hxz hxx
        go_wp2_with fail
        go_ret
        exact ⟨rfl, HF2.out.plain⟩
      · have e3 : decide ((4096 : Int) < x.size) = false := by simp; omega
        have hpw := HPW.out (by omega)
        have h3 := fun W (h : Fr NoT w W) => parse_any s (by omega) W (HE.out.keep h.plain)
        have h4 := fun W (h : Fr NoT w W) => parse_any x (by omega) W (HE.out.keep h.plain)
        rw [hxl] at h4
        obtain ⟨⟨a, pa, ea⟩, hA⟩ : ∃ q, q = parseB s.data.toList := ⟨_, rfl⟩
        obtain ⟨⟨b, pb, eb⟩, hB⟩ : ∃ q, q = parseB (wideM ts) := ⟨_, rfl⟩
        rw [← hA] at h3 hpw
        rw [← hB] at h4 hpw
        simp only at hpw
        obtain ⟨rfl, hbare⟩ := hpw
        have H3 := Lib.hid h3
        have H4 := Lib.hid h4
        have HEQ := Lib.hid (eqT_alike hbare.symm)
        clear h3 h4 hx hxl hxz hxx hA hB hbare hbig
        go_wp2_with fail
        refine (H3.out _ HF2.out).mono ?_
        rintro _ w3 ⟨Av, Aa, Ap, Am, cv, ca, cp, cm, rfl, hT, hb3⟩
        simp only [trV]
        have HF3 := Lib.hid ((HF2.out.trans (Fr.below hb3)).alloc (.cells #[.slice Av a.vars.length cv, .slice Aa a.arrays.length ca, .slice Ap a.procs.length cp, .slice Am a.main.len cm] 27))
        have HK3 := Lib.hid (Bk.new w3 27 #[.slice Av a.vars.length cv, .slice Aa a.arrays.length ca, .slice Ap a.procs.length cp, .slice Am a.main.len cm])
        have HT3 := Lib.hid hT
        clear hT hb3
        go_wp2_with fail
        refine (H4.out _ HF3.out).mono ?_
        rintro _ w4 ⟨Bv, Ba, Bp, Bm, dv, da, dp, dm, rfl, hT, hb4⟩
        simp only [trV]
        have HF4 := Lib.hid ((HF3.out.trans (Fr.below hb4)).alloc (.cells #[.slice Bv b.vars.length dv, .slice Ba b.arrays.length da, .slice Bp b.procs.length dp, .slice Bm b.main.len dm] 27))
        have hk4 := (HK3.out.fr0 (Fr.below hb4)).alloc (.cells #[.slice Bv b.vars.length dv, .slice Ba b.arrays.length da, .slice Bp b.procs.length dp, .slice Bm b.main.len dm] 27)
        have hsm : Fr NoT w3 (w4.alloc (.cells #[.slice Bv b.vars.length dv, .slice Ba b.arrays.length da, .slice Bp b.procs.length dp, .slice Bm b.main.len dm] 27)) := (((Fr.refl NoT w3).alloc _).trans (Fr.below hb4)).alloc _
        have hal := ralikeT_any a b (w4.alloc (.cells #[.slice Bv b.vars.length dv, .slice Ba b.arrays.length da, .slice Bp b.procs.length dp, .slice Bm b.main.len dm] 27)) _ _ False False Av Aa Ap Am Bv Ba Bp Bm cv ca cp cm dv da dp dm (fun b hb => Nat.lt_of_lt_of_le hb.2 hsm.size) (fun b hb => Nat.lt_of_lt_of_le hb.2 (by simp)) (HT3.out.keep (hsm.same fun b hb => ⟨hb.2, id⟩)) (hT.keep (((Fr.refl NoT w4).alloc _).same fun b hb => ⟨hb.2, id⟩))
        rw [HEQ.out] at hal
        unfold trV at hal
        have HAL := Lib.hid hal
        obtain ⟨x0, x1, x2, x3, hxl⟩ := bk4 hk4
        clear hT hb4 hk4 hsm hal
        go_wp2_with (go_at_call 15; refine HAL.out.mono ?_; rintro _ w5 ⟨rfl, hy⟩; have HY := Lib.hid hy; clear hy)
        go_ret
        exact ⟨rfl, (HF4.out.trans HY.out).plain⟩
theorem pwide_any (s : ByteArray) (w : World) (he : NameEnv w) : Calls Tryz.prog 9 #[.string s] w (TruePost w) := by
  by_cases hs : s.size ≤ 100000
  · by_cases h : (toks s.data.toList).2.2 = 0
    · exact pwide_ok s w he hs h
    · exact pwide_bad s w he hs h
  · exact pwide_long s w he hs
end Go.Proofs.YtknckiblofochaaGreatDoor
