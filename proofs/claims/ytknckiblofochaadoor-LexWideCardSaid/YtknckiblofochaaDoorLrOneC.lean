/-
  ref08.one: the token at a place: a sign, or none.
-/
import Derived.Test.YtknckiblofochaaDoorLrOneB
namespace Go.Proofs.YtknckiblofochaaDoor
open Go.RowKit Go.Shelf
set_option linter.unusedVariables false
set_option linter.unusedSimpArgs false

theorem signL_split : signL = longs ++ shorts.map (fun b => [b]) := by decide
theorem longs_two : ∀ t ∈ longs, t.length = 2 := by decide
theorem longs_some {l : List UInt8} (h : (longs.any fun t => l.take 2 == t) = true) : ∃ t, signL.find? (fun s => s.isPrefixOf l) = some t ∧ t.length = 2 := by
  rw [signL_split, List.find?_append]
  cases hf : longs.find? (fun s => s.isPrefixOf l) with
  | some t => exact ⟨t, rfl, longs_two t (List.mem_of_find?_eq_some hf)⟩
  | none =>
    exfalso
    rw [List.any_eq_true] at h
    obtain ⟨t, ht, he⟩ := h
    have := List.find?_eq_none.1 hf t ht
    rw [beq_iff_eq] at he
    exact this (List.isPrefixOf_iff_prefix.2 (by rw [← he]; exact List.take_prefix 2 l))
theorem longs_none {l : List UInt8} (h : (longs.any fun t => l.take 2 == t) = false) : longs.find? (fun s => s.isPrefixOf l) = none := by
  rw [List.find?_eq_none]
  intro t ht hp
  have h2 := List.prefix_iff_eq_take.1 (List.isPrefixOf_iff_prefix.1 hp)
  rw [longs_two t ht] at h2
  have : (longs.any fun t => l.take 2 == t) = true := List.any_eq_true.2 ⟨t, ht, by rw [← h2]; simp⟩
  rw [this] at h; exact absurd h (by simp)
theorem shorts_some {a : UInt8} {r : List UInt8} (hl : (longs.any fun t => (a :: r).take 2 == t) = false) (h : shortR (a.toNat : Int) = true) : signL.find? (fun s => s.isPrefixOf (a :: r)) = some [a] := by
  rw [signL_split, List.find?_append, longs_none hl, Option.none_or]
  cases hf : (shorts.map (fun b => [b])).find? (fun s => s.isPrefixOf (a :: r)) with
  | some t =>
    have h1 := List.mem_of_find?_eq_some hf
    have h2 := List.find?_some hf
    obtain ⟨b, _, rfl⟩ := List.mem_map.1 h1
    simp at h2
    rw [h2]
  | none =>
    exfalso
    unfold shortR at h
    rw [List.any_eq_true] at h
    obtain ⟨b, hb, he⟩ := h
    have h3 := List.find?_eq_none.1 hf [b] (List.mem_map.2 ⟨b, hb, rfl⟩)
    rw [beq_iff_eq] at he
    have : b = a := UInt8.toNat_inj.1 (by omega)
    subst this
    simp at h3
theorem shorts_none {a : UInt8} {r : List UInt8} (hl : (longs.any fun t => (a :: r).take 2 == t) = false) (h : shortR (a.toNat : Int) = false) : signL.find? (fun s => s.isPrefixOf (a :: r)) = none := by
  rw [signL_split, List.find?_append, longs_none hl, Option.none_or, List.find?_eq_none]
  intro t ht hp
  obtain ⟨b, hb, rfl⟩ := List.mem_map.1 ht
  simp at hp
  subst hp
  have : shortR (b.toNat : Int) = true := List.any_eq_true.2 ⟨b, hb, by simp⟩
  rw [this] at h; exact absurd h (by simp)
theorem longR_eq (s : ByteArray) (p : Nat) (l : List UInt8) (hll : l = s.data.toList.drop p) (hp : p ≤ s.size) : longR s p = longs.any fun t => l.take 2 == t := by
  unfold longR
  have ht : (s.extract p (p + 2)).toList = l.take 2 := by rw [ByteArray.toList_eq, hll]; exact sub_data s p 2
  rw [ht]
  by_cases h : p + 2 ≤ s.size
  · rw [decide_eq_true h, Bool.true_and]
  · rw [decide_eq_false h, Bool.false_and]
    symm
    rw [Bool.eq_false_iff]
    intro hh
    rw [List.any_eq_true] at hh
    obtain ⟨t, ht, he⟩ := hh
    rw [beq_iff_eq] at he
    have h2 := longs_two t ht
    rw [← he, List.length_take, hll, List.length_drop, size_len] at h2
    omega
set_option maxRecDepth 100000 in
set_option maxHeartbeats 3200000 in
theorem rone_sign (s : ByteArray) (p : Nat) (hs : s.size ≤ 4096) (hp : p < s.size) (w : World) (hl : letR ((s[p]'hp).toNat : Int) = false) (hdg : digR ((s[p]'hp).toNat : Int) = false) : Calls Tryd.prog 25 #[.string s, .int .i64 p] w (OnePost (s.data.toList.drop p) p w) := by
  obtain ⟨l, hll⟩ : ∃ l, l = s.data.toList.drop p := ⟨_, rfl⟩
  have hlen : l.length = s.size - p := by rw [hll, List.length_drop, size_len]
  have htk : ∀ n, (s.extract p (p + n)).data.toList = l.take n := fun n => by rw [hll]; exact sub_data s p n
  have h0 : l[0]? = some (s[p]'hp) := by rw [hll]; exact at_drop s p 0 hp
  have hlong := longR_eq s p l hll (by omega)
  rw [← hll]
  obtain ⟨a, ha⟩ : ∃ a, a = s[p]'hp := ⟨_, rfl⟩
  obtain ⟨r, hr⟩ : ∃ r, l = a :: r := by
    cases l with
    | nil => simp at h0
    | cons b r => simp at h0; exact ⟨r, by rw [h0, ha]⟩
  have hd0 : ¬ 0 < runB isDig l := by rw [hr, runB_zero (by rw [ha, ← low_d, hdg])]; simp
  have hw0 : runB isWd l = 0 := by rw [hr, runB_zero (by unfold isWd; rw [ha, ← low_d, ← low_l, hdg, hl]; rfl)]
  have hf : firstT l = match signL.find? (fun x => x.isPrefixOf l) with | some x => ((3 : Int), x.length, (0 : Int)) | none => ((0 : Int), 0, (80 : Int)) := by
    rw [firstT_none hd0, hw0]; rfl
  have hcl : ∀ W, Calls Tryd.prog 26 #[.int .u8 (s[p]'hp).toNat] W fun e w' => e = .returned (.bool false) ∧ W = w' := fun W => by
    have := rletter_any ((s[p]'hp).toNat : Int) W
    rw [hl] at this; exact this
  have hcd : ∀ W, Calls Tryd.prog 27 #[.int .u8 (s[p]'hp).toNat] W fun e w' => e = .returned (.bool false) ∧ W = w' := fun W => by
    have := rdigit_any ((s[p]'hp).toNat : Int) W
    rw [hdg] at this; exact this
  have hlo : ∀ W, Calls Tryd.prog 37 #[.string s, .int .i64 p] W fun e w' => e = .returned (.bool (longR s p)) ∧ W = w' := fun W => rlong_any s p hs (by omega) W
  have hsh : ∀ W, Calls Tryd.prog 38 #[.int .u8 (s[p]'hp).toNat] W fun e w' => e = .returned (.bool (shortR (a.toNat : Int))) ∧ W = w' := fun W => by
    rw [ha]; exact rshort_any _ W
  have HCL := Lib.hid hcl
  have HCD := Lib.hid hcd
  have HT := Lib.hid htk
  cases h1 : (longs.any fun t => l.take 2 == t)
  · rw [hlong, h1] at hlo
    have HLO := Lib.hid hlo
    rw [hr] at h1
    cases h2 : shortR (a.toNat : Int)
    · rw [h2] at hsh
      have HSH := Lib.hid hsh
      have hf2 : firstT l = (0, 0, 80) := by rw [hf, hr, shorts_none h1 h2]
      have HF2 := Lib.hid hf2
      clear hcl hcd htk hlo hsh hf hf2 hl hdg h0 hll h1 h2 hlong ha hr hd0 hw0
      go_enter Tryd.func25, Tryd.ntmps25
      go_wp2_with fail
      refine (HCL.out _).mono ?_
      rintro _ w1 ⟨rfl, rfl⟩
      go_wp2_with fail
      refine (HCD.out _).mono ?_
      rintro _ w1 ⟨rfl, rfl⟩
      go_wp2_with fail
      refine (HLO.out _).mono ?_
      rintro _ w1 ⟨rfl, rfl⟩
      go_wp2_with fail
      refine (HSH.out _).mono ?_
      rintro _ w1 ⟨rfl, rfl⟩
      go_wp2_with fail
      exact bodyPost_ret (v := .tuple #[.agg #[.int .u8 0, .string ⟨#[]⟩, .int .i64 0], .int .i64 80]) (by simp [results, Tryd.results25, go_sem]) rfl (onePost_of (tx := ⟨#[]⟩) HF2.out (by simp) ((Below.refl _ _).alloc (Nat.le_refl _) _))
    · rw [h2] at hsh
      have HSH := Lib.hid hsh
      have hf2 : firstT l = (3, 1, 0) := by rw [hf, hr, shorts_some h1 h2]; rfl
      have HF2 := Lib.hid hf2
      clear hcl hcd htk hlo hsh hf hf2 hl hdg h0 hll h1 h2 hlong ha hr hd0 hw0
      go_enter Tryd.func25, Tryd.ntmps25
      go_wp2_with fail
      refine (HCL.out _).mono ?_
      rintro _ w1 ⟨rfl, rfl⟩
      go_wp2_with fail
      refine (HCD.out _).mono ?_
      rintro _ w1 ⟨rfl, rfl⟩
      go_wp2_with fail
      refine (HLO.out _).mono ?_
      rintro _ w1 ⟨rfl, rfl⟩
      go_wp2_with fail
      refine (HSH.out _).mono ?_
      rintro _ w1 ⟨rfl, rfl⟩
      go_wp2_with fail
      exact bodyPost_ret (v := .tuple #[.agg #[.int .u8 3, .string (s.extract p (p + 1)), .int .i64 p], .int .i64 0]) (by simp [results, Tryd.results25, go_sem]) rfl (onePost_of HF2.out (HT.out 1) ((Below.refl _ _).alloc (Nat.le_refl _) _))
  · rw [hlong, h1] at hlo
    have HLO := Lib.hid hlo
    obtain ⟨t, ht, htl⟩ := longs_some h1
    have hf2 : firstT l = (3, 2, 0) := by rw [hf, ht, ← htl]
    have HF2 := Lib.hid hf2
    have hp2 : p + 2 ≤ s.size := by
      rw [h1] at hlong
      unfold longR at hlong
      simp only [Bool.and_eq_true, decide_eq_true_eq] at hlong
      exact hlong.1
    clear hcl hcd htk hlo hsh hf hf2 hl hdg h0 hll h1 hlong ha hr hd0 hw0 ht htl
    go_enter Tryd.func25, Tryd.ntmps25
    go_wp2_with fail
    refine (HCL.out _).mono ?_
    rintro _ w1 ⟨rfl, rfl⟩
    go_wp2_with fail
    refine (HCD.out _).mono ?_
    rintro _ w1 ⟨rfl, rfl⟩
    go_wp2_with fail
    refine (HLO.out _).mono ?_
    rintro _ w1 ⟨rfl, rfl⟩
    go_wp2_with fail
    exact bodyPost_ret (v := .tuple #[.agg #[.int .u8 3, .string (s.extract p (p + 2)), .int .i64 p], .int .i64 0]) (by simp [results, Tryd.results25, go_sem]) rfl (onePost_of HF2.out (HT.out 2) ((Below.refl _ _).alloc (Nat.le_refl _) _))
/-- THE CONTRACT of ref08.one -/
theorem rone_any (s : ByteArray) (p : Nat) (hs : s.size ≤ 4096) (hp : p < s.size) (w : World) : Calls Tryd.prog 25 #[.string s, .int .i64 p] w (OnePost (s.data.toList.drop p) p w) := by
  cases h1 : letR ((s[p]'hp).toNat : Int)
  · cases h2 : digR ((s[p]'hp).toNat : Int)
    · exact rone_sign s p hs hp w h1 h2
    · exact rone_num s p hs hp w h1 h2
  · exact rone_word s p hs hp w h1
end Go.Proofs.YtknckiblofochaaDoor
