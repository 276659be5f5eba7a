/-
  law08.LexDoes.
-/
import Derived.Test.YtknckiblofochaaDoorLrSame
import Derived.Test.YtknckiblofochaaDoorLxAlive
namespace Go.Proofs.YtknckiblofochaaDoor
open Go.RowKit Go.Shelf
set_option linter.unusedVariables false
set_option linter.unusedSimpArgs false

theorem lexDoes_long (s t : ByteArray) (w : World) (h : (decide ((100000 : Int) < s.size) || decide ((100000 : Int) < t.size)) = true) : Calls Tryd.prog 6 #[.string s, .string t] w fun e w' => e = .returned (.bool true) ∧ w = w' := by
  cases h1 : decide ((100000 : Int) < s.size)
  · have h2 : decide ((100000 : Int) < t.size) = true := by rw [h1] at h; simpa using h
    clear h
    go_enter Tryd.func6, Tryd.ntmps6
    go_wp2
    go_ret
    exact ⟨rfl, rfl⟩
  · clear h
    go_enter Tryd.func6, Tryd.ntmps6
    go_wp2
    go_ret
    exact ⟨rfl, rfl⟩
theorem toksF_len : ∀ (f : Nat) (l : List UInt8) (p : Nat), (toksF f l p).1.length ≤ l.length
  | 0, _, _ => Nat.zero_le _
  | f + 1, l, p => by
    rw [toksF]
    simp only
    split
    · exact Nat.zero_le _
    · rename_i h0
      split
      · rename_i h1
        have hp := firstT_pos h1
        have ih := toksF_len f ((l.drop (runB isBlk l)).drop (firstT (l.drop (runB isBlk l))).2.1) (p + runB isBlk l + (firstT (l.drop (runB isBlk l))).2.1)
        rw [List.length_drop, List.length_drop] at ih
        rw [List.length_drop] at h0
        split
        · rw [List.length_cons]; omega
        · omega
      · exact Nat.zero_le _
theorem toks_len (l : List UInt8) : (toks l).1.length ≤ 4096 := by
  unfold toks
  split
  · exact Nat.zero_le _
  · have := toksF_len (l.length + 1) l 0
    omega
set_option maxRecDepth 100000 in
theorem lexDoes_short (s t : ByteArray) (w : World) (he : NameEnv w) (hs : s.size ≤ 100000) (ht : t.size ≤ 100000) : Calls Tryd.prog 6 #[.string s, .string t] w fun e w' => e = .returned (.bool true) ∧ Below w.heap.size w w' := by
  have hl := toks_len s.data.toList
  obtain ⟨r, hr⟩ : ∃ r, r = toks s.data.toList := ⟨_, rfl⟩
  have h1 := tokens_any s (by omega) w he.lex
  have h2 := fun W => rtokens_any s W (by omega)
  rw [← hr] at h1 h2 hl
  have HE := Lib.hid he
  have H1 := Lib.hid h1
  have H2 := Lib.hid h2
  clear h1 h2 he hr
  go_enter Tryd.func6, Tryd.ntmps6
  go_wp2_with fail
  refine H1.out.mono ?_
  rintro _ w1 ⟨v1, rfl, ho1, hb1⟩
  have HO1 := Lib.hid ho1
  have HB1 := Lib.hid hb1
  clear ho1 hb1
  go_wp2_with fail
  refine (H2.out _).mono ?_
  rintro _ w2 ⟨v2, rfl, ho2, hb2⟩
  have hk := HO1.out.kept (only_of_below hb2 none) (by rcases Option.eq_none_or_eq_some v1.ownBlock with h | ⟨_, h⟩ <;> simp [h])
  have hsame := rsame_any r.1 r.1 v1 v2 w2 _ _ hk ho2 hl hl
  rw [beq_self_eq_true] at hsame
  have HS := Lib.hid hsame
  have hb12 := HB1.out.trans (hb2.mono HB1.out.size)
  have HB2 := Lib.hid hb12
  clear ho2 hb2 hk hsame hb12
  go_wp2_with fail
  refine HS.out.mono ?_
  rintro _ w3 ⟨rfl, q, rfl⟩
  have hb3 : Below w.heap.size w (w2.drewN q) := ⟨HB2.out.os, HB2.out.tape, HB2.out.output, HB2.out.size, HB2.out.block⟩
  have hKA := keyword_any t (w2.drewN q) (HE.out.keep hb3)
  have HKA := Lib.hid hKA
  clear hKA
  go_wp2_with fail
  refine HKA.out.mono ?_
  rintro _ w4 ⟨rfl, hb4⟩
  have hb4' := hb3.trans (hb4.mono hb3.size)
  clear hb4
  go_wp2_with fail
  refine (rkeyword_any t w4).mono ?_
  rintro _ w5 ⟨rfl, hb5⟩
  have hb5' := hb4'.trans (hb5.mono hb4'.size)
  clear hb5
  go_wp2_with fail
  refine (name_any t (by omega) w5 (HE.out.keep hb5')).mono ?_
  rintro _ w6 ⟨rfl, hb6⟩
  have hb6' := hb5'.trans (hb6.mono hb5'.size)
  clear hb6
  go_wp2_with fail
  refine (rname_any t ht w6).mono ?_
  rintro _ w7 ⟨rfl, hb7⟩
  have hb7' := hb6'.trans (hb7.mono hb6'.size)
  clear hb7
  go_wp2_with fail
  go_ret
  exact ⟨by simp, hb7'⟩
/-- LexDoes is true, whatever the texts -/
theorem lexDoes_any (s t : ByteArray) (w : World) (he : NameEnv w) : Calls Tryd.prog 6 #[.string s, .string t] w fun e w' => e = .returned (.bool true) ∧ Below w.heap.size w w' := by
  by_cases hs : s.size ≤ 100000
  · by_cases ht : t.size ≤ 100000
    · exact lexDoes_short s t w he hs ht
    · exact (lexDoes_long s t w (by simp; omega)).mono fun _ _ ⟨h1, h2⟩ => ⟨h1, by rw [← h2]; exact Below.refl _ _⟩
  · exact (lexDoes_long s t w (by simp; omega)).mono fun _ _ ⟨h1, h2⟩ => ⟨h1, by rw [← h2]; exact Below.refl _ _⟩
end Go.Proofs.YtknckiblofochaaDoor
