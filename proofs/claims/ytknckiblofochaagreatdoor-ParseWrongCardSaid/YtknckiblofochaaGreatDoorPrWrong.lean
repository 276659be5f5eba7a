/-
  law09.ParseWrong: all ways.
-/
import Derived.Test.YtknckiblofochaaGreatDoorPrWrong1
import Derived.Test.YtknckiblofochaaGreatDoorPrWrong2
import Derived.Test.YtknckiblofochaaGreatDoorPrWrong3
import Derived.Test.YtknckiblofochaaGreatDoorPrWrong4
namespace Go.Proofs.YtknckiblofochaaGreatDoor
open Go.RowKit Go.Shelf
set_option linter.unusedVariables false
set_option linter.unusedSimpArgs false

theorem pwrong_any (s o : ByteArray) (w : World) (he : NameEnv w) : Calls Tryz.prog 8 #[.string s, .string o] w (TruePost w) := by
  by_cases hl : 4096 < s.size ∨ 4096 < o.size
  · exact pwrong_long s o w he hl
  have hs : s.size ≤ 4096 := by omega
  have ho : o.size ≤ 4096 := by omega
  by_cases h : (parseB s.data.toList).2.2 = 0
  · exact pwrong_right s o w he hs ho h
  by_cases h2 : ((parseB s.data.toList).2.2 = 90 ∨ (parseB s.data.toList).2.2 = 91) ∧ (parseB s.data.toList).2.1 < s.size
  rotate_left
  · exact pwrong_else s o w he hs ho h h2
  obtain ⟨h2, h3⟩ := h2
  obtain ⟨hm0, hp0, hp1, hmain⟩ := parse_wrong h
  obtain ⟨p, hp, hps, hcut, x, l, hl, hrep⟩ := hmain h2 (by rw [size_len]; exact h3)
  rw [size_len] at hps
  have h4 := fun W (h : Fr NoT w W) => parse_any s (by omega) W (he.keep h.plain)
  have h5 := fun W (h : Fr NoT w W) => parse_any (s.extract 0 p) (by rw [ByteArray.size_extract]; omega) W (he.keep h.plain)
  have ht1 : (s.extract 0 p).data.toList = s.data.toList.take p := by simp
  have ht2 : (s.extract p s.size).data.toList = s.data.toList.drop p := by simp; exact List.take_of_length_le (by simp)
  rw [ht1] at h5
  have h6 := fun W (h : Fr NoT w W) => tokens_any (s.extract p s.size) (by rw [ByteArray.size_extract]; omega) W (he.lex.keep h.plain)
  rw [ht2, hl] at h6
  have h7 := fun W (h : Fr NoT w W) => tokens_any o (by omega) W (he.lex.keep h.plain)
  have hlies := (toks_lies (s := s.data.toList.drop p) (by rw [hl])).1
  have hll : (x :: l).length ≤ 4096 := by
    have := lies_count hlies
    rw [hl, List.length_drop, size_len] at this
    simp only at this
    omega
  have hxl : x.text.length ≤ 4096 := by
    have h8 := lies_at hlies x (by rw [hl]; simp)
    rw [List.length_drop, size_len] at h8
    omega
  obtain ⟨⟨m, pm, em⟩, hM⟩ : ∃ q, q = toks o.data.toList := ⟨_, rfl⟩
  rw [← hM] at h7
  have hml : em = 0 → m.length ≤ 4096 := fun e => by
    subst e
    have := lies_count (toks_lies (s := o.data.toList) (by rw [← hM])).1
    rw [← hM, size_len] at this
    simp only at this
    omega
  have hz : (⟨x.text.toArray⟩ : ByteArray).size = x.text.length := rfl
  have ht3 : (s.extract 0 p ++ ⟨x.text.toArray⟩ ++ ⟨#[32]⟩ ++ o : ByteArray).data.toList = s.data.toList.take p ++ x.text ++ 32 :: o.data.toList := by simp
  have h8 : em = 0 → p + (⟨x.text.toArray⟩ : ByteArray).size + 1 + o.size ≤ 4096 → ∀ W, Fr NoT w W → Calls Tryz.prog 26 #[.string (s.extract 0 p ++ ⟨x.text.toArray⟩ ++ ⟨#[32]⟩ ++ o)] W (ParsP ((parseB (s.data.toList.take p ++ x.text ++ 32 :: o.data.toList)).1, (p : Int), (parseB s.data.toList).2.2) W) := fun e hb W hW => by
    subst e
    have hlen : (s.data.toList.take p ++ x.text ++ 32 :: o.data.toList).length = p + x.text.length + 1 + o.size := by
      rw [List.length_append, List.length_append, List.length_take, List.length_cons, size_len, size_len]
      omega
    rw [hz] at hb
    have hr := hrep o.data.toList m (by
      have := toks_zero (s := o.data.toList) (by rw [← hM])
      rw [this, ← hM]) (by rw [hlen]; exact hb)
    have := parse_any (s.extract 0 p ++ ⟨x.text.toArray⟩ ++ ⟨#[32]⟩ ++ o) (by rw [← size_len, ht3, hlen]; omega) W (he.keep hW.plain)
    rw [ht3] at this
    have e2 : parseB (s.data.toList.take p ++ x.text ++ 32 :: o.data.toList) = ((parseB (s.data.toList.take p ++ x.text ++ 32 :: o.data.toList)).1, (p : Int), (parseB s.data.toList).2.2) := Prod.ext rfl (Prod.ext (hr.1.trans hp) hr.2)
    rw [e2] at this
    exact this
  obtain ⟨⟨a, pa, ea⟩, hA⟩ : ∃ q, q = parseB s.data.toList := ⟨_, rfl⟩
  obtain ⟨⟨b, pb, eb⟩, hB⟩ : ∃ q, q = parseB (s.data.toList.take p) := ⟨_, rfl⟩
  rw [← hA] at h4 hm0 hp h2 h8
  rw [← hB] at h5 hcut
  simp only at hm0 hp h2 hcut h8
  subst hp
  rcases h2 with rfl | rfl
  · rcases hcut with rfl | ⟨rfl, rfl⟩
    · exact pwrong_1 s o (⟨x.text.toArray⟩ : ByteArray) w p a b _ pb em m pm x l hs ho hps hxl rfl hll hml hm0 (palive_any w he) h4 h5 h6 h7 h8
    · exact pwrong_2 s o (⟨x.text.toArray⟩ : ByteArray) w p a b _ em m pm x l hs ho hps hxl rfl hll hml hm0 (palive_any w he) h4 h5 h6 h7 h8
  · rcases hcut with rfl | ⟨rfl, rfl⟩
    · exact pwrong_3 s o (⟨x.text.toArray⟩ : ByteArray) w p a b _ pb em m pm x l hs ho hps hxl rfl hll hml hm0 (palive_any w he) h4 h5 h6 h7 h8
    · exact pwrong_4 s o (⟨x.text.toArray⟩ : ByteArray) w p a b _ em m pm x l hs ho hps hxl rfl hll hml hm0 (palive_any w he) h4 h5 h6 h7 h8
end Go.Proofs.YtknckiblofochaaGreatDoor
