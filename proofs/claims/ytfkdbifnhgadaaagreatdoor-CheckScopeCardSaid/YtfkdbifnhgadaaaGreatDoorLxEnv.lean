/-
  The library's contracts as chapter 8 uses them: a numeral parsed and printed again.
-/
import Derived.Test.YtfkdbifnhgadaaaGreatDoorLxFns
import Derived.Test.YtfkdbifnhgadaaaGreatDoorLxNum
import Derived.Test.YtfkdbifnhgadaaaGreatDoorShelf
import Derived.Below
import Derived.Lib.SmallJoins
namespace Go.Proofs.YtfkdbifnhgadaaaGreatDoor
open Go.RowKit Go.Shelf
set_option linter.unusedVariables false
set_option linter.unusedSimpArgs false

theorem var_keep {P : Program} {w w' : World} {n : String} {cs : Array Value} (h : Below w.heap.size w w') (hv : w.var? P n = some cs) : w'.var? P n = some cs := by
  unfold World.var? at hv ⊢
  cases hg : P.globalNamed n with
  | none => rw [hg] at hv; cases hv
  | some g =>
    rw [hg] at hv
    simp only [Option.bind_some] at hv ⊢
    have hlt : g < w.heap.size := by
      rcases Nat.lt_or_ge g w.heap.size with hlt | hge
      · exact hlt
      · rw [Array.getElem?_eq_none hge] at hv; cases hv
    rw [h.block g hlt]
    exact hv
/-- what the library's variables hold -/
structure LexEnv (w : World) : Prop where
  er : ∃ tp p, w.var? Tryz.prog "strconv.ErrRange" = some #[.iface tp p]
  tab : Lib.TabIs Tryz.prog w "internal/strconv.uint64pow10" .u64 Lib.pow10Tab
theorem LexEnv.keep {w w' : World} (h : LexEnv w) (hb : Below w.heap.size w w') : LexEnv w' := by
  obtain ⟨tp, p, he⟩ := h.er
  exact ⟨⟨tp, p, var_keep hb he⟩, by have := h.tab; unfold Lib.TabIs at this ⊢; exact var_keep hb this⟩

theorem below_bytes (w : World) (e : TypeId) (t : ByteArray) : Below w.heap.size w (Lib.bytesWorld w e t) := Go.Joins.below_bytesWorld _ _ _ _ (Nat.le_refl _)
theorem below_grow (w : World) (k : Nat) (os : Array Obj) : Below w.heap.size w (Go.Sort.grow (w.drewN k) os) := by
  refine ⟨rfl, rfl, rfl, by simp [Go.Sort.grow], fun i hi => ?_⟩
  show (w.heap ++ os)[i]? = w.heap[i]?
  rw [Array.getElem?_append_left hi]

def IsIface (v : Value) : Prop := ∃ t p, v = .iface t p
/-- strconv.ParseInt of digits that are not too great -/
theorem pint_ok (s : ByteArray) (hs : s.size ≤ 4096) (hd : allDig s.data.toList) (hn : s.data.toList ≠ []) (hv : decV s.data.toList ≤ 9223372036854775807) (w : World) :
    Calls Tryz.prog 117 #[.string s, .int .i64 10, .int .i64 64] w fun e w' => e = .returned (.tuple #[.int .i64 (decV s.data.toList), .nilIface]) ∧ Below w.heap.size w w' := by
  refine (Tryz.strconv_ParseInt_10_at64_ok s (by omega) (decV s.data.toList) (by rw [parseInt_dig _ hd hn, if_pos hv]) w).mono ?_
  rintro e w' ⟨rfl, h⟩
  refine ⟨rfl, ?_⟩
  rcases h with rfl | ⟨t, rfl⟩
  · exact Below.refl _ _
  · exact below_bytes _ _ _
theorem pint_no (s : ByteArray) (hs : s.size ≤ 4096) (hd : allDig s.data.toList) (hn : s.data.toList ≠ []) (hv : ¬ decV s.data.toList ≤ 9223372036854775807) (w : World) (he : LexEnv w) :
    Calls Tryz.prog 117 #[.string s, .int .i64 10, .int .i64 64] w fun e w' => ∃ n t p, e = .returned (.tuple #[.int .i64 n, .iface t p]) ∧ Below w.heap.size w w' := by
  obtain ⟨tp, p, hvar⟩ := he.er
  refine (Tryz.strconv_ParseInt_10_at64_range_var s (by omega) (by rw [parseInt_dig _ hd hn, if_neg hv]) tp p w hvar).mono ?_
  rintro e w' ⟨N, rfl, _, _, hb⟩
  exact ⟨_, _, _, rfl, hb⟩
theorem fint_any (n : Nat) (hn : n ≤ 9223372036854775807) (w : World) (he : LexEnv w) :
    Calls Tryz.prog 118 #[.int .i64 n, .int .i64 10] w fun e w' => e = .returned (.string ⟨(Lib.itoa (n : Int)).toArray⟩) ∧ Below w.heap.size w w' := by
  refine (Tryz.strconv_FormatInt_10 (n : Int) (by omega) (by omega) w he.tab).mono ?_
  rintro e w' ⟨rfl, k, os, rfl⟩
  exact ⟨rfl, below_grow _ _ _⟩
end Go.Proofs.YtfkdbifnhgadaaaGreatDoor
