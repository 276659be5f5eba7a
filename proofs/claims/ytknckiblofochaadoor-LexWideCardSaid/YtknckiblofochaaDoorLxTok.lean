/-
  lex.first whole, and lex.Tokens: a text's tokens.
-/
import Derived.Test.YtknckiblofochaaDoorLxFirst
namespace Go.Proofs.YtknckiblofochaaDoor
open Go.RowKit Go.Shelf
set_option linter.unusedVariables false
set_option linter.unusedSimpArgs false

theorem firstT_num {l : List UInt8} (h : 0 < runB isDig l) : firstT l = if (numB (l.take (runB isDig l)) && !decide (runB isDig l < runB isWd l)) = true then (2, runB isDig l, 0) else (0, 0, 81) := by
  unfold firstT
  rw [if_pos h]
theorem firstT_none {l : List UInt8} (h : ¬ 0 < runB isDig l) : firstT l = if 16 < runB isWd l then ((0 : Int), 0, (82 : Int)) else if 0 < runB isWd l then ((1 : Int), runB isWd l, (0 : Int)) else match signL.find? (fun x => x.isPrefixOf l) with | some x => ((3 : Int), x.length, (0 : Int)) | none => ((0 : Int), 0, (80 : Int)) := by
  unfold firstT
  rw [if_neg h]
  rfl
/-- THE CONTRACT of lex.first -/
theorem first_any (s : ByteArray) (hs : s.size ≤ 4096) (w : World) (he : LexEnv w) : Calls Tryd.prog 18 #[.string s] w (FirstPost s.data.toList w) := by
  have hc := firstCalls s hs
  have hsz : s.data.toList.length = s.size := by simp
  have hdl := runB_le isDig s.data.toList
  have hnl := runB_le isWd s.data.toList
  by_cases hd0 : 0 < runB isDig s.data.toList
  · have hf := firstT_num hd0
    obtain ⟨d, hd⟩ : ∃ d, d = runB isDig s.data.toList := ⟨_, rfl⟩
    obtain ⟨n, hn⟩ : ∃ d, d = runB isWd s.data.toList := ⟨_, rfl⟩
    have hdig := takeWhile_dig s.data.toList
    rw [← hd] at hdig hd0 hf hc hdl
    rw [← hn] at hf hc hnl
    have htd := take_data s d
    have hds : d ≤ s.size := by omega
    have hne : s.data.toList.take d ≠ [] := by
      intro e
      have := congrArg List.length e
      rw [List.length_take, List.length_nil] at this
      omega
    rw [← htd] at hdig hne hf
    have hes : (s.extract 0 d).size ≤ 4096 := by
      have : (s.extract 0 d).data.toList.length = (s.extract 0 d).size := by simp
      rw [htd] at this
      have h2 : (s.data.toList.take d).length ≤ d := List.length_take_le _ _
      omega
    by_cases hv : decV (s.extract 0 d).data.toList ≤ 9223372036854775807
    · have hP : ∀ W, Calls Tryd.prog 29 #[.string (s.extract 0 d), .int .i64 10, .int .i64 64] W fun e w' => e = .returned (.tuple #[.int .i64 (decV (s.extract 0 d).data.toList), .nilIface]) ∧ Below W.heap.size W w' := fun W =>
        pint_ok (s.extract 0 d) hes hdig hne hv W
      have hI : ∀ W, Below w.heap.size w W → Calls Tryd.prog 30 #[.int .i64 (decV (s.extract 0 d).data.toList), .int .i64 10] W fun e w' => e = .returned (.string ⟨(Lib.itoa (decV (s.extract 0 d).data.toList : Int)).toArray⟩) ∧ Below W.heap.size W w' := fun W h =>
        fint_any _ hv W (he.keep h)
      have hsame := itoa_same (s.extract 0 d).data.toList hdig hne
      have hnum : numB (s.extract 0 d).data.toList = ((s.extract 0 d).data.toList.length == 1 || !((s.extract 0 d).data.toList.head? == some 48)) := by
        unfold numB
        rw [decide_eq_true hv, Bool.and_true]
      rw [hnum, ← hsame] at hf
      cases hz : (Lib.itoa (decV (s.extract 0 d).data.toList : Int) == (s.extract 0 d).data.toList)
      · rw [hz] at hf
        rw [if_neg (by simp)] at hf
        exact first_num3 s w d n _ ⟨(Lib.itoa (decV (s.extract 0 d).data.toList : Int)).toArray⟩ (by rw [ByteArray.toList_mk, ByteArray.toList_eq]; exact hz) hc hd0 hds hs (by omega) hP hI hf
      · have e : (⟨(Lib.itoa (decV (s.extract 0 d).data.toList : Int)).toArray⟩ : ByteArray) = s.extract 0 d := by
          rw [eq_of_beq hz]
        rw [e] at hI
        rw [hz] at hf
        cases hl : decide (d < n)
        · rw [hl] at hf
          rw [if_pos (by simp)] at hf
          exact first_num s w d n _ hc hd0 hds hs (by omega) hP hI hl hf
        · rw [hl] at hf
          rw [if_neg (by simp)] at hf
          exact first_num2 s w d n _ hc hd0 hds hs (by omega) hP hI hl hf
    · have hnum : numB (s.extract 0 d).data.toList = false := by unfold numB; rw [decide_eq_false hv, Bool.and_false]
      rw [hnum] at hf
      rw [if_neg (by simp)] at hf
      exact first_num4 s w d n hc hd0 hds hs (by omega) hf fun W h => pint_no (s.extract 0 d) hes hdig hne hv W (he.keep h)
  · have h0 : runB isDig s.data.toList = 0 := by omega
    have hf := firstT_none hd0
    rw [h0] at hc
    by_cases hw : 16 < runB isWd s.data.toList
    · rw [if_pos hw] at hf
      exact first_long s w _ hc hw (by omega) hf
    · rw [if_neg hw] at hf
      by_cases hn0 : 0 < runB isWd s.data.toList
      · rw [if_pos hn0] at hf
        exact first_word s w _ hc hw hn0 (by omega) hs hf
      · rw [if_neg hn0] at hf
        have h1 : runB isWd s.data.toList = 0 := by omega
        rw [h1] at hc
        exact first_sign s w hc hf

/-! tokens in memory -/
/-- a token's cells -/
def tkC (t : Tk) : List Value := [.int .u8 t.kind, .string ⟨t.text.toArray⟩, .int .i64 t.at_]
theorem tkC_len (l : List Tk) : (l.flatMap tkC).length = l.length * 3 := by
  induction l with
  | nil => rfl
  | cons a r ih => rw [List.flatMap_cons, List.length_append, ih]; simp [tkC]; omega
/-- how lex.Tokens ends -/
def TokPost (r : List Tk × Nat × Int) (W : World) (e : Ending) (w' : World) : Prop :=
  ∃ v, e = .returned (.tuple #[v, .int .i64 r.2.1, .int .i64 r.2.2]) ∧ w'.ownsRow W.heap.size 28 3 v r.1.length (r.1.flatMap tkC) ∧ Below W.heap.size W w'
theorem tokPost_of {r q : List Tk × Nat × Int} {W w' : World} {v : Value} (h : r = q) (ho : w'.ownsRow W.heap.size 28 3 v q.1.length (q.1.flatMap tkC)) (hb : Below W.heap.size W w') :
    TokPost r W (.returned (.tuple #[v, .int .i64 q.2.1, .int .i64 q.2.2])) w' := by subst h; exact ⟨v, rfl, ho, hb⟩

def prepT (acc : List Tk) (r : List Tk × Nat × Int) : List Tk × Nat × Int := if r.2.2 = 0 then (acc ++ r.1, 0, 0) else r
theorem tok_end {l : List UInt8} {p f : Nat} (h : (l.drop (p + runB isBlk (l.drop p))).length = 0) (hf : 0 < f) : toksF f (l.drop p) p = ([], 0, 0) := by
  obtain ⟨g, rfl⟩ : ∃ g, f = g + 1 := ⟨f - 1, by omega⟩
  rw [toksF]
  simp only [List.drop_drop]
  rw [if_pos h]
theorem tok_err {l : List UInt8} {p f : Nat} (h : ¬ (l.drop (p + runB isBlk (l.drop p))).length = 0) (hf : 0 < f) (he : ¬ (firstT (l.drop (p + runB isBlk (l.drop p)))).2.2 = 0) :
    toksF f (l.drop p) p = ([], p + runB isBlk (l.drop p), (firstT (l.drop (p + runB isBlk (l.drop p)))).2.2) := by
  obtain ⟨g, rfl⟩ : ∃ g, f = g + 1 := ⟨f - 1, by omega⟩
  rw [toksF]
  simp only [List.drop_drop]
  rw [if_neg h, if_neg he]
theorem tok_go {l : List UInt8} {p b n : Nat} {k : Int} {acc : List Tk} (hb : b = runB isBlk (l.drop p)) (h : ¬ (l.drop (p + b)).length = 0) (he : firstT (l.drop (p + b)) = (k, n, 0)) (hp : p ≤ l.length)
    {R : List Tk × Nat × Int} (hR : R = prepT acc (toksF (l.length + 1 - p) (l.drop p) p)) :
    R = prepT (acc ++ [{ kind := k, text := (l.drop (p + b)).take n, at_ := p + b }]) (toksF (l.length + 1 - (p + b + n)) (l.drop (p + b + n)) (p + b + n)) := by
  have hn : 0 < n := by have := firstT_pos (l := l.drop (p + b)) (by rw [he]); rw [he] at this; exact this
  have hle : n ≤ (l.drop (p + b)).length := by have := firstT_le (l := l.drop (p + b)); rw [he] at this; exact this
  have hpb : p + b < l.length := by simp only [List.length_drop] at h; omega
  rw [List.length_drop] at hle
  obtain ⟨g, hg⟩ : ∃ g, l.length + 1 - p = g + 1 := ⟨l.length - p, by omega⟩
  have e : toksF (l.length + 1 - p) (l.drop p) p = if (toksF (l.length + 1 - (p + b + n)) (l.drop (p + b + n)) (p + b + n)).2.2 = 0 then ({ kind := k, text := (l.drop (p + b)).take n, at_ := p + b } :: (toksF (l.length + 1 - (p + b + n)) (l.drop (p + b + n)) (p + b + n)).1, 0, 0) else toksF (l.length + 1 - (p + b + n)) (l.drop (p + b + n)) (p + b + n) := by
    rw [hg, toksF]
    simp only [List.drop_drop, ← hb]
    rw [if_neg h]
    simp only [he]
    rw [if_pos trivial]
    have hfu := toksF_fuel g (l.length + 1 - (p + b + n)) (l.drop (p + b + n)) (p + b + n) (by rw [List.length_drop]; omega) (by rw [List.length_drop]; omega)
    rw [hfu]
  rw [hR, e]
  unfold prepT
  by_cases h2 : (toksF (l.length + 1 - (p + b + n)) (l.drop (p + b + n)) (p + b + n)).2.2 = 0
  · rw [if_pos h2, if_pos rfl, if_pos h2]
    simp
  · rw [if_neg h2, if_neg h2, if_neg h2]
theorem drop_data (s : ByteArray) (p : Nat) : (s.extract p s.size).data.toList = s.data.toList.drop p := by
  simp
  exact List.take_of_length_le (by simp)
theorem size_len (s : ByteArray) : s.data.toList.length = s.size := by simp
theorem tx_eq {tx : ByteArray} {l : List UInt8} (h : tx.data.toList = l) : tx = ⟨l.toArray⟩ := by
  subst h
  rfl
end Go.Proofs.YtknckiblofochaaDoor
