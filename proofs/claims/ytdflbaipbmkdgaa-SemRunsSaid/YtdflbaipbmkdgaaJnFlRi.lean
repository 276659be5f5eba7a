/-
  facetroomref13.within, mayOut whole, and the law of a graph in ref's words.
-/
import Derived.Test.YtdflbaipbmkdgaaFlRD
import Derived.Test.YtdflbaipbmkdgaaJnRC
import Derived.Test.YtdflbaipbmkdgaaJnRmF
import Derived.Test.YtdflbaipbmkdgaaJnCk3
namespace Go.Proofs.Ytdflbaipbmkdgaa
open Go.RowKit Go.Shelf

set_option maxHeartbeats 800000 in
theorem rwithin_any (x : Int) (vars : Int) (Aa : Option Addr) (na ca : Nat) (nodes start last : Int) (Ae : Option Addr) (ne ce : Nat) (w : World) :
    Calls Try.prog 33 #[grV vars Aa na ca nodes start last Ae ne ce, .int .i64 x] w (BoolPost (decide (0 ≤ x) && decide (x < nodes)) w) := by
  unfold grV
  have hbb : ∀ (c0 : Array Value), Below w.heap.size w (w.alloc (.cells c0 25)) := fun _ => (Below.refl _ _).alloc (Nat.le_refl _) _
  have HBB := Lib.hid hbb
  clear hbb
  cases h : decide (0 ≤ x)
  · go_enter Try.func33, Try.ntmps33
    go_wp2
    go_ret
    exact ⟨rfl, HBB.out _⟩
  · go_enter Try.func33, Try.ntmps33
    go_wp2
    go_ret
    exact ⟨by simp, HBB.out _⟩

theorem picks_cons {l : List Ed} {x : Int} {a b : Ed} {r : List Ed} (h : outE l x = a :: b :: r) : ∃ i j is, idxE l x l.length = i :: j :: is ∧ l[i]? = some a ∧ l[j]? = some b ∧ is.length = r.length := by
  have h1 := picks_all l x
  rw [h] at h1
  match hi : idxE l x l.length, h1 with
  | [], h1 => simp at h1
  | [i], h1 => simp at h1
  | i :: j :: is, h1 =>
    simp only [List.map_cons, List.cons.injEq] at h1
    obtain ⟨h2, h3, h4⟩ := h1
    exact ⟨i, j, is, rfl, h2, h3, by have := congrArg List.length h4; simpa using this⟩
/-- THE CONTRACT of mayOut, of the numbers that Out has given -/
theorem rmayOut_any (l : List Ed) (x : Int) (vars : Int) (Aa : Option Addr) (na ca : Nat) (nodes start last : Int) (Ae : Option Addr) (ce : Nat) (A : Option Addr) (c B : Nat) (w : World) (hB : B ≤ w.heap.size)
    (hx : EdSl w B l Ae ce) (hs : IsSl w w.heap.size ((idxE l x l.length).map fun (i : Nat) => (i : Int)) A c) (hcm : ∀ a ∈ l, a.kind = 6 → 3 ≤ a.cmp ∧ a.cmp ≤ 8) :
    Calls Try.prog 35 #[grV vars Aa na ca nodes start last Ae l.length ce, .slice A (idxE l x l.length).length c] w (BoolPost (rightL (outE l x)) w) := by
  match h : outE l x with
  | [] =>
    have : idxE l x l.length = [] := by
      have := picks_len l x
      rw [h] at this
      exact List.length_eq_zero_iff.1 this
    rw [this]
    exact rmayOut_0 vars Aa na ca nodes start last Ae l.length ce A c w
  | [a] =>
    obtain ⟨i, hi, hia⟩ := picks_one h
    rw [hi] at hs ⊢
    exact rmayOut_1 a i vars Aa na ca nodes start last Ae ce l A c B w hB hx hs hia
  | a :: b :: r =>
    obtain ⟨i, j, is, hi, hia, hjb, hl⟩ := picks_cons h
    rw [hi] at hs ⊢
    have ha : a ∈ l := List.mem_of_getElem? hia
    have := rmayOut_n a b i j (is.length + 2) (by omega) vars Aa na ca nodes start last Ae ce l (i :: j :: (is.map fun (i : Nat) => (i : Int))) A c B w hB hx hs (by simp) rfl rfl hia hjb (hcm a ha)
    have e : rightL (a :: b :: r) = ((is.length + 2 == 2) && rightB [a, b]) := by
      cases r with
      | nil => rw [hl]; simp [rightL]
      | cons d r => rw [hl]; simp [rightL, rightB]
    rw [e]
    exact this

/-- the document's word of a graph -/
def rnodeOk (l : List Ed) (last x : Int) : Bool := !(x == last) && rightL (outE l x) && !walkR l x x (l.length + 1)
def headBad (vars nodes start last : Int) (na ne : Nat) : Bool := odd1 vars nodes na ne || odd2 nodes start last false
def rmayG (g : Gr) : Bool := !headBad g.vars g.nodes g.start g.last g.arrays.length g.edges.length && !g.arrays.any sizeBad && !g.edges.any (edBad g.vars g.arrays.length g.nodes) && g.edges.all fun e => rnodeOk g.edges g.last e.from_
end Go.Proofs.Ytdflbaipbmkdgaa

/-
  The plain law of flow.Check: a walk of so many skips as there are edges tells as much as one skip more. No program.
-/
namespace Go.Proofs.Ytdflbaipbmkdgaa
open Go.RowKit

def remE (l : List Ed) (y : Int) : List Ed := l.filter fun e => !(e.from_ == y)
theorem outE_rem {l : List Ed} {y z : Int} (h : z ≠ y) : outE (remE l y) z = outE l z := by
  unfold outE remE
  rw [List.filter_filter]
  refine List.filter_congr fun e _ => ?_
  cases hz : e.from_ == z
  · simp
  · have : e.from_ = z := by simpa using hz
    simp [this, h]
theorem outE_rem_self (l : List Ed) (y : Int) : outE (remE l y) y = [] := by
  unfold outE remE
  rw [List.filter_filter]
  exact List.filter_eq_nil_iff.2 fun e _ => by simp
theorem walkR_step {l : List Ed} {x y : Int} {f : Nat} (h : walkR l x y (f + 1) = true) : ∃ e, outE l y = [e] ∧ e.kind = 1 ∧ (e.to_ = x ∨ walkR l x e.to_ f = true) := by
  unfold walkR at h
  split at h
  · rename_i e he
    refine ⟨e, he, ?_⟩
    by_cases hk : e.kind = 1
    · rw [if_pos hk] at h
      by_cases ht : e.to_ = x
      · exact ⟨hk, .inl ht⟩
      · rw [if_neg ht] at h
        exact ⟨hk, .inr h⟩
    · rw [if_neg hk] at h
      exact absurd h (by simp)
  · exact absurd h (by simp)
theorem walkR_of {l : List Ed} {x y : Int} {f : Nat} {e : Ed} (he : outE l y = [e]) (hk : e.kind = 1) (h : e.to_ = x ∨ walkR l x e.to_ f = true) : walkR l x y (f + 1) = true := by
  rw [walkR_one he, if_pos hk]
  by_cases ht : e.to_ = x
  · rw [if_pos ht]
  · rw [if_neg ht]
    exact h.resolve_left ht
theorem walkR_mono {l : List Ed} {x : Int} : ∀ {f f' : Nat} {y : Int}, f ≤ f' → walkR l x y f = true → walkR l x y f' = true
  | 0, _, _, _, h => absurd h (by simp [walkR])
  | f + 1, 0, _, hf, _ => absurd hf (by omega)
  | f + 1, f' + 1, y, hf, h => by
    obtain ⟨e, he, hk, h1⟩ := walkR_step h
    exact walkR_of he hk (h1.imp id (walkR_mono (by omega)))
theorem walkR_rem {l : List Ed} {x y : Int} : ∀ {f : Nat} {z : Int}, walkR l x z f = true → walkR (remE l y) x z f = true ∨ ∃ f', f' ≤ f ∧ walkR l x y f' = true
  | 0, _, h => absurd h (by simp [walkR])
  | f + 1, z, h => by
    by_cases hz : z = y
    · subst hz; exact .inr ⟨f + 1, Nat.le_refl _, h⟩
    · obtain ⟨e, he, hk, h1⟩ := walkR_step h
      have he' : outE (remE l y) z = [e] := (outE_rem hz).trans he
      rcases h1 with ht | h1
      · exact .inl (walkR_of he' hk (.inl ht))
      · rcases walkR_rem h1 with h2 | ⟨f', hf, h2⟩
        · exact .inl (walkR_of he' hk (.inr h2))
        · exact .inr ⟨f', by omega, h2⟩
theorem walkR_unrem {l : List Ed} {x y : Int} : ∀ {f : Nat} {z : Int}, walkR (remE l y) x z f = true → walkR l x z f = true
  | 0, _, h => absurd h (by simp [walkR])
  | f + 1, z, h => by
    obtain ⟨e, he, hk, h1⟩ := walkR_step h
    have hz : z ≠ y := fun hz => by
      subst hz
      rw [outE_rem_self] at he
      exact absurd he (by simp)
    exact walkR_of ((outE_rem hz).symm.trans he) hk (h1.imp id walkR_unrem)
theorem walkR_len : ∀ (m : Nat) (l : List Ed) (x y : Int) (f : Nat), l.length ≤ m → walkR l x y f = true → walkR l x y l.length = true
  | 0, l, x, y, f, hl, h => by
    have : l = [] := List.length_eq_zero_iff.1 (by omega)
    subst this
    cases f with
    | zero => exact absurd h (by simp [walkR])
    | succ f =>
      obtain ⟨e, he, _⟩ := walkR_step h
      exact absurd he (by simp [outE])
  | m + 1, l, x, y, f, hl, h => by
    induction f using Nat.strongRecOn with
    | _ f ih =>
    match f, h with
    | 0, h => exact absurd h (by simp [walkR])
    | f + 1, h =>
      obtain ⟨e, he, hk, h1⟩ := walkR_step h
      have hmem : e ∈ outE l y := by rw [he]; simp
      have hml : e ∈ l := (List.mem_filter.1 hmem).1
      have hfr : e.from_ = y := by simpa using (List.mem_filter.1 hmem).2
      have hlt : (remE l y).length < l.length := by
        refine List.length_filter_lt_length_iff_exists.2 ⟨e, hml, ?_⟩
        simp [hfr]
      obtain ⟨n, hn⟩ : ∃ n, l.length = n + 1 := ⟨l.length - 1, by omega⟩
      rw [hn]
      rcases h1 with ht | h1
      · exact walkR_of he hk (.inl ht)
      · rcases walkR_rem (y := y) h1 with h2 | ⟨f', hf, h2⟩
        · have h3 := walkR_len m (remE l y) x e.to_ f (by omega) h2
          exact walkR_of he hk (.inr (walkR_mono (by omega) (walkR_unrem h3)))
        · have := ih f' (by omega) h2
          rwa [hn] at this
theorem walkR_same (l : List Ed) (x y : Int) : walkR l x y (l.length + 1) = walkR l x y l.length := by
  cases h : walkR l x y (l.length + 1) with
  | true => exact (walkR_len l.length l x y _ (Nat.le_refl _) h).symm
  | false =>
    cases h2 : walkR l x y l.length with
    | false => rfl
    | true => rw [walkR_mono (by omega) h2] at h; exact absurd h (by simp)
theorem rnodeOk_eq (l : List Ed) (last : Int) (e : Ed) (he : e ∈ l) : rnodeOk l last e.from_ = nodeOk l last e.from_ := by
  unfold rnodeOk nodeOk
  rw [walkR_same]
  have hmem : e ∈ outE l e.from_ := List.mem_filter.2 ⟨he, by simp⟩
  have : rightL (outE l e.from_) = rightB (outE l e.from_) := by
    cases h : outE l e.from_ with
    | nil => rw [h] at hmem; cases hmem
    | cons a r => rfl
  rw [this]
theorem all_congr' {α : Type} {p q : α → Bool} : ∀ {l : List α}, (∀ a ∈ l, p a = q a) → l.all p = l.all q
  | [], _ => rfl
  | a :: l, h => by
    rw [List.all_cons, List.all_cons, h a (by simp), all_congr' fun b hb => h b (by simp [hb])]
/-- THE PLAIN LAW -/
theorem rmayG_eq (g : Gr) : rmayG g = mayG g := by
  unfold rmayG mayG
  rw [all_congr' (fun e he => rnodeOk_eq g.edges g.last e he)]
  unfold headBad odd2
  cases g.arrays.any sizeBad <;> simp
end Go.Proofs.Ytdflbaipbmkdgaa
