/-
  Stores that a run owns: numbers in blocks of their own. No walk.
-/
import Derived.Test.YtdflbaipbmkdgaaSvHas
import Derived.Test.YtdflbaipbmkdgaaJnData
namespace Go.Proofs.Ytdflbaipbmkdgaa
open Go.RowKit Go.Shelf
set_option linter.unusedVariables false
set_option linter.unusedSimpArgs false

def intL (l : List Int) : List Value := l.map fun n => Value.int .i64 n
def slL (b : Nat) (n : Nat) : Value := .slice (some ⟨b, 0, none⟩) n n
/-- the slices of arrays, one behind another -/
def rowL : List Nat → List (List Int) → List Value
  | b :: bs, l :: ls => slL b l.length :: rowL bs ls
  | _, _ => []
theorem rowL_at : ∀ {bs : List Nat} {ls : List (List Int)} {i b : Nat} {l : List Int}, bs[i]? = some b → ls[i]? = some l → (rowL bs ls)[i]? = some (slL b l.length)
  | [], _, _, _, _, h, _ => by simp at h
  | _ :: _, [], _, _, _, _, h => by simp at h
  | a :: bs, m :: ls, 0, b, l, h, h' => by
    simp only [List.getElem?_cons_zero, Option.some.injEq] at h h'
    rw [← h, ← h']; rfl
  | a :: bs, m :: ls, i + 1, b, l, h, h' => by
    simp only [List.getElem?_cons_succ] at h h'
    exact rowL_at (bs := bs) (ls := ls) h h'
theorem rowL_len : ∀ {bs : List Nat} {ls : List (List Int)}, bs.length = ls.length → (rowL bs ls).length = ls.length
  | [], [], _ => rfl
  | [], _ :: _, h => by simp at h
  | _ :: _, [], h => by simp at h
  | _ :: bs, _ :: ls, h => by
    simp only [rowL, List.length_cons] at h ⊢
    rw [rowL_len (bs := bs) (ls := ls) (by omega)]
theorem rowL_set : ∀ {bs : List Nat} {ls : List (List Int)} {i : Nat} {l l' : List Int}, ls[i]? = some l → l'.length = l.length → rowL bs (ls.set i l') = rowL bs ls
  | [], _, _, _, _, _, _ => by simp [rowL]
  | _ :: _, [], _, _, _, h, _ => by simp at h
  | a :: bs, m :: ls, 0, l, l', h, h' => by
    simp only [List.getElem?_cons_zero, Option.some.injEq] at h
    simp [rowL, h, h']
  | a :: bs, m :: ls, i + 1, l, l', h, h' => by
    simp only [List.getElem?_cons_succ] at h
    simp only [List.set_cons_succ, rowL]
    rw [rowL_set h h']
theorem rowL_snoc : ∀ {bs : List Nat} {ls : List (List Int)} (b : Nat) (l : List Int), bs.length = ls.length → rowL (bs ++ [b]) (ls ++ [l]) = rowL bs ls ++ [slL b l.length]
  | [], [], b, l, _ => rfl
  | [], _ :: _, _, _, h => by simp at h
  | _ :: _, [], _, _, h => by simp at h
  | _ :: bs, _ :: ls, b, l, h => by
    simp only [List.length_cons] at h
    simp only [List.cons_append, rowL]
    rw [rowL_snoc b l (by omega)]
/-- a store in blocks of its own, above a bound -/
structure Sto (w : World) (L : Nat) (vs : List Int) (ls : List (List Int)) (bv : Nat) (A : Option Addr) (c : Nat) (bs : List Nat) : Prop where
  v : Bk w bv 3 (intL vs).toArray
  vl : L ≤ bv
  row : w.ownsRow L 22 1 (.slice A ls.length c) ls.length (rowL bs ls)
  len : bs.length = ls.length
  each : ∀ (i b : Nat) (l : List Int), bs[i]? = some b → ls[i]? = some l → L ≤ b ∧ Bk w b 3 (intL l).toArray
  nd : bs.Nodup
  nv : bv ∉ bs
  rv : (Value.slice A ls.length c).ownBlock ≠ some bv
  rb : ∀ b ∈ bs, (Value.slice A ls.length c).ownBlock ≠ some b
  i64 : St64 vs ls
  few : vs.length ≤ 1000 ∧ ls.length ≤ 1000 ∧ ∀ l ∈ ls, l.length ≤ 1000
/-- the blocks that turn -/
def StoT (bv : Nat) (bs : List Nat) : Nat → Prop := fun b => b = bv ∨ b ∈ bs
theorem Sto.fr {w w' : World} {L : Nat} {vs : List Int} {ls : List (List Int)} {bv : Nat} {A : Option Addr} {c : Nat} {bs : List Nat} {T : Nat → Prop} (h : Sto w L vs ls bv A c bs) (hf : Fr T w w')
    (hv : ¬ T bv) (hb : ∀ b ∈ bs, ¬ T b) (hr : ∀ b, (Value.slice A ls.length c).ownBlock = some b → ¬ T b) : Sto w' L vs ls bv A c bs := by
  refine ⟨h.v.fr hf hv, h.vl, ?_, h.len, fun i b l hi hl => ⟨(h.each i b l hi hl).1, (h.each i b l hi hl).2.fr hf (hb b (List.mem_of_getElem? hi))⟩, h.nd, h.nv, h.rv, h.rb, h.i64, h.few⟩
  obtain ⟨h1, h2⟩ := h.row
  refine ⟨h1, ?_⟩
  rcases h2 with h2 | ⟨g, cap, cur, hv', hg, hh, r⟩
  · exact .inl h2
  · refine .inr ⟨g, cap, cur, hv', hg, ?_, r⟩
    have hlt : g < w.heap.size := (Array.getElem?_eq_some_iff.1 hh).1
    rw [hf.block g hlt (hr g (by rw [hv']; rfl))]
    exact hh
theorem Sto.fr0 {w w' : World} {L : Nat} {vs : List Int} {ls : List (List Int)} {bv : Nat} {A : Option Addr} {c : Nat} {bs : List Nat} (h : Sto w L vs ls bv A c bs) (hf : Fr NoT w w') : Sto w' L vs ls bv A c bs :=
  h.fr hf (fun h => h) (fun _ _ h => h) fun _ _ h => h
theorem bk_isSl {w : World} {b : Nat} {l : List Int} (h : Bk w b 3 (intL l).toArray) (h64 : ∀ n ∈ l, is64 n) (hl : l.length ≤ 9223372036854775807) : IsSl w w.heap.size l (some ⟨b, 0, none⟩) l.length :=
  ⟨Nat.le_refl _, hl, fun _ => ⟨b, 0, rfl, h.lt, fun i n hi => ⟨by
    rw [Nat.zero_add, h.cell i]
    simp [intL, hi], by have := h64 n (List.mem_of_getElem? hi); unfold is64 at this; unfold in64; omega⟩⟩⟩
theorem Sto.stSl {w : World} {L : Nat} {vs : List Int} {ls : List (List Int)} {bv : Nat} {A : Option Addr} {c : Nat} {bs : List Nat} (h : Sto w L vs ls bv A c bs) : StSl w w.heap.size vs ls (some ⟨bv, 0, none⟩) vs.length A c := by
  have hfew := h.few
  refine ⟨bk_isSl h.v h.i64.1 (by omega), ?_⟩
  rcases h.row.2 with ⟨e, h0⟩ | ⟨g, cap, cur, e, hg, hh, hn, hc, hs, ht⟩
  · simp only [Value.slice.injEq] at e
    refine ⟨by rw [h0]; exact Nat.zero_le _, by rw [e.2.2]; decide, fun hp => by omega⟩
  · simp only [Value.slice.injEq] at e
    obtain ⟨rfl, -, rfl⟩ := e
    refine ⟨hn, by unfold maxLen at hc; omega, fun hp => ⟨g, 0, rfl, (Array.getElem?_eq_some_iff.1 hh).1, fun i l hi => ?_⟩⟩
    have hil : i < bs.length := by rw [h.len]; exact (List.getElem?_eq_some_iff.1 hi).1
    obtain ⟨b, hb⟩ : ∃ b, bs[i]? = some b := ⟨_, List.getElem?_eq_getElem hil⟩
    have hc := h.row.cells (g := g) rfl i _ (rowL_at hb hi)
    have e : (⟨g, 0, none⟩ : Addr).add i = ⟨g, 0 + i, none⟩ := by rw [Nat.zero_add]; unfold Addr.add; split <;> simp_all
    rw [e] at hc
    exact ⟨_, _, hc, bk_isSl (h.each i b l hb hi).2 (h.i64.2 l (List.mem_of_getElem? hi)) (by have := h.few.2.2 l (List.mem_of_getElem? hi); omega)⟩
theorem Sto.arr {w : World} {L : Nat} {vs : List Int} {ls : List (List Int)} {bv : Nat} {A : Option Addr} {c : Nat} {bs : List Nat} (h : Sto w L vs ls bv A c bs) {i : Nat} {l : List Int} (hl : ls[i]? = some l) :
    ∃ g b, A = some ⟨g, 0, none⟩ ∧ w.cell? ⟨g, i, none⟩ = some (.slice (some ⟨b, 0, none⟩) l.length l.length) ∧ g < w.heap.size ∧ L ≤ g ∧ bs[i]? = some b ∧ Bk w b 3 (intL l).toArray := by
  have hil := (List.getElem?_eq_some_iff.1 hl).1
  rcases h.row.2 with ⟨e, h0⟩ | ⟨g, cap, cur, e, hg, hh, hn, hc, hs, ht⟩
  · omega
  · simp only [Value.slice.injEq] at e
    obtain ⟨rfl, -, rfl⟩ := e
    have hib : i < bs.length := by rw [h.len]; exact hil
    obtain ⟨b, hb⟩ : ∃ b, bs[i]? = some b := ⟨_, List.getElem?_eq_getElem hib⟩
    have hc := h.row.cells (g := g) rfl i _ (rowL_at hb hl)
    have e : (⟨g, 0, none⟩ : Addr).add i = ⟨g, i, none⟩ := by unfold Addr.add; split <;> simp_all
    rw [e] at hc
    exact ⟨g, b, rfl, hc, (Array.getElem?_eq_some_iff.1 hh).1, hg, hb, (h.each i b l hb hl).2⟩
theorem intL_set (l : List Int) (i : Nat) (x : Int) : (intL (l.set i x)) = (intL l).set i (.int .i64 x) := by simp [intL, List.map_set]
theorem is64_set {l : List Int} (h : ∀ n ∈ l, is64 n) (i : Nat) {x : Int} (hx : is64 x) : ∀ n ∈ l.set i x, is64 n := fun n hn => by
  rcases List.mem_or_eq_of_mem_set hn with h1 | h1
  · exact h n h1
  · rw [h1]; exact hx
/-- a scalar is set -/
theorem Sto.setV {w : World} {L : Nat} {vs : List Int} {ls : List (List Int)} {bv : Nat} {A : Option Addr} {c : Nat} {bs : List Nat} (h : Sto w L vs ls bv A c bs) (i : Nat) {x : Int} (hx : is64 x) :
    Sto (w.setCell ⟨bv, i, none⟩ (.int .i64 x)) L (vs.set i x) ls bv A c bs ∧ Fr (fun b => b = bv) w (w.setCell ⟨bv, i, none⟩ (.int .i64 x)) := by
  have hf : Fr (fun b => b = bv) w (w.setCell ⟨bv, i, none⟩ (.int .i64 x)) := Fr.own (Fr.refl _ _) _ _
  refine ⟨⟨?_, h.vl, ?_, h.len, fun j b l hi hl => ⟨(h.each j b l hi hl).1, (h.each j b l hi hl).2.fr hf fun e => h.nv (by have e : b = bv := e; rw [← e]; exact List.mem_of_getElem? hi)⟩, h.nd, h.nv, h.rv, h.rb, ⟨is64_set h.i64.1 i hx, h.i64.2⟩, by rw [List.length_set]; exact h.few⟩, hf⟩
  · have := h.v.set_ i (.int .i64 x)
    rw [intL_set]
    simpa using this
  · obtain ⟨h1, h2⟩ := h.row
    refine ⟨h1, ?_⟩
    rcases h2 with h2 | ⟨g, cap, cur, hv', hg, hh, r⟩
    · exact .inl h2
    · refine .inr ⟨g, cap, cur, hv', hg, ?_, r⟩
      have hlt : g < w.heap.size := (Array.getElem?_eq_some_iff.1 hh).1
      rw [hf.block g hlt (fun e => h.rv (by rw [hv']; have e : g = bv := e; rw [e]; rfl))]
      exact hh
/-- an array's element is set -/
theorem Sto.setA {w : World} {L : Nat} {vs : List Int} {ls : List (List Int)} {bv : Nat} {A : Option Addr} {c : Nat} {bs : List Nat} (h : Sto w L vs ls bv A c bs) {i b : Nat} {l : List Int} (hb : bs[i]? = some b) (hl : ls[i]? = some l) (j : Nat) {x : Int} (hx : is64 x) :
    Sto (w.setCell ⟨b, j, none⟩ (.int .i64 x)) L vs (ls.set i (l.set j x)) bv A c bs ∧ Fr (fun y => y = b) w (w.setCell ⟨b, j, none⟩ (.int .i64 x)) := by
  have hf : Fr (fun y => y = b) w (w.setCell ⟨b, j, none⟩ (.int .i64 x)) := Fr.own (Fr.refl _ _) _ _
  have hmb : b ∈ bs := List.mem_of_getElem? hb
  refine ⟨⟨h.v.fr hf fun e => h.nv (by have e : bv = b := e; rw [e]; exact hmb), h.vl, ?_, by rw [List.length_set]; exact h.len, fun k b' l' hi hl' => ?_, h.nd, h.nv, by rw [List.length_set]; exact h.rv, by rw [List.length_set]; exact h.rb, ⟨h.i64.1, fun l' hl' => ?_⟩, ?_⟩, hf⟩
  · rw [List.length_set, rowL_set hl (by rw [List.length_set])]
    obtain ⟨h1, h2⟩ := h.row
    refine ⟨h1, ?_⟩
    rcases h2 with h2 | ⟨g, cap, cur, hv', hg, hh, r⟩
    · exact .inl h2
    · refine .inr ⟨g, cap, cur, hv', hg, ?_, r⟩
      have hlt : g < w.heap.size := (Array.getElem?_eq_some_iff.1 hh).1
      rw [hf.block g hlt (fun e => h.rb b hmb (by rw [hv']; have e : g = b := e; rw [e]; rfl))]
      exact hh
  · by_cases e : i = k
    · subst e
      rw [hb] at hi
      obtain rfl := Option.some.inj hi
      have hil : i < ls.length := (List.getElem?_eq_some_iff.1 hl).1
      rw [List.getElem?_set_self hil] at hl'
      obtain rfl := Option.some.inj hl'
      refine ⟨(h.each i b l hb hl).1, ?_⟩
      have := (h.each i b l hb hl).2.set_ j (.int .i64 x)
      rw [intL_set]
      simpa using this
    · rw [List.getElem?_set_ne e] at hl'
      refine ⟨(h.each k b' l' hi hl').1, (h.each k b' l' hi hl').2.fr hf fun e' => e ?_⟩
      have e' : b' = b := e'
      subst e'
      obtain ⟨p1, p2⟩ := List.getElem?_eq_some_iff.1 hb
      obtain ⟨p3, p4⟩ := List.getElem?_eq_some_iff.1 hi
      rcases Nat.lt_trichotomy i k with hlt | heq | hgt
      · exact absurd (p2.trans p4.symm) ((List.pairwise_iff_getElem.1 h.nd) i k p1 p3 hlt)
      · exact heq
      · exact absurd (p4.trans p2.symm) ((List.pairwise_iff_getElem.1 h.nd) k i p3 p1 hgt)
  · rcases List.mem_or_eq_of_mem_set hl' with h1 | h1
    · exact h.i64.2 l' h1
    · rw [h1]; exact is64_set (h.i64.2 l (List.mem_of_getElem? hl)) j hx
  · refine ⟨h.few.1, by rw [List.length_set]; exact h.few.2.1, fun l' hl' => ?_⟩
    rcases List.mem_or_eq_of_mem_set hl' with h1 | h1
    · exact h.few.2.2 l' h1
    · rw [h1, List.length_set]; exact h.few.2.2 l (List.mem_of_getElem? hl)
end Go.Proofs.Ytdflbaipbmkdgaa
