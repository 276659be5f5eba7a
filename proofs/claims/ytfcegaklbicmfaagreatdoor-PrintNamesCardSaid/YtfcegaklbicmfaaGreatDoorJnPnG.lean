/-
  The text of a tree, plainly: its tokens, and how they are written. No program.
-/
import Derived.Test.YtfcegaklbicmfaaGreatDoorTrItem
import Derived.Test.YtfcegaklbicmfaaGreatDoorLxData
import Derived.Lib.ItoaMem
import Derived.Test.YtfcegaklbicmfaaGreatDoorJnSc
import Derived.Test.YtfcegaklbicmfaaGreatDoorJnGrC
import Derived.Test.YtfcegaklbicmfaaGreatDoorJnCkC
set_option linter.unusedVariables false
set_option linter.unusedSimpArgs false
namespace Go.Proofs.YtfcegaklbicmfaaGreatDoor
open Go.RowKit

abbrev Tx := List (List UInt8)
def putT (s : List UInt8 × Bool) (t : List UInt8) : List UInt8 × Bool := (s.1 ++ (if s.2 && isWd (t.headD 0) then 32 :: t else t), isWd (t.getLastD 0))
def putsT (s : List UInt8 × Bool) (ts : List (List UInt8)) : List UInt8 × Bool := ts.foldl putT s
theorem putsT_app (s : List UInt8 × Bool) (a b : List (List UInt8)) : putsT s (a ++ b) = putsT (putsT s a) b := List.foldl_append ..
def sumT : List (List UInt8) → Nat
 | [] => 0
 | t :: r => t.length + 1 + sumT r
theorem sumT_app : ∀ (a b : List (List UInt8)), sumT (a ++ b) = sumT a + sumT b
 | [], b => by simp [sumT]
 | t :: r, b => by simp only [List.cons_append, sumT, sumT_app r b]; omega
theorem putT_len (s : List UInt8 × Bool) (t : List UInt8) : (putT s t).1.length ≤ s.1.length + (t.length + 1) := by
 unfold putT
 simp only [List.length_append]
 split <;> simp
theorem putsT_len : ∀ (ts : List (List UInt8)) (s : List UInt8 × Bool), (putsT s ts).1.length ≤ s.1.length + sumT ts
 | [], s => by simp [putsT, sumT]
 | t :: r, s => by
  have h := putsT_len r (putT s t)
  have h2 := putT_len s t
  simp only [sumT]
  show (putsT (putT s t) r).1.length ≤ _
  omega
def lvlE (k : Int) : Nat := if 10 ≤ k then 1 else if 7 ≤ k then 3 else if 5 ≤ k then 2 else 4
def hgtC (k : Int) : Nat := if k = 11 then 1 else if k = 10 then 2 else 3
def sgnE (k : Int) : List UInt8 := if k = 5 then [43] else if k = 6 then [45] else if k = 7 then [42] else if k = 8 then [47] else if k = 9 then [37] else if k = 10 then [60, 60] else [62, 62]
def sgnC (k : Int) : List UInt8 := if k = 3 then [60] else if k = 4 then [60, 61] else if k = 5 then [62] else if k = 6 then [62, 61] else if k = 7 then [61, 61] else [33, 61]
def arE (least : Nat) (p : Nat × Tx) : Tx := if p.1 < least then [40] :: (p.2 ++ [[41]]) else p.2
def arC (least : Nat) (p : Nat × Tx) : Tx := if p.1 < least then [91] :: (p.2 ++ [[93]]) else p.2
def nthX (l : List (Nat × Tx)) (i : Nat) : Nat × Tx := l.getD i (4, [])
def innE (k : Int) (nm : ByteArray) (n : Int) (a : List (Nat × Tx)) : Tx :=
 if k = 1 then [Lib.itoa n] else if k = 2 then [nm.data.toList] else if k = 3 then nm.data.toList :: [91] :: (arE 0 (nthX a 0) ++ [[93]])
 else if k = 4 then [45] :: arE 4 (nthX a 0) else arE (lvlE k) (nthX a 0) ++ sgnE k :: arE (lvlE k + 1) (nthX a 1)
def txX : Exs → List (Nat × Tx)
 | .nil => []
 | .cons k nm n args _ r => (lvlE k, innE k nm n (txX args)) :: txX r
def innC (k : Int) (a c : List (Nat × Tx)) : Tx :=
 if k = 1 then [[116, 114, 117, 101]] else if k = 2 then [[102, 97, 108, 115, 101]] else if k = 9 then [33] :: arC 3 (nthX c 0)
 else if k = 10 then arC 2 (nthX c 0) ++ [38, 38] :: arC 3 (nthX c 1) else if k = 11 then arC 1 (nthX c 0) ++ [124, 124] :: arC 2 (nthX c 1)
 else arE 0 (nthX a 0) ++ sgnC k :: arE 0 (nthX a 1)
def txC : Cds → List (Nat × Tx)
 | .nil => []
 | .cons k args of_ _ r => (hgtC k, innC k (txX args) (txC of_)) :: txC r
def betw : List Tx → Tx
 | [] => []
 | [x] => x
 | x :: y :: r => x ++ [44] :: betw (y :: r)
def blkT (l : List Tx) : Tx := [123] :: (l.flatten ++ [[125]])
def askT (w : List UInt8) (c : List (Nat × Tx)) : Tx := w :: [40] :: (arC 0 (nthX c 0) ++ [[41]])
def innS (k : Int) (nm : List UInt8) (a c : List (Nat × Tx)) (b e : List Tx) : Tx :=
 if k = 7 then askT [105, 102] c ++ (blkT b ++ (if e = [] then [] else [101, 108, 115, 101] :: blkT e))
 else if k = 8 then askT [119, 104, 105, 108, 101] c ++ blkT b
 else if k = 5 then askT [97, 115, 115, 117, 109, 101] c ++ [[59]]
 else if k = 6 then askT [97, 115, 115, 101, 114, 116] c ++ [[59]]
 else if k = 1 then [[115, 107, 105, 112], [59]]
 else if k = 4 then [[105, 110, 112, 117, 116], nm, [59]]
 else if k = 9 then [99, 97, 108, 108] :: nm :: [40] :: (betw (a.map (arE 0)) ++ [[41], [59]])
 else if k = 3 then nm :: [91] :: (arE 0 (nthX a 0) ++ [93] :: [61] :: (arE 0 (nthX a 1) ++ [[59]]))
 else nm :: [61] :: (arE 0 (nthX a 0) ++ [[59]])
def txS : Sts → List Tx
 | .nil => []
 | .cons k nm args cond body els _ r => innS k nm.data.toList (txX args) (txC cond) (txS body) (txS els) :: txS r
def namT (vs : List Va) : Tx := betw (vs.map fun v => [v.nm.data.toList])
def arrT (x : Arr) : Tx := [x.nm.data.toList, [91], Lib.itoa x.size, [93]]
def varsT (vs : List Va) : Tx := if vs = [] then [] else [118, 97, 114] :: (namT vs ++ [[59]])
def arrsT (xs : List Arr) : Tx := if xs = [] then [] else [97, 114, 114, 97, 121] :: (betw (xs.map arrT) ++ [[59]])
def prcT (p : Prc) : Tx := [112, 114, 111, 99] :: p.nm.data.toList :: [40] :: (namT p.params ++ [41] :: blkT (txS p.body))
def treT (t : Tre) : Tx := varsT t.vars ++ (arrsT t.arrays ++ (t.procs.flatMap prcT ++ [109, 97, 105, 110] :: blkT (txS t.main)))
def printB (t : Tre) : List UInt8 := (putsT ([], false) (treT t)).1
theorem txX_len : ∀ xs, (txX xs).length = xs.len
 | .nil => rfl
 | .cons _ _ _ _ _ r => by simp only [txX, List.length_cons, Exs.len, txX_len r]
theorem txS_len : ∀ xs, (txS xs).length = xs.len
 | .nil => rfl
 | .cons _ _ _ _ _ _ _ r => by simp only [txS, List.length_cons, Sts.len, txS_len r]

open Go.RowKit Go.Shelf

def TkOk (u : List UInt8) : Prop := (firstT u).2 = (u.length, 0)
instance (u : List UInt8) : Decidable (TkOk u) := inferInstanceAs (Decidable ((firstT u).2 = (u.length, 0)))
def tkOf (u : List UInt8) : Tk := ⟨(firstT u).1, u, 0⟩
def isCl (u : List UInt8) : Bool := decide (u ∈ ([[60], [62], [61], [33]] : List (List UInt8)))
def noCl (c : UInt8) : Bool := c != 60 && c != 61 && c != 62
theorem TkOk.ne {u : List UInt8} (h : TkOk u) : u ≠ [] := fun e => by
 subst e
 exact absurd (firstT_pos (l := []) (by rw [h])) (by rw [show (firstT []).2.1 = 0 from by rw [h]; rfl]; omega)
theorem TkOk.first {u : List UInt8} (h : TkOk u) : firstT u = ((firstT u).1, u.length, 0) := by
 have : firstT u = ((firstT u).1, (firstT u).2) := rfl
 rw [this, h]
theorem TkOk.cases {u : List UInt8} (h : TkOk u) : (firstT u = (2, u.length, 0) ∧ runB isDig u = u.length ∧ numB u = true) ∨ (firstT u = (1, u.length, 0) ∧ runB isDig u = 0 ∧ runB isWd u = u.length ∧ u.length ≤ 16) ∨ (firstT u = (3, u.length, 0) ∧ u ∈ signL) := by
 have hf := h.first
 have hne := h.ne
 by_cases hd : 0 < runB isDig u
 ·rw [fT_num hd] at hf ⊢
  split at hf
  ·rename_i hc
   simp only [Prod.mk.injEq] at hf
   simp only [Bool.and_eq_true] at hc
   have e := hf.2.1
   refine .inl ⟨by rw [if_pos (by simp only [Bool.and_eq_true]; exact hc), e], e, ?_⟩
   rw [e, List.take_length] at hc
   exact hc.1
  ·simp only [Prod.mk.injEq] at hf
   omega
 ·rw [fT_none hd] at hf ⊢
  split at hf
  ·simp only [Prod.mk.injEq] at hf
   omega
  ·rename_i h16
   rw [if_neg h16]
   split at hf
   ·rename_i hw
    simp only [Prod.mk.injEq] at hf
    rw [if_pos hw]
    refine .inr (.inl ⟨by rw [hf.2.1], by omega, hf.2.1, by omega⟩)
   ·rename_i hw
    rw [if_neg hw]
    split at hf
    ·rename_i s hs
     simp only [Prod.mk.injEq] at hf
     have hp : s <+: u := List.isPrefixOf_iff_prefix.1 (by simpa using List.find?_some hs)
     have e : s = u := hp.eq_of_length hf.2.1
     subst e
     exact .inr (.inr ⟨rfl, List.mem_of_find?_eq_some hs⟩)
    ·simp only [Prod.mk.injEq] at hf
     omega
def hdOk (r : Tx) : Bool := noCl ((r.headD []).headD 0)
def Chn : Tx → Prop
 | [] => True
 | t :: r => TkOk t ∧ (isCl t = true → hdOk r = true) ∧ Chn r

theorem Chn.app : ∀ {a b : Tx}, Chn a → Chn b → (isCl (a.getLastD []) = true → hdOk b = true) → Chn (a ++ b)
 | [], b, _, hb, _ => hb
 | [t], b, ha, hb, h => ⟨ha.1, fun e => h e, hb⟩
 | t :: u :: r, b, ha, hb, h => ⟨ha.1, ha.2.1, Chn.app (a := u :: r) ha.2.2 hb (fun e => h e)⟩
structure Good (a : Tx) : Prop where
 ne : a ≠ []
 chn : Chn a
 hd : hdOk a = true
 last : isCl (a.getLastD []) = false
theorem hdOk_app {a b : Tx} (h : a ≠ []) : hdOk (a ++ b) = hdOk a := by
 cases a with
 | nil => exact absurd rfl h
 | cons t r => rfl
theorem getLastD_app {a b : Tx} (h : b ≠ []) : (a ++ b).getLastD [] = b.getLastD [] := by
 rw [List.getLastD_eq_getLast?, List.getLastD_eq_getLast?, List.getLast?_append]
 cases hb : b.getLast? with
 | none => exact absurd (List.getLast?_eq_none_iff.1 hb) h
 | some x => rfl
theorem Good.app {a b : Tx} (ha : Good a) (hb : Good b) : Good (a ++ b) :=
 ⟨by simp [ha.ne], Chn.app ha.chn hb.chn (fun e => by rw [ha.last] at e; simp at e), by rw [hdOk_app ha.ne]; exact ha.hd, by rw [getLastD_app hb.ne]; exact hb.last⟩
theorem Good.tok {t : List UInt8} {b : Tx} (ht : TkOk t) (h1 : noCl (t.headD 0) = true) (hb : Good b) : Good (t :: b) :=
 ⟨by simp, ⟨ht, fun _ => hb.hd, hb.chn⟩, h1, by
  have := getLastD_app (a := [t]) hb.ne
  rw [show t :: b = [t] ++ b from rfl, this]
  exact hb.last⟩
theorem Good.one {t : List UInt8} (ht : TkOk t) (h1 : noCl (t.headD 0) = true) (h2 : isCl t = false) : Good [t] :=
 ⟨by simp, ⟨ht, fun e => by rw [h2] at e; simp at e, trivial⟩, h1, h2⟩
theorem wd_noCl {c : UInt8} (h : isWd c = true) : noCl c = true := by
 unfold noCl
 simp only [Bool.and_eq_true, bne_iff_ne, ne_eq]
 refine ⟨⟨?_, ?_⟩, ?_⟩ <;> (rintro rfl; exact absurd h (by decide))
theorem Good.word {t : List UInt8} {b : Tx} (ht : TkOk t) (h1 : isWd (t.headD 0) = true) (hb : Good b) : Good (t :: b) := .tok ht (wd_noCl h1) hb
theorem dec_ne (u : Nat) : Lib.decDigits u ≠ [] := by
 rw [Lib.decDigits]
 split <;> simp
theorem isT_of {s : List UInt8} (h : (firstT s).1 ≠ 2) : isT (tkOf s) s := ⟨rfl, h⟩

def PcGn (D : Nat) (c : List Tk) (x : Prc) : Prop := ∃ t o e d b ps xs, c = t :: o :: (d ++ e :: b) ∧ isN t ∧ isT o [40] ∧ ListG VaG d ps ∧ isT e [41] ∧ BlG D b xs ∧ x = ⟨txt t, ps, stsOf xs, t.at_⟩
inductive PsGn (D : Nat) : List Tk → List Prc → Prop where
 | nil : PsGn D [] []
 | cons (t : Tk) (c d : List Tk) (p : Prc) (ps : List Prc) : isT t [112, 114, 111, 99] → PcGn D c p → PsGn D d ps → PsGn D (t :: (c ++ d)) (p :: ps)
/-! with less levels -/
def Dp {α : Type} (x y : PR α) : Prop := (∃ a, x = .err 91 a) ∨ x = y
theorem Dp.rfl {α : Type} {x : PR α} : Dp x x := .inr _root_.rfl
theorem Dp.then {α β : Type} {x y : PR α} {f g : α → List Tk → PR β} (h : Dp x y) (k : ∀ a r, Dp (f a r) (g a r)) : Dp (x.then f) (y.then g) := by
 rcases h with ⟨a, rfl⟩ | rfl
 ·exact .inl ⟨a, _root_.rfl⟩
 ·cases x with
  | ok a r => exact k a r
  | err e a => exact .inr _root_.rfl

/-! how many levels are needed -/
def arD (least : Nat) (p : Nat × Nat) : Nat := if p.1 < least then p.2 + 1 else p.2
def nthD (l : List (Nat × Nat)) (i : Nat) : Nat × Nat := l.getD i (4, 0)
def inD (k : Int) (a : List (Nat × Nat)) : Nat :=
 if k = 1 then 0 else if k = 2 then 0 else if k = 3 then arD 0 (nthD a 0) + 1 else if k = 4 then arD 4 (nthD a 0) + 1 else max (arD (lvlE k) (nthD a 0)) (arD (lvlE k + 1) (nthD a 1))
def ndX : Exs → List (Nat × Nat)
 | .nil => []
 | .cons k _ _ args _ r => (lvlE k, inD k (ndX args)) :: ndX r
def inDC (k : Int) (a c : List (Nat × Nat)) : Nat :=
 if k = 1 then 0 else if k = 2 then 0 else if k = 9 then arD 3 (nthD c 0) + 1
 else if k = 10 then max (arD 2 (nthD c 0)) (arD 3 (nthD c 1)) else if k = 11 then max (arD 1 (nthD c 0)) (arD 2 (nthD c 1))
 else max (arD 0 (nthD a 0)) (arD 0 (nthD a 1))
def ndC : Cds → List (Nat × Nat)
 | .nil => []
 | .cons k args of_ _ r => (hgtC k, inDC k (ndX args) (ndC of_)) :: ndC r
def maxL (l : List Nat) : Nat := l.foldr max 0
def inDS (k : Int) (a c : List (Nat × Nat)) (b e : List Nat) : Nat :=
 if k = 7 then max (arD 0 (nthD c 0)) (max (maxL b + 1) (if e = [] then 0 else maxL e + 1))
 else if k = 8 then max (arD 0 (nthD c 0)) (maxL b + 1)
 else if k = 5 then arD 0 (nthD c 0)
 else if k = 6 then arD 0 (nthD c 0)
 else if k = 1 then 0 else if k = 4 then 0
 else if k = 9 then maxL (a.map (arD 0))
 else if k = 3 then max (arD 0 (nthD a 0) + 1) (arD 0 (nthD a 1))
 else arD 0 (nthD a 0)
def ndS : Sts → List Nat
 | .nil => []
 | .cons k _ args cond body els _ r => inDS k (ndX args) (ndC cond) (ndS body) (ndS els) :: ndS r
theorem maxL_le {l : List Nat} {m : Nat} : maxL l ≤ m ↔ ∀ x ∈ l, x ≤ m := by
 induction l with
 | nil => simp [maxL]
 | cons a r ih =>
  unfold maxL at ih ⊢
  simp only [List.foldr_cons, List.mem_cons, forall_eq_or_imp]
  rw [← ih]
  omega
/-! numbers are of 64 bits -/
/-! expressions -/
structure GE1 (p : Nat × Tx) (q : Nat × Nat) (x : Ex) : Prop where
 eq : p.1 = q.1
 one : 1 ≤ p.1
 good : Good p.2
 gram : ∀ d, q.2 ≤ d → ExG d p.1 (p.2.map tkOf) x
theorem gpar {a : Tx} (h : Good a) : Good ([40] :: (a ++ [[41]])) := .tok (by decide +kernel) (by decide) (h.app (.one (by decide +kernel) (by decide) (by decide)))
theorem gbr {a : Tx} (h : Good a) : Good ([91] :: (a ++ [[93]])) := .tok (by decide +kernel) (by decide) (h.app (.one (by decide +kernel) (by decide) (by decide)))
theorem GE1.ar {p : Nat × Tx} {q : Nat × Nat} {x : Ex} (h : GE1 p q x) (least : Nat) : Good (arE least p) ∧ ∀ d, arD least q ≤ d → ExG d least ((arE least p).map tkOf) x := by
 unfold arE arD
 rw [← h.eq]
 by_cases hl : p.1 < least
 ·rw [if_pos hl, if_pos hl]
  refine ⟨gpar h.good, fun d hd => ?_⟩
  obtain ⟨d, rfl⟩ : ∃ y, d = y + 1 := ⟨d - 1, by omega⟩
  rw [List.map_cons, List.map_append]
  exact .par d least _ _ _ x (isT_of (by decide +kernel)) ((h.gram d (by omega)).low h.one) (isT_of (by decide +kernel))
 ·rw [if_neg hl, if_neg hl]
  exact ⟨h.good, fun d hd => (h.gram d hd).low (by omega)⟩
theorem GE1.zero {p : Nat × Tx} {q : Nat × Nat} {x : Ex} (h : GE1 p q x) : Good (arE 0 p) ∧ ∀ d, arD 0 q ≤ d → ExG d 1 ((arE 0 p).map tkOf) x := by
 have := h.one
 have e : arE 0 p = arE 1 p := by unfold arE; rw [if_neg (by omega), if_neg (by omega)]
 have e2 : arD 0 q = arD 1 q := by have := h.eq; unfold arD; rw [if_neg (by omega), if_neg (by omega)]
 rw [e, e2]
 exact h.ar 1
theorem nm_no {nm : ByteArray} (h : nmdB false nm = true) : nm = noB := by
 unfold nmdB at h
 simp only [Bool.false_eq_true, if_false, beq_iff_eq] at h
 rw [ByteArray.toList_eq] at h
 have : nm.data = #[] := by
  apply Array.toList_inj.1
  simpa using h
 cases nm
 simp only at this
 subst this
 rfl
theorem nm_yes {nm : ByteArray} (h : nmdB true nm = true) : nameB nm.data.toList = true := by
 unfold nmdB at h
 simpa using h
theorem len0 {a : Exs} (h : a.len = 0) : a = .nil := by
 cases a with
 | nil => rfl
 | cons => simp [Exs.len] at h
theorem len1 {a : Exs} (h : a.len = 1) : ∃ k nm n b at_, a = .cons k nm n b at_ .nil := by
 cases a with
 | nil => simp [Exs.len] at h
 | cons k nm n b at_ r => exact ⟨k, nm, n, b, at_, by rw [len0 (a := r) (by simpa [Exs.len] using h)]⟩
theorem len2 {a : Exs} (h : a.len = 2) : ∃ k nm n b at_ k' nm' n' b' at', a = .cons k nm n b at_ (.cons k' nm' n' b' at' .nil) := by
 cases a with
 | nil => simp [Exs.len] at h
 | cons k nm n b at_ r =>
  obtain ⟨k', nm', n', b', at', e⟩ := len1 (a := r) (by simpa [Exs.len] using h)
  exact ⟨k, nm, n, b, at_, k', nm', n', b', at', by rw [e]⟩

structure GC1 (p : Nat × Tx) (q : Nat × Nat) (x : Cn) : Prop where
 eq : p.1 = q.1
 one : 1 ≤ p.1
 good : Good p.2
 gram : ∀ d, q.2 ≤ d → CoG d p.1 (p.2.map tkOf) x
theorem GC1.ar {p : Nat × Tx} {q : Nat × Nat} {x : Cn} (h : GC1 p q x) (least : Nat) : Good (arC least p) ∧ ∀ d, arD least q ≤ d → CoG d least ((arC least p).map tkOf) x := by
 unfold arC arD
 rw [← h.eq]
 by_cases hl : p.1 < least
 ·rw [if_pos hl, if_pos hl]
  refine ⟨gbr h.good, fun d hd => ?_⟩
  obtain ⟨d, rfl⟩ : ∃ y, d = y + 1 := ⟨d - 1, by omega⟩
  rw [List.map_cons, List.map_append]
  exact .br d least _ _ _ x (isT_of (by decide +kernel)) ((h.gram d (by omega)).low h.one) (isT_of (by decide +kernel))
 ·rw [if_neg hl, if_neg hl]
  exact ⟨h.good, fun d hd => (h.gram d hd).low (by omega)⟩
theorem GC1.zero {p : Nat × Tx} {q : Nat × Nat} {x : Cn} (h : GC1 p q x) : Good (arC 0 p) ∧ ∀ d, arD 0 q ≤ d → CoG d 1 ((arC 0 p).map tkOf) x := by
 have := h.one
 have e : arC 0 p = arC 1 p := by unfold arC; rw [if_neg (by omega), if_neg (by omega)]
 have e2 : arD 0 q = arD 1 q := by have := h.eq; unfold arD; rw [if_neg (by omega), if_neg (by omega)]
 rw [e, e2]
 exact h.ar 1
theorem lenC0 {a : Cds} (h : a.len = 0) : a = .nil := by
 cases a with
 | nil => rfl
 | cons => simp [Cds.len] at h
theorem lenC1 {a : Cds} (h : a.len = 1) : ∃ k b o at_, a = .cons k b o at_ .nil := by
 cases a with
 | nil => simp [Cds.len] at h
 | cons k b o at_ r => exact ⟨k, b, o, at_, by rw [lenC0 (a := r) (by simpa [Cds.len] using h)]⟩
theorem lenC2 {a : Cds} (h : a.len = 2) : ∃ k b o at_ k' b' o' at', a = .cons k b o at_ (.cons k' b' o' at' .nil) := by
 cases a with
 | nil => simp [Cds.len] at h
 | cons k b o at_ r =>
  obtain ⟨k', b', o', at', e⟩ := lenC1 (a := r) (by simpa [Cds.len] using h)
  exact ⟨k, b, o, at_, k', b', o', at', by rw [e]⟩

structure GS1 (p : Tx) (q : Nat) (x : St) : Prop where
 good : Good p
 gram : ∀ d, q ≤ d → StG d (p.map tkOf) x
def GS : Sts → Prop
 | .nil => True
 | .cons k nm args cond body els _ r => GS1 (innS k nm.data.toList (txX args) (txC cond) (txS body) (txS els)) (inDS k (ndX args) (ndC cond) (ndS body) (ndS els)) ⟨k, nm, args.bare, cond.bare, body.bare, els.bare, 0⟩ ∧ GS r
theorem gflat {z : Tx} (hz : Good z) : ∀ l : List Tx, (∀ x ∈ l, Good x) → Good (l.flatten ++ z)
 | [], _ => by simpa using hz
 | a :: r, h => by
  rw [List.flatten_cons, List.append_assoc]
  exact (h a (by simp)).app (gflat hz r fun x hx => h x (by simp [hx]))
theorem gblk {l : List Tx} (h : ∀ x ∈ l, Good x) : Good (blkT l) := .tok (by decide +kernel) (by decide) (gflat (.one (by decide +kernel) (by decide) (by decide)) l h)
theorem GS.ss : ∀ {xs : Sts}, GS xs → (∀ x ∈ txS xs, Good x) ∧ ∀ D, maxL (ndS xs) ≤ D → ∃ l, stsOf l = xs.bare ∧ SsG D ((txS xs).flatten.map tkOf) l
 | .nil, _ => ⟨fun x hx => by simp [txS] at hx, fun D _ => ⟨[], rfl, .nil D⟩⟩
 | .cons k nm args cond body els at_ r, h => by
  obtain ⟨i1, i2⟩ := GS.ss h.2
  refine ⟨fun x hx => ?_, fun D hD => ?_⟩
  ·simp only [txS, List.mem_cons] at hx
   rcases hx with rfl | hx
   ·exact h.1.good
   ·exact i1 x hx
  ·have hm := maxL_le.1 hD
   simp only [ndS, List.mem_cons] at hm
   obtain ⟨l, g1, g2⟩ := i2 D (maxL_le.2 fun x hx => hm x (.inr hx))
   refine ⟨⟨k, nm, args.bare, cond.bare, body.bare, els.bare, 0⟩ :: l, ?_, ?_⟩
   ·simp only [stsOf, g1]
    rfl
   ·simp only [txS, List.flatten_cons, List.map_append]
    exact .cons D _ _ _ _ (h.1.gram D (hm _ (.inl rfl))) g2
theorem GS.blk {xs : Sts} (h : GS xs) : Good (blkT (txS xs)) ∧ ∀ D, maxL (ndS xs) + 1 ≤ D → ∃ l, stsOf l = xs.bare ∧ BlG D ((blkT (txS xs)).map tkOf) l := by
 obtain ⟨h1, h2⟩ := h.ss
 refine ⟨gblk h1, fun D hD => ?_⟩
 obtain ⟨D, rfl⟩ : ∃ y, D = y + 1 := ⟨D - 1, by omega⟩
 obtain ⟨l, g1, g2⟩ := h2 D (by omega)
 refine ⟨l, g1, ?_⟩
 unfold blkT
 rw [List.map_cons, List.map_append]
 exact .mk D _ _ _ _ (isT_of (by decide +kernel)) g2 (isT_of (by decide +kernel))

theorem okVs_mem {vs : List Va} (h : okVs vs = true) : ∀ v ∈ vs, nameB v.nm.data.toList = true := List.all_eq_true.1 h
theorem okAs_mem {xs : List Arr} (h : okAs xs = true) : ∀ v ∈ xs, nameB v.nm.data.toList = true ∧ 0 ≤ v.size := fun v hv => by
 have := List.all_eq_true.1 h v hv
 simpa only [Bool.and_eq_true, decide_eq_true_eq] using this
theorem okPs_mem {xs : List Prc} (h : okPs xs = true) : ∀ v ∈ xs, nameB v.nm.data.toList = true ∧ okVs v.params = true ∧ okS v.body = true := fun v hv => by
 have := List.all_eq_true.1 h v hv
 simp only [Bool.and_eq_true] at this
 exact ⟨this.1.1, this.1.2, this.2⟩
def GoodE (a : Tx) : Prop := a = [] ∨ Good a
theorem GoodE.app {a b : Tx} (ha : GoodE a) (hb : Good b) : Good (a ++ b) := by
 rcases ha with rfl | ha
 ·exact hb
 ·exact ha.app hb
theorem PsGn.app {D : Nat} {a b : List Tk} {ps qs : List Prc} (h : PsGn D a ps) (k : PsGn D b qs) : PsGn D (a ++ b) (ps ++ qs) := by
 induction h with
 | nil => exact k
 | cons t c d p ps h1 h2 h3 ih =>
  rw [List.cons_append, List.append_assoc, List.cons_append]
  exact .cons t c _ p _ h1 h2 ih

theorem name_sz {nm : ByteArray} (h : nameB nm.data.toList = true) : nm.size ≤ 9223372036854775807 := by
 unfold nameB at h
 simp only [Bool.and_eq_true, beq_iff_eq, decide_eq_true_eq] at h
 have h1 := h.1.1.1.1
 have h2 := h.1.1.2
 have : nm.size = nm.data.toList.length := by rw [Array.length_toList]; rfl
 omega
theorem nmd_sz {b : Bool} {nm : ByteArray} (h : nmdB b nm = true) : nm.size ≤ 9223372036854775807 := by
 cases b
 ·rw [nm_no h]; decide
 ·exact name_sz (nm_yes h)
theorem szX_ok : ∀ xs : Exs, okX xs = true → szX xs
 | .nil, _ => trivial
 | .cons k nm n args at_ r, h => by
  simp only [okX, Bool.and_eq_true] at h
  exact ⟨nmd_sz h.1.1.1.2, szX_ok args h.1.2, szX_ok r h.2⟩
theorem szC_ok : ∀ xs : Cds, okC xs = true → szC xs
 | .nil, _ => trivial
 | .cons k args of_ at_ r, h => by
  simp only [okC, Bool.and_eq_true] at h
  exact ⟨szX_ok args h.1.1.2, szC_ok of_ h.1.2, szC_ok r h.2⟩
theorem szS_ok : ∀ xs : Sts, okS xs = true → szS xs
 | .nil, _ => trivial
 | .cons k nm args cond body els at_ r, h => by
  simp only [okS, Bool.and_eq_true] at h
  have h3 := h.1.1.1.1.1.1.1.1.1.2
  exact ⟨nmd_sz h3, szX_ok args h.1.1.1.1.2, szC_ok cond h.1.1.1.2, szS_ok body h.1.1.2, szS_ok els h.1.2, szS_ok r h.2⟩
theorem szT_ok {t : Tre} (h : okTr t = true) : SzT t := by
 simp only [okTr, Bool.and_eq_true] at h
 obtain ⟨⟨⟨h1, h2⟩, h3⟩, h4⟩ := h
 refine ⟨fun x hx => name_sz (okVs_mem h1 x hx), fun x hx => name_sz (okAs_mem h3 x hx).1, fun x hx => ?_, szS_ok t.main h2⟩
 obtain ⟨g1, g2, g3⟩ := okPs_mem h4 x hx
 exact ⟨name_sz g1, fun y hy => name_sz (okVs_mem g2 y hy), szS_ok x.body g3⟩
end Go.Proofs.YtfcegaklbicmfaaGreatDoor
