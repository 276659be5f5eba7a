/-
  Plain grammar: what tokens a parser passes, and what it makes of them. No program.
-/
import Derived.Test.YtfcegaklbicmfaaGreatDoorJnLoc
set_option linter.unusedVariables false
set_option linter.unusedSimpArgs false
namespace Go.Proofs.YtfcegaklbicmfaaGreatDoor
open Go.RowKit Go.Shelf

def isT (t : Tk) (s : List UInt8) : Prop := t.text = s ∧ t.kind ≠ 2
def isN (t : Tk) : Prop := t.kind = 1 ∧ nameB t.text = true
def opT (k : Int) : List UInt8 := if k = 5 then [43] else if k = 6 then [45] else if k = 7 then [42] else if k = 8 then [47] else if k = 9 then [37] else if k = 10 then [60, 60] else [62, 62]
def opL (k : Int) : Nat := if k ≤ 6 then 2 else if k ≤ 9 then 3 else 1
def cmT (k : Int) : List UInt8 := if k = 3 then [60] else if k = 4 then [60, 61] else if k = 5 then [62] else if k = 6 then [62, 61] else if k = 7 then [61, 61] else [33, 61]
inductive ExG : Nat → Nat → List Tk → Ex → Prop where
 | num (d n : Nat) (t : Tk) : t.kind = 2 → ExG d n [t] ⟨1, noB, decV t.text, .nil, t.at_⟩
 | var (d n : Nat) (t : Tk) : isN t → ExG d n [t] ⟨2, txt t, 0, .nil, t.at_⟩
 | load (d n : Nat) (t b e : Tk) (c : List Tk) (x : Ex) : isN t → isT b [91] → ExG d 1 c x → isT e [93] → ExG (d + 1) n (t :: b :: (c ++ [e])) ⟨3, txt t, 0, x.cons .nil, t.at_⟩
 | neg (d n : Nat) (t : Tk) (c : List Tk) (x : Ex) : isT t [45] → ExG d 4 c x → ExG (d + 1) n (t :: c) ⟨4, noB, 0, x.cons .nil, t.at_⟩
 | par (d n : Nat) (t e : Tk) (c : List Tk) (x : Ex) : isT t [40] → ExG d 1 c x → isT e [41] → ExG (d + 1) n (t :: (c ++ [e])) x
 | two (d n : Nat) (k : Int) (t : Tk) (a b : List Tk) (x y : Ex) : 5 ≤ k → k ≤ 11 → n ≤ opL k → ExG d (opL k) a x → isT t (opT k) → ExG d (opL k + 1) b y → ExG d n (a ++ t :: b) ⟨k, noB, 0, x.cons (y.cons .nil), t.at_⟩
theorem ExG.low {d n m : Nat} {c : List Tk} {x : Ex} (h : ExG d n c x) (hm : m ≤ n) : ExG d m c x := by
 cases h with
 | num _ _ t h => exact .num d m t h
 | var _ _ t h => exact .var d m t h
 | load d _ t b e c x h1 h2 h3 h4 => exact .load d m t b e c x h1 h2 h3 h4
 | neg d _ t c x h1 h2 => exact .neg d m t c x h1 h2
 | par d _ t e c x h1 h2 h3 => exact .par d m t e c _ h1 h2 h3
 | two _ _ k t a b x y h1 h2 h3 h4 h5 h6 => exact .two d m k t a b x y h1 h2 (Nat.le_trans hm h3) h4 h5 h6
inductive CoG : Nat → Nat → List Tk → Cn → Prop where
 | yes (d n : Nat) (t : Tk) : isT t [116, 114, 117, 101] → CoG d n [t] ⟨1, .nil, .nil, t.at_⟩
 | no (d n : Nat) (t : Tk) : isT t [102, 97, 108, 115, 101] → CoG d n [t] ⟨2, .nil, .nil, t.at_⟩
 | not (d n : Nat) (t : Tk) (c : List Tk) (x : Cn) : isT t [33] → CoG d 3 c x → CoG (d + 1) n (t :: c) ⟨9, .nil, x.cons .nil, t.at_⟩
 | br (d n : Nat) (t e : Tk) (c : List Tk) (x : Cn) : isT t [91] → CoG d 1 c x → isT e [93] → CoG (d + 1) n (t :: (c ++ [e])) x
 | cmp (d n : Nat) (k : Int) (t : Tk) (a b : List Tk) (x y : Ex) : 3 ≤ k → k ≤ 8 → ExG d 1 a x → isT t (cmT k) → ExG d 1 b y → CoG d n (a ++ t :: b) ⟨k, x.cons (y.cons .nil), .nil, t.at_⟩
 | and (d n : Nat) (t : Tk) (a b : List Tk) (x y : Cn) : n ≤ 2 → CoG d 2 a x → isT t [38, 38] → CoG d 3 b y → CoG d n (a ++ t :: b) ⟨10, .nil, x.cons (y.cons .nil), t.at_⟩
 | or (d n : Nat) (t : Tk) (a b : List Tk) (x y : Cn) : n ≤ 1 → CoG d 1 a x → isT t [124, 124] → CoG d 2 b y → CoG d n (a ++ t :: b) ⟨11, .nil, x.cons (y.cons .nil), t.at_⟩
theorem CoG.low {d n m : Nat} {c : List Tk} {x : Cn} (h : CoG d n c x) (hm : m ≤ n) : CoG d m c x := by
 cases h with
 | yes _ _ t h => exact .yes d m t h
 | no _ _ t h => exact .no d m t h
 | not d _ t c x h1 h2 => exact .not d m t c x h1 h2
 | br d _ t e c x h1 h2 h3 => exact .br d m t e c _ h1 h2 h3
 | cmp _ _ k t a b x y h1 h2 h3 h4 h5 => exact .cmp d m k t a b x y h1 h2 h3 h4 h5
 | and _ _ t a b x y h1 h2 h3 h4 => exact .and d m t a b x y (Nat.le_trans hm h1) h2 h3 h4
 | or _ _ t a b x y h1 h2 h3 h4 => exact .or d m t a b x y (Nat.le_trans hm h1) h2 h3 h4
inductive SomeG {α : Type} (R : List Tk → α → Prop) : List Tk → List α → Prop where
 | one (c : List Tk) (x : α) : R c x → SomeG R c [x]
 | more (c : List Tk) (x : α) (t : Tk) (d : List Tk) (xs : List α) : R c x → isT t [44] → SomeG R d xs → SomeG R (c ++ t :: d) (x :: xs)
def ListG {α : Type} (R : List Tk → α → Prop) (c : List Tk) (xs : List α) : Prop := (c = [] ∧ xs = []) ∨ SomeG R c xs
def AskG (n : Nat) (c : List Tk) (cs : Cds) : Prop := ∃ t e d x, c = t :: (d ++ [e]) ∧ isT t [40] ∧ CoG n 1 d x ∧ isT e [41] ∧ cs = x.cons .nil
mutual
inductive StG : Nat → List Tk → St → Prop where
 | skip (m : Nat) (t e : Tk) : t.text = [115, 107, 105, 112] → isT e [59] → StG m [t, e] ⟨1, noB, .nil, .nil, .nil, .nil, t.at_⟩
 | input (m : Nat) (t n e : Tk) : t.text = [105, 110, 112, 117, 116] → isN n → isT e [59] → StG m [t, n, e] ⟨4, txt n, .nil, .nil, .nil, .nil, t.at_⟩
 | assume (m : Nat) (t e : Tk) (c : List Tk) (cs : Cds) : t.text = [97, 115, 115, 117, 109, 101] → AskG m c cs → isT e [59] → StG m (t :: (c ++ [e])) ⟨5, noB, .nil, cs, .nil, .nil, t.at_⟩
 | assert (m : Nat) (t e : Tk) (c : List Tk) (cs : Cds) : t.text = [97, 115, 115, 101, 114, 116] → AskG m c cs → isT e [59] → StG m (t :: (c ++ [e])) ⟨6, noB, .nil, cs, .nil, .nil, t.at_⟩
 | ifs (m : Nat) (t : Tk) (c b : List Tk) (cs : Cds) (xs : List St) : t.text = [105, 102] → AskG m c cs → BlG m b xs → StG m (t :: (c ++ b)) ⟨7, noB, .nil, cs, stsOf xs, .nil, t.at_⟩
 | ifelse (m : Nat) (t l : Tk) (c b d : List Tk) (cs : Cds) (xs ys : List St) : t.text = [105, 102] → AskG m c cs → BlG m b xs → isT l [101, 108, 115, 101] → BlG m d ys → StG m (t :: (c ++ (b ++ l :: d))) ⟨7, noB, .nil, cs, stsOf xs, stsOf ys, t.at_⟩
 | while (m : Nat) (t : Tk) (c b : List Tk) (cs : Cds) (xs : List St) : t.text = [119, 104, 105, 108, 101] → AskG m c cs → BlG m b xs → StG m (t :: (c ++ b)) ⟨8, noB, .nil, cs, stsOf xs, .nil, t.at_⟩
 | call (m : Nat) (t n o e s : Tk) (c : List Tk) (xs : List Ex) : t.text = [99, 97, 108, 108] → isN n → isT o [40] → ListG (ExG m 1) c xs → isT e [41] → isT s [59] → StG m (t :: n :: o :: (c ++ [e, s])) ⟨9, txt n, exsOf xs, .nil, .nil, .nil, t.at_⟩
 | store (m : Nat) (n b e q s : Tk) (c d : List Tk) (x y : Ex) : isN n → isT b [91] → ExG m 1 c x → isT e [93] → isT q [61] → ExG (m + 1) 1 d y → isT s [59] → StG (m + 1) (n :: b :: (c ++ e :: q :: (d ++ [s]))) ⟨3, txt n, x.cons (y.cons .nil), .nil, .nil, .nil, n.at_⟩
 | set (m : Nat) (n q s : Tk) (c : List Tk) (x : Ex) : isN n → isT q [61] → ExG m 1 c x → isT s [59] → StG m (n :: q :: (c ++ [s])) ⟨2, txt n, x.cons .nil, .nil, .nil, .nil, n.at_⟩
inductive BlG : Nat → List Tk → List St → Prop where
 | mk (m : Nat) (t e : Tk) (c : List Tk) (xs : List St) : isT t [123] → SsG m c xs → isT e [125] → BlG (m + 1) (t :: (c ++ [e])) xs
inductive SsG : Nat → List Tk → List St → Prop where
 | nil (m : Nat) : SsG m [] []
 | cons (m : Nat) (a b : List Tk) (x : St) (xs : List St) : StG m a x → SsG m b xs → SsG m (a ++ b) (x :: xs)
end
def VaG (c : List Tk) (x : Va) : Prop := ∃ t, c = [t] ∧ isN t ∧ x = ⟨txt t, t.at_⟩
def ArG (c : List Tk) (x : Arr) : Prop := ∃ t b n e, c = [t, b, n, e] ∧ isN t ∧ isT b [91] ∧ n.kind = 2 ∧ isT e [93] ∧ x = ⟨txt t, decV n.text, t.at_⟩
def PcG (c : List Tk) (x : Prc) : Prop := ∃ t o e d b ps xs, c = t :: o :: (d ++ e :: b) ∧ isN t ∧ isT o [40] ∧ ListG VaG d ps ∧ isT e [41] ∧ BlG 24 b xs ∧ x = ⟨txt t, ps, stsOf xs, t.at_⟩
inductive HdG : List Tk → List Va → List Arr → Prop where
 | nil : HdG [] [] []
 | vars (t e : Tk) (c d : List Tk) (vs ws : List Va) (xs : List Arr) : isT t [118, 97, 114] → SomeG VaG c vs → isT e [59] → HdG d ws xs → HdG (t :: (c ++ e :: d)) (vs ++ ws) xs
 | arrays (t e : Tk) (c d : List Tk) (ws : List Va) (ys xs : List Arr) : isT t [97, 114, 114, 97, 121] → SomeG ArG c ys → isT e [59] → HdG d ws xs → HdG (t :: (c ++ e :: d)) ws (ys ++ xs)
inductive PsG : List Tk → List Prc → Prop where
 | nil : PsG [] []
 | cons (t : Tk) (c d : List Tk) (p : Prc) (ps : List Prc) : isT t [112, 114, 111, 99] → PcG c p → PsG d ps → PsG (t :: (c ++ d)) (p :: ps)
def TrG (c : List Tk) (t : Tre) : Prop := ∃ a b m d xs, c = a ++ (b ++ m :: d) ∧ HdG a t.vars t.arrays ∧ PsG b t.procs ∧ isT m [109, 97, 105, 110] ∧ BlG 24 d xs ∧ t.main = stsOf xs

def Eats {α : Type} (R : List Tk → α → Prop) (f : List Tk → PR α) : Prop := ∀ l y r, f l = .ok y r → ∃ c, l = c ++ r ∧ R c y
theorem idxS_get : ∀ (zs : List ByteArray) (x : ByteArray) (i : Nat), 0 ≤ Lib.idxFromS zs x i → ∃ k : Nat, Lib.idxFromS zs x i = (i + k : Nat) ∧ zs[k]? = some x
 | [], x, i, h => by simp [Lib.idxFromS] at h
 | z :: zs, x, i, h => by
  unfold Lib.idxFromS at h ⊢
  by_cases e : z = x
  ·subst e
   exact ⟨0, by simp, rfl⟩
  ·simp only [e, if_false] at h ⊢
   obtain ⟨k, h1, h2⟩ := idxS_get zs x (i + 1) h
   exact ⟨k + 1, by rw [h1]; congr 1; omega, by simpa using h2⟩
theorem isP_at {signs : List (List UInt8)} {l : List Tk} (h : ¬ isP signs l < 0) : ∃ k : Nat, isP signs l = k ∧ signs[k]? = some (hdT l).text ∧ (hdT l).kind ≠ 2 := by
 unfold isP at h ⊢
 by_cases e : (hdT l).kind = 2
 ·rw [if_pos e] at h; omega
 ·rw [if_neg e] at h ⊢
  obtain ⟨k, h1, h2⟩ := idxS_get (signs.map fun s => (⟨s.toArray⟩ : ByteArray)) (txt (hdT l)) 0 (by unfold Lib.idxOfS at h; simpa using h)
  refine ⟨k, by unfold Lib.idxOfS; rw [h1]; simp, ?_, e⟩
  rw [List.getElem?_map] at h2
  cases hs : signs[k]? with
  | none => rw [hs] at h2; simp at h2
  | some s =>
   rw [hs] at h2
   simp only [Option.map_some, Option.some.injEq] at h2
   rw [mk_inj h2]
theorem hd_cons {l : List Tk} (h : (hdT l).text ≠ []) : l = hdT l :: l.tail := by
 cases l with
 | nil => exact absurd rfl h
 | cons t r => rfl
theorem may_eats {s : List UInt8} {l : List Tk} (hs : s ≠ []) (h : mayB s l = true) : ∃ t, l = t :: l.tail ∧ isT t s := by
 obtain ⟨h1, h2⟩ := mayB_text h
 exact ⟨hdT l, hd_cons (by rw [h1]; exact hs), h1, h2⟩
theorem take_eats {s : List UInt8} {l r : List Tk} {u : Unit} (hs : s ≠ []) (h : takeP s l = .ok u r) : ∃ t, l = t :: r ∧ isT t s := by
 have hr := takeP_shr h
 unfold takeP at h
 split at h
 ·rename_i hm
  obtain ⟨t, h1, h2⟩ := may_eats hs hm
  exact ⟨t, by rw [hr]; exact h1, h2⟩
 ·simp at h
theorem named_eats {l : List Tk} (h : namedB l = true) : ∃ t, l = t :: l.tail ∧ isN t ∧ hdT l = t := by
 unfold namedB at h
 simp only [Bool.and_eq_true, beq_iff_eq] at h
 cases l with
 | nil => simp [hdT] at h
 | cons t r => exact ⟨t, rfl, h, rfl⟩
theorem name_eats {l r : List Tk} {x : Va} (h : nameP l = .ok x r) : ∃ t, l = t :: r ∧ isN t ∧ x = ⟨txt t, t.at_⟩ := by
 have hr := nameP_shr h
 unfold nameP at h
 split at h
 ·rename_i hn
  obtain ⟨t, h1, h2, h3⟩ := named_eats hn
  simp only [PR.ok.injEq] at h
  exact ⟨t, by rw [hr]; exact h1, h2, by rw [← h.1, h3]⟩
 ·simp at h
theorem number_eats {l r : List Tk} {v : Int} (h : numberP l = .ok v r) : ∃ t, l = t :: r ∧ t.kind = 2 ∧ v = decV t.text := by
 have hr := numberP_shr h
 unfold numberP at h
 split at h
 ·rename_i hn
  simp only [PR.ok.injEq] at h
  cases l with
  | nil => simp [hdT] at hn
  | cons t q => exact ⟨t, by rw [hr]; rfl, hn, h.1.symm⟩
 ·simp at h
theorem chainF_eats {α : Type} {one : List Tk → PR α} {join : Int → Int → α → α → α} {signs : List (List UInt8)} {R1 R : List Tk → α → Prop} (hs : [] ∉ signs) (h1 : Eats R1 one)
  (hj : ∀ (k : Nat) (t : Tk) (a b : List Tk) (x y : α), signs[k]? = some t.text → t.kind ≠ 2 → R a x → R1 b y → R (a ++ t :: b) (join k t.at_ x y)) :
  ∀ (f : Nat) (x : α) (c l : List Tk) (y : α) (r : List Tk), R c x → chainF one join signs f x l = .ok y r → ∃ d, l = d ++ r ∧ R (c ++ d) y
 | 0, x, c, l, y, r, hx, h => by
  simp only [chainF, PR.ok.injEq] at h
  exact ⟨[], by rw [h.2]; rfl, by rw [← h.1]; simpa using hx⟩
 | f + 1, x, c, l, y, r, hx, h => by
  simp only [chainF] at h
  split at h
  ·simp only [PR.ok.injEq] at h
   exact ⟨[], by rw [h.2]; rfl, by rw [← h.1]; simpa using hx⟩
  ·rename_i hp
   obtain ⟨z, q, e1, e2⟩ := PR.then_ok h
   obtain ⟨k, hk, hk2, hk3⟩ := isP_at hp
   have hne : (hdT l).text ≠ [] := fun e => hs (by rw [e] at hk2; exact List.mem_of_getElem? hk2)
   obtain ⟨b, hb, hb2⟩ := h1 _ _ _ e1
   have hj' := hj k (hdT l) c b x z hk2 hk3 hx hb2
   rw [hk] at e2
   obtain ⟨d, hd, hd2⟩ := chainF_eats hs h1 hj f _ _ _ _ _ hj' e2
   refine ⟨hdT l :: (b ++ d), ?_, ?_⟩
   ·rw [hd_cons hne, hb, hd]
    simp [hdT]
   ·simpa using hd2
theorem chainP_eats {α : Type} {one : List Tk → PR α} {join : Int → Int → α → α → α} {signs : List (List UInt8)} {R1 R : List Tk → α → Prop} (hs : [] ∉ signs) (h1 : Eats R1 one) (hup : ∀ c x, R1 c x → R c x)
  (hj : ∀ (k : Nat) (t : Tk) (a b : List Tk) (x y : α), signs[k]? = some t.text → t.kind ≠ 2 → R a x → R1 b y → R (a ++ t :: b) (join k t.at_ x y)) : Eats R (chainP one join signs) := fun l y r h => by
 unfold chainP at h
 obtain ⟨z, q, e1, e2⟩ := PR.then_ok h
 obtain ⟨c, hc, hc2⟩ := h1 _ _ _ e1
 obtain ⟨d, hd, hd2⟩ := chainF_eats hs h1 hj _ _ c _ _ _ (hup _ _ hc2) e2
 exact ⟨c ++ d, by rw [hc, hd]; simp, hd2⟩
theorem exprOf_eats {d : Nat} {sign : List Tk → PR Ex} (h : Eats (ExG d 4) sign) : Eats (ExG d 1) (exprOf sign) := by
 have hm : Eats (ExG d 3) (chainP sign (twoX 7) mulS) := chainP_eats (by decide) h (fun c x hx => hx.low (by omega)) fun k t a b x y hk h2 hx hy => by
  match k, hk with
  | 0, hk => exact .two d 3 7 t a b x y (by omega) (by omega) (by decide) hx ⟨by simp [mulS] at hk; exact hk.symm.trans (by rfl), h2⟩ hy
  | 1, hk => exact .two d 3 8 t a b x y (by omega) (by omega) (by decide) hx ⟨by simp [mulS] at hk; exact hk.symm.trans (by rfl), h2⟩ hy
  | 2, hk => exact .two d 3 9 t a b x y (by omega) (by omega) (by decide) hx ⟨by simp [mulS] at hk; exact hk.symm.trans (by rfl), h2⟩ hy
  | k + 3, hk => simp [mulS] at hk
 have ha : Eats (ExG d 2) (chainP (chainP sign (twoX 7) mulS) (twoX 5) addS) := chainP_eats (by decide) hm (fun c x hx => hx.low (by omega)) fun k t a b x y hk h2 hx hy => by
  match k, hk with
  | 0, hk => exact .two d 2 5 t a b x y (by omega) (by omega) (by decide) hx ⟨by simp [addS] at hk; exact hk.symm.trans (by rfl), h2⟩ hy
  | 1, hk => exact .two d 2 6 t a b x y (by omega) (by omega) (by decide) hx ⟨by simp [addS] at hk; exact hk.symm.trans (by rfl), h2⟩ hy
  | k + 2, hk => simp [addS] at hk
 exact chainP_eats (by decide) ha (fun c x hx => hx.low (by omega)) fun k t a b x y hk h2 hx hy => by
  match k, hk with
  | 0, hk => exact .two d 1 10 t a b x y (by omega) (by omega) (by decide) hx ⟨by simp [shS] at hk; exact hk.symm.trans (by rfl), h2⟩ hy
  | 1, hk => exact .two d 1 11 t a b x y (by omega) (by omega) (by decide) hx ⟨by simp [shS] at hk; exact hk.symm.trans (by rfl), h2⟩ hy
  | k + 2, hk => simp [shS] at hk
theorem signP_eats : ∀ n, Eats (ExG n 4) (signP n)
 | 0 => fun l y r e => by
  simp only [signP] at e
  split at e
  ·simp at e
  ·split at e
   ·simp at e
   ·split at e
    ·rename_i hn
     split at e
     ·simp at e
     ·simp only [PR.ok.injEq] at e
      obtain ⟨t, h1, h2, h3⟩ := named_eats hn
      refine ⟨[t], by rw [← e.2]; exact h1, ?_⟩
      rw [← e.1, h3]
      exact .var 0 4 t h2
    ·obtain ⟨v, q, h1, h2⟩ := PR.then_ok e
     simp only [PR.ok.injEq] at h2
     obtain ⟨t, g1, g2, g3⟩ := number_eats h1
     refine ⟨[t], by rw [← h2.2]; exact g1, ?_⟩
     rw [← h2.1, g3, show hdT l = t from by rw [g1]; rfl]
     exact .num 0 4 t g2
 | n + 1 => fun l y r e => by
  have ih := signP_eats n
  simp only [signP] at e
  split at e
  ·rename_i hm
   obtain ⟨a, q, h1, h2⟩ := PR.then_ok e
   simp only [PR.ok.injEq] at h2
   obtain ⟨t, g1, g2⟩ := may_eats (by simp) hm
   obtain ⟨c, g3, g4⟩ := ih _ _ _ h1
   refine ⟨t :: c, by rw [g1, g3, h2.2]; rfl, ?_⟩
   rw [← h2.1, show hdT l = t from by rw [g1]; rfl]
   exact .neg n 4 t c a g2 g4
  ·split at e
   ·rename_i hm
    obtain ⟨a, q, h1, h2⟩ := PR.then_ok e
    obtain ⟨u, q2, h3, h4⟩ := PR.then_ok h2
    simp only [PR.ok.injEq] at h4
    obtain ⟨t, g1, g2⟩ := may_eats (by simp) hm
    obtain ⟨c, g3, g4⟩ := exprOf_eats ih _ _ _ h1
    obtain ⟨z, g5, g6⟩ := take_eats (by simp) h3
    refine ⟨t :: (c ++ [z]), by rw [g1, g3, g5, h4.2]; simp, ?_⟩
    rw [← h4.1]
    exact .par n 4 t z c a g2 g4 g6
   ·split at e
    ·rename_i hn
     obtain ⟨t, g1, g2, g3⟩ := named_eats hn
     split at e
     ·rename_i hm
      obtain ⟨a, q, h1, h2⟩ := PR.then_ok e
      obtain ⟨u, q2, h3, h4⟩ := PR.then_ok h2
      simp only [PR.ok.injEq] at h4
      obtain ⟨b, g4, g5⟩ := may_eats (by simp) hm
      obtain ⟨c, g6, g7⟩ := exprOf_eats ih _ _ _ h1
      obtain ⟨z, g8, g9⟩ := take_eats (by simp) h3
      refine ⟨t :: b :: (c ++ [z]), by rw [g1, g4, g6, g8, h4.2]; simp, ?_⟩
      rw [← h4.1, g3]
      exact .load n 4 t b z c a g2 g5 g7 g9
     ·simp only [PR.ok.injEq] at e
      refine ⟨[t], by rw [← e.2]; exact g1, ?_⟩
      rw [← e.1, g3]
      exact .var _ 4 t g2
    ·obtain ⟨v, q, h1, h2⟩ := PR.then_ok e
     simp only [PR.ok.injEq] at h2
     obtain ⟨t, g1, g2, g3⟩ := number_eats h1
     refine ⟨[t], by rw [← h2.2]; exact g1, ?_⟩
     rw [← h2.1, g3, show hdT l = t from by rw [g1]; rfl]
     exact .num _ 4 t g2
theorem exprP_eats (n : Nat) : Eats (ExG n 1) (exprP n) := exprOf_eats (signP_eats n)
theorem indexP_eats (n : Nat) : Eats (fun c x => ∃ m b e d, n = m + 1 ∧ c = b :: (d ++ [e]) ∧ isT b [91] ∧ ExG m 1 d x ∧ isT e [93]) (indexP n) := fun l y r e => by
 unfold indexP withinP at e
 split at e
 ·rename_i hm
  cases n with
  | zero => simp at e
  | succ n =>
   simp only at e
   obtain ⟨a, q, h1, h2⟩ := PR.then_ok e
   obtain ⟨u, q2, h3, h4⟩ := PR.then_ok h2
   simp only [PR.ok.injEq] at h4
   obtain ⟨t, g1, g2⟩ := may_eats (by simp) hm
   obtain ⟨c, g3, g4⟩ := exprP_eats n _ _ _ h1
   obtain ⟨z, g5, g6⟩ := take_eats (by simp) h3
   exact ⟨t :: (c ++ [z]), by rw [g1, g3, g5, h4.2]; simp, n, t, z, c, rfl, rfl, g2, by rw [← h4.1]; exact g4, g6⟩
 ·simp at e
theorem condOf_eats {d : Nat} {nt : List Tk → PR Cn} (h : Eats (CoG d 3) nt) : Eats (CoG d 1) (condOf nt) := by
 have ha : Eats (CoG d 2) (chainP nt (joinX 10) [[38, 38]]) := chainP_eats (by decide) h (fun c x hx => hx.low (by omega)) fun k t a b x y hk h2 hx hy => by
  match k, hk with
  | 0, hk => exact .and d 2 t a b x y (by omega) hx ⟨by simpa using hk.symm, h2⟩ hy
  | k + 1, hk => simp at hk
 exact chainP_eats (by decide) ha (fun c x hx => hx.low (by omega)) fun k t a b x y hk h2 hx hy => by
  match k, hk with
  | 0, hk => exact .or d 1 t a b x y (by omega) hx ⟨by simpa using hk.symm, h2⟩ hy
  | k + 1, hk => simp at hk
theorem cmpP_eats (n : Nat) : Eats (CoG n 3) (cmpP n) := fun l y r e => by
 obtain ⟨a, q, h1, h2⟩ := PR.then_ok e
 obtain ⟨c, g1, g2⟩ := exprP_eats n _ _ _ h1
 split at h2
 ·simp at h2
 ·rename_i hp
  obtain ⟨b, q2, h3, h4⟩ := PR.then_ok h2
  simp only [PR.ok.injEq] at h4
  obtain ⟨d, g3, g4⟩ := exprP_eats n _ _ _ h3
  obtain ⟨k, hk, hk2, hk3⟩ := isP_at hp
  have hne : (hdT q).text ≠ [] := fun e => by
   rw [e] at hk2
   exact absurd (List.mem_of_getElem? hk2) (by decide)
  refine ⟨c ++ hdT q :: d, by rw [g1, hd_cons hne, g3, h4.2]; simp [hdT], ?_⟩
  rw [← h4.1, hk]
  match k, hk2 with
  | 0, hk2 => exact .cmp n 3 3 _ c d a b (by omega) (by omega) g2 ⟨by simp [cmpS] at hk2; exact hk2.symm.trans (by rfl), hk3⟩ g4
  | 1, hk2 => exact .cmp n 3 4 _ c d a b (by omega) (by omega) g2 ⟨by simp [cmpS] at hk2; exact hk2.symm.trans (by rfl), hk3⟩ g4
  | 2, hk2 => exact .cmp n 3 5 _ c d a b (by omega) (by omega) g2 ⟨by simp [cmpS] at hk2; exact hk2.symm.trans (by rfl), hk3⟩ g4
  | 3, hk2 => exact .cmp n 3 6 _ c d a b (by omega) (by omega) g2 ⟨by simp [cmpS] at hk2; exact hk2.symm.trans (by rfl), hk3⟩ g4
  | 4, hk2 => exact .cmp n 3 7 _ c d a b (by omega) (by omega) g2 ⟨by simp [cmpS] at hk2; exact hk2.symm.trans (by rfl), hk3⟩ g4
  | 5, hk2 => exact .cmp n 3 8 _ c d a b (by omega) (by omega) g2 ⟨by simp [cmpS] at hk2; exact hk2.symm.trans (by rfl), hk3⟩ g4
  | k + 6, hk2 => simp [cmpS] at hk2
theorem notS_get {l : List Tk} {k : Nat} (h : isP notS l = k) : notS[k]? = some (hdT l).text ∧ (hdT l).kind ≠ 2 := by
 obtain ⟨j, h1, h2, h3⟩ := isP_at (signs := notS) (l := l) (by omega)
 obtain rfl : j = k := by omega
 exact ⟨h2, h3⟩
theorem notS_cons {l : List Tk} {k : Nat} (h : isP notS l = k) {s : List UInt8} (hs : notS[k]? = some s) (hn : s ≠ []) : ∃ t, l = t :: l.tail ∧ isT t s ∧ hdT l = t := by
 obtain ⟨h1, h2⟩ := notS_get h
 rw [hs] at h1
 have h1 := Option.some.inj h1
 exact ⟨hdT l, hd_cons (by rw [← h1]; exact hn), ⟨h1.symm, h2⟩, rfl⟩
theorem lit_eats (d : Nat) {l : List Tk} (h : isP notS l = 2 ∨ isP notS l = 3) : ∃ t, l = t :: l.tail ∧ CoG d 3 [t] ⟨1 + (isP notS l - 2), .nil, .nil, (hdT l).at_⟩ := by
 rcases h with h | h
 ·obtain ⟨t, h1, h2, h3⟩ := notS_cons (k := 2) h rfl (by simp)
  exact ⟨t, h1, by rw [h, h3]; exact .yes d 3 t h2⟩
 ·obtain ⟨t, h1, h2, h3⟩ := notS_cons (k := 3) h rfl (by simp)
  exact ⟨t, h1, by rw [h, h3]; exact .no d 3 t h2⟩
theorem notP_eats : ∀ n, Eats (CoG n 3) (notP n)
 | 0 => fun l y r e => by
  simp only [notP] at e
  split at e
  ·simp at e
  ·split at e
   ·simp at e
   ·split at e
    ·rename_i hl
     obtain ⟨t, h1, h2⟩ := lit_eats _ hl
     simp only [PR.ok.injEq] at e
     exact ⟨[t], by rw [← e.2]; exact h1, by rw [← e.1]; exact h2⟩
    ·exact cmpP_eats 0 _ _ _ e
 | n + 1 => fun l y r e => by
  have ih := notP_eats n
  simp only [notP] at e
  split at e
  ·rename_i hm
   obtain ⟨a, q, h1, h2⟩ := PR.then_ok e
   simp only [PR.ok.injEq] at h2
   obtain ⟨t, g1, g2, g0⟩ := notS_cons (k := 0) hm rfl (by simp)
   obtain ⟨c, g3, g4⟩ := ih _ _ _ h1
   refine ⟨t :: c, by rw [g1, g3, h2.2]; rfl, ?_⟩
   rw [← h2.1, g0]
   exact .not n 3 t c a g2 g4
  ·split at e
   ·rename_i hm
    obtain ⟨a, q, h1, h2⟩ := PR.then_ok e
    obtain ⟨u, q2, h3, h4⟩ := PR.then_ok h2
    simp only [PR.ok.injEq] at h4
    obtain ⟨t, g1, g2, g0⟩ := notS_cons (k := 1) hm rfl (by simp)
    obtain ⟨c, g3, g4⟩ := condOf_eats ih _ _ _ h1
    obtain ⟨z, g5, g6⟩ := take_eats (by simp) h3
    refine ⟨t :: (c ++ [z]), by rw [g1, g3, g5, h4.2]; simp, ?_⟩
    rw [← h4.1]
    exact .br n 3 t z c a g2 g4 g6
   ·split at e
    ·rename_i hl
     obtain ⟨t, h1, h2⟩ := lit_eats _ hl
     simp only [PR.ok.injEq] at e
     exact ⟨[t], by rw [← e.2]; exact h1, by rw [← e.1]; exact h2⟩
    ·exact cmpP_eats (n + 1) _ _ _ e
theorem condP_eats (n : Nat) : Eats (CoG n 1) (condP n) := condOf_eats (notP_eats n)
theorem askP_eats (n : Nat) : Eats (AskG n) (askP n) := fun l y r e => by
 obtain ⟨u, q, h1, h2⟩ := PR.then_ok e
 obtain ⟨c, q2, h3, h4⟩ := PR.then_ok h2
 obtain ⟨u2, q3, h5, h6⟩ := PR.then_ok h4
 simp only [PR.ok.injEq] at h6
 obtain ⟨t, g1, g2⟩ := take_eats (by simp) h1
 obtain ⟨d, g3, g4⟩ := condP_eats n _ _ _ h3
 obtain ⟨z, g5, g6⟩ := take_eats (by simp) h5
 exact ⟨t :: (d ++ [z]), by rw [g1, g3, g5, h6.2]; simp, t, z, d, c, rfl, g2, g4, g6, h6.1.symm⟩
end Go.Proofs.YtfcegaklbicmfaaGreatDoor

namespace Go.Proofs.YtfcegaklbicmfaaGreatDoor
open Go.RowKit Go.Shelf

def Eats' {α : Type} (R : List Tk → α → Prop) (f : List Tk → PR α) : Prop := ∀ l y r, f l = .ok y r → r ≠ [] → ∃ c, l = c ++ r ∧ R c y
theorem Eats.some_ {α : Type} {R : List Tk → α → Prop} {f : List Tk → PR α} (h : Eats R f) : Eats' R f := fun l y r e _ => h l y r e
theorem app_ne {c r : List Tk} (h : r ≠ []) : c ++ r ≠ [] := by
  intro e
  exact h (List.append_eq_nil_iff.1 e).2
theorem someF_eats {α : Type} {one : List Tk → PR α} {R : List Tk → α → Prop} {s : List UInt8} (hs : s ≠ []) (h1 : Eats' R one) : ∀ (f : Nat) (acc : List α) (l : List Tk) (ys : List α) (r : List Tk), l.length ≤ f → someF one s f acc l = .ok ys r → r ≠ [] →
    ∃ c t xs, l = c ++ t :: r ∧ SomeG R c xs ∧ isT t s ∧ ys = acc ++ xs
  | 0, acc, l, ys, r, hf, h, hr => by
    simp only [someF, PR.ok.injEq] at h
    exact absurd (List.eq_nil_of_length_eq_zero (by rw [← h.2]; omega)) hr
  | f + 1, acc, l, ys, r, hf, h, hr => by
    simp only [someF] at h
    obtain ⟨z, q, e1, e2⟩ := PR.then_ok h
    split at e2
    · rename_i hm
      obtain ⟨t, g1, g2⟩ := may_eats (by simp) hm
      have hq : q ≠ [] := by rw [g1]; simp
      obtain ⟨c, g3, g4⟩ := h1 _ _ _ e1 hq
      have hl : q.tail.length ≤ f := by
        have : q.length ≤ l.length := by rw [g3]; simp
        have h2 : q.length = q.tail.length + 1 := by conv => lhs; rw [g1]
                                                     simp
        omega
      obtain ⟨d, t2, xs, g5, g6, g7, g8⟩ := someF_eats hs h1 f _ _ _ _ hl e2 hr
      exact ⟨c ++ t :: d, t2, z :: xs, by rw [g3, g1, g5]; simp, .more c z t d xs g4 g2 g6, g7, by rw [g8]; simp⟩
    · obtain ⟨u, q2, e3, e4⟩ := PR.then_ok e2
      simp only [PR.ok.injEq] at e4
      obtain ⟨t, g1, g2⟩ := take_eats hs e3
      obtain ⟨c, g3, g4⟩ := h1 _ _ _ e1 (by rw [g1]; simp)
      exact ⟨c, t, [z], by rw [g3, g1, e4.2], .one c z g4, g2, e4.1.symm⟩
theorem someP_eats {α : Type} {one : List Tk → PR α} {R : List Tk → α → Prop} {s : List UInt8} (hs : s ≠ []) (h1 : Eats' R one) {no : Bool} {l : List Tk} {ys : List α} {r : List Tk} (h : someP one s no l = .ok ys r) (hr : r ≠ []) :
    ∃ c t, l = c ++ t :: r ∧ isT t s ∧ (SomeG R c ys ∨ (no = true ∧ c = [] ∧ ys = [])) := by
  unfold someP at h
  split at h
  · rename_i hm
    simp only [Bool.and_eq_true] at hm
    simp only [PR.ok.injEq] at h
    obtain ⟨t, g1, g2⟩ := may_eats hs hm.2
    exact ⟨[], t, by rw [← h.2]; exact g1, g2, .inr ⟨hm.1, rfl, h.1.symm⟩⟩
  · obtain ⟨c, t, xs, g1, g2, g3, g4⟩ := someF_eats hs h1 _ _ _ _ _ (Nat.le_refl _) h hr
    exact ⟨c, t, g1, g3, .inl (by rw [g4]; exact g2)⟩
theorem nameP_eats : Eats VaG nameP := fun l y r e => by
  obtain ⟨t, h1, h2, h3⟩ := name_eats e
  exact ⟨[t], h1, t, rfl, h2, h3⟩
theorem sizedP_eats : Eats ArG sizedP := fun l y r e => by
  obtain ⟨x, q, h1, h2⟩ := PR.then_ok e
  obtain ⟨u, q2, h3, h4⟩ := PR.then_ok h2
  obtain ⟨n, q3, h5, h6⟩ := PR.then_ok h4
  obtain ⟨u2, q4, h7, h8⟩ := PR.then_ok h6
  simp only [PR.ok.injEq] at h8
  obtain ⟨t, g1, g2, g3⟩ := name_eats h1
  obtain ⟨b, g4, g5⟩ := take_eats (by simp) h3
  obtain ⟨m, g6, g7, g8⟩ := number_eats h5
  obtain ⟨z, g9, g10⟩ := take_eats (by simp) h7
  exact ⟨[t, b, m, z], by rw [g1, g4, g6, g9, h8.2]; rfl, t, b, m, z, rfl, g2, g5, g7, g10, by rw [← h8.1, g3, g8]⟩
theorem StG.ne {m : Nat} {c : List Tk} {x : St} (h : StG m c x) : c ≠ [] := by cases h <;> simp
theorem endS_eats {x y : St} {l r : List Tk} (h : endS x l = .ok y r) : ∃ t, l = t :: r ∧ isT t [59] ∧ y = x := by
  obtain ⟨u, q, h1, h2⟩ := PR.then_ok h
  simp only [PR.ok.injEq] at h2
  obtain ⟨t, g1, g2⟩ := take_eats (by simp) h1
  exact ⟨t, by rw [g1, h2.2], g2, h2.1.symm⟩
theorem key_text {t : List UInt8} {k : Int} (h : keyK t = k) : (k = 1 → t = [115, 107, 105, 112]) ∧ (k = 4 → t = [105, 110, 112, 117, 116]) ∧ (k = 5 → t = [97, 115, 115, 117, 109, 101]) ∧ (k = 6 → t = [97, 115, 115, 101, 114, 116]) ∧ (k = 7 → t = [105, 102]) ∧ (k = 8 → t = [119, 104, 105, 108, 101]) ∧ (k = 9 → t = [99, 97, 108, 108]) := by
  unfold keyK at h
  split at h
  · subst h; simp [*]
  split at h
  · subst h; simp [*]
  split at h
  · subst h; simp [*]
  split at h
  · subst h; simp [*]
  split at h
  · subst h; simp [*]
  split at h
  · subst h; simp [*]
  split at h
  · subst h; simp [*]
  · subst h; simp
theorem stmtOf_eats (n : Nat) {blk : List Tk → PR (List St)} (hb : Eats' (BlG n) blk) : Eats' (StG n) (stmtOf blk n) := fun l y r e hr => by
  obtain ⟨k, hk⟩ : ∃ k, k = keyK (hdT l).text := ⟨_, rfl⟩
  have ht := key_text hk.symm
  unfold stmtOf at e
  simp only [← hk] at e
  split at e
  · rename_i hk1
    have hx := ht.1 hk1
    obtain ⟨z, g1, g2, g3⟩ := endS_eats e
    rw [g3]
    exact ⟨[hdT l, z], by rw [hd_cons (l := l) (by rw [hx]; simp), g1]; rfl, .skip n (hdT l) z hx g2⟩
  split at e
  · rename_i hk1
    have hx := ht.2.1 hk1
    obtain ⟨x, q, h1, h2⟩ := PR.then_ok e
    obtain ⟨m, g4, g5, g6⟩ := name_eats h1
    obtain ⟨z, g1, g2, g3⟩ := endS_eats h2
    rw [g3, g6]
    exact ⟨[hdT l, m, z], by rw [hd_cons (l := l) (by rw [hx]; simp), g4, g1]; rfl, .input n (hdT l) m z hx g5 g2⟩
  split at e
  · rename_i hk1
    obtain ⟨cs, q, h1, h2⟩ := PR.then_ok e
    obtain ⟨c, g4, g5⟩ := askP_eats n _ _ _ h1
    obtain ⟨z, g1, g2, g3⟩ := endS_eats h2
    rw [g3]
    rcases hk1 with hk1 | hk1
    · have hx := ht.2.2.1 hk1
      rw [hk1]
      exact ⟨hdT l :: (c ++ [z]), by rw [hd_cons (l := l) (by rw [hx]; simp), g4, g1]; simp [hdT], .assume n (hdT l) z c cs hx g5 g2⟩
    · have hx := ht.2.2.2.1 hk1
      rw [hk1]
      exact ⟨hdT l :: (c ++ [z]), by rw [hd_cons (l := l) (by rw [hx]; simp), g4, g1]; simp [hdT], .assert n (hdT l) z c cs hx g5 g2⟩
  split at e
  · rename_i hk1
    have hx := ht.2.2.2.2.1 hk1
    obtain ⟨cs, q, h1, h2⟩ := PR.then_ok e
    obtain ⟨b, q2, h3, h4⟩ := PR.then_ok h2
    obtain ⟨c, g4, g5⟩ := askP_eats n _ _ _ h1
    split at h4
    · rename_i hm
      obtain ⟨t, g6, g7⟩ := may_eats (by simp) hm
      obtain ⟨d, q3, h5, h6⟩ := PR.then_ok h4
      simp only [PR.ok.injEq] at h6
      have hq3 : q3 ≠ [] := by rw [h6.2]; exact hr
      obtain ⟨c3, g8, g9⟩ := hb _ _ _ h5 hq3
      obtain ⟨c2, g10, g11⟩ := hb _ _ _ h3 (by rw [g6]; simp)
      refine ⟨hdT l :: (c ++ (c2 ++ t :: c3)), by rw [hd_cons (l := l) (by rw [hx]; simp), g4, g10, g6, g8, h6.2]; simp [hdT], ?_⟩
      rw [← h6.1]
      exact .ifelse n (hdT l) t c c2 c3 cs b d hx g5 g11 g7 g9
    · simp only [PR.ok.injEq] at h4
      obtain ⟨c2, g10, g11⟩ := hb _ _ _ h3 (by rw [h4.2]; exact hr)
      refine ⟨hdT l :: (c ++ c2), by rw [hd_cons (l := l) (by rw [hx]; simp), g4, g10, h4.2]; simp [hdT], ?_⟩
      rw [← h4.1]
      exact .ifs n (hdT l) c c2 cs b hx g5 g11
  split at e
  · rename_i hk1
    have hx := ht.2.2.2.2.2.1 hk1
    obtain ⟨cs, q, h1, h2⟩ := PR.then_ok e
    obtain ⟨b, q2, h3, h4⟩ := PR.then_ok h2
    simp only [PR.ok.injEq] at h4
    obtain ⟨c, g4, g5⟩ := askP_eats n _ _ _ h1
    obtain ⟨c2, g10, g11⟩ := hb _ _ _ h3 (by rw [h4.2]; exact hr)
    refine ⟨hdT l :: (c ++ c2), by rw [hd_cons (l := l) (by rw [hx]; simp), g4, g10, h4.2]; simp [hdT], ?_⟩
    rw [← h4.1]
    exact .while n (hdT l) c c2 cs b hx g5 g11
  split at e
  · rename_i hk1
    have hx := ht.2.2.2.2.2.2 hk1
    obtain ⟨x, q, h1, h2⟩ := PR.then_ok e
    obtain ⟨u, q2, h3, h4⟩ := PR.then_ok h2
    obtain ⟨xs, q3, h5, h6⟩ := PR.then_ok h4
    obtain ⟨m, g4, g5, g6⟩ := name_eats h1
    obtain ⟨o, g7, g8⟩ := take_eats (by simp) h3
    obtain ⟨z, g1, g2, g3⟩ := endS_eats h6
    obtain ⟨c, w, g9, g10, g11⟩ := someP_eats (by simp) (exprP_eats n).some_ h5 (by rw [g1]; simp)
    rw [g3, g6]
    refine ⟨hdT l :: m :: o :: (c ++ [w, z]), by rw [hd_cons (l := l) (by rw [hx]; simp), g4, g7, g9, g1]; simp [hdT], ?_⟩
    exact .call n (hdT l) m o w z c xs hx g5 g8 (g11.elim .inr fun h => .inl h.2) g10 g2
  · obtain ⟨x, q, h1, h2⟩ := PR.then_ok e
    obtain ⟨m, g4, g5, g6⟩ := name_eats h1
    have hm0 : hdT l = m := by rw [g4]; rfl
    split at h2
    · obtain ⟨i, q2, h3, h4⟩ := PR.then_ok h2
      obtain ⟨u, q3, h5, h6⟩ := PR.then_ok h4
      obtain ⟨v, q4, h7, h8⟩ := PR.then_ok h6
      obtain ⟨c, g7, n', b, w, d, hn', g8, g9, g10, g11⟩ := indexP_eats n _ _ _ h3
      subst hn'
      obtain ⟨o, g12, g13⟩ := take_eats (by simp) h5
      obtain ⟨f, g14, g15⟩ := exprP_eats _ _ _ _ h7
      obtain ⟨z, g1, g2, g3⟩ := endS_eats h8
      rw [g3, g6, hm0]
      refine ⟨m :: b :: (d ++ w :: o :: (f ++ [z])), by rw [g4, g7, g8, g12, g14, g1]; simp, ?_⟩
      exact .store n' m b w o z d f i v g5 g9 g10 g11 g13 g15 g2
    · obtain ⟨u, q3, h5, h6⟩ := PR.then_ok h2
      obtain ⟨v, q4, h7, h8⟩ := PR.then_ok h6
      obtain ⟨o, g12, g13⟩ := take_eats (by simp) h5
      obtain ⟨f, g14, g15⟩ := exprP_eats n _ _ _ h7
      obtain ⟨z, g1, g2, g3⟩ := endS_eats h8
      rw [g3, g6, hm0]
      refine ⟨m :: o :: (f ++ [z]), by rw [g4, g12, g14, g1]; simp, ?_⟩
      exact .set _ m o z f v g5 g13 g15 g2
theorem stmtsF_eats {m : Nat} {one : List Tk → PR St} (h1 : Eats' (StG m) one) : ∀ (f : Nat) (acc : List St) (l : List Tk) (ys : List St) (r : List Tk), l.length ≤ f → stmtsF one f acc l = .ok ys r → r ≠ [] → ∃ c t xs, l = c ++ t :: r ∧ SsG m c xs ∧ isT t [125] ∧ ys = acc ++ xs
  | 0, acc, l, ys, r, hf, h, hr => by
    simp only [stmtsF, PR.ok.injEq] at h
    exact absurd (List.eq_nil_of_length_eq_zero (by rw [← h.2]; omega)) hr
  | f + 1, acc, l, ys, r, hf, h, hr => by
    simp only [stmtsF] at h
    split at h
    · rename_i hm
      obtain ⟨t, g1, g2⟩ := may_eats (by simp) hm
      simp only [PR.ok.injEq] at h
      exact ⟨[], t, [], by rw [← h.2]; exact g1, .nil m, g2, by rw [← h.1]; simp⟩
    · obtain ⟨z, q, e1, e2⟩ := PR.then_ok h
      by_cases hq : q = []
      · subst hq
        exfalso
        have : ∀ (f : Nat) (acc : List St), stmtsF one f acc [] = .ok ys r → False := by
          intro f
          induction f with
          | zero => intro acc h; simp only [stmtsF, PR.ok.injEq] at h; exact hr h.2.symm
          | succ f ih =>
            intro acc h
            simp only [stmtsF] at h
            rw [if_neg (by decide)] at h
            obtain ⟨z2, q2, e3, e4⟩ := PR.then_ok h
            by_cases hq2 : q2 = []
            · subst hq2; exact ih _ e4
            · obtain ⟨c, g1, g2⟩ := h1 _ _ _ e3 hq2
              have := (List.append_eq_nil_iff.1 g1.symm).2
              exact hq2 this
        exact this _ _ e2
      · obtain ⟨c, g1, g2⟩ := h1 _ _ _ e1 hq
        have hl : q.length ≤ f := by
          have hc : 0 < c.length := List.length_pos_iff.2 g2.ne
          have : l.length = c.length + q.length := by rw [g1]; simp
          omega
        obtain ⟨d, t, xs, g3, g4, g5, g6⟩ := stmtsF_eats h1 f _ _ _ _ hl e2 hr
        exact ⟨c ++ d, t, z :: xs, by rw [g1, g3]; simp, .cons m c d z xs g2 g4, g5, by rw [g6]; simp⟩
theorem blockP_eats : ∀ n, Eats' (BlG n) (blockP n)
  | 0 => fun l y r e hr => by
    unfold blockP at e
    split at e
    · simp at e
    · simp at e
  | n + 1 => fun l y r e hr => by
    unfold blockP at e
    split at e
    · rename_i hm
      obtain ⟨t, g1, g2⟩ := may_eats (by simp) hm
      obtain ⟨c, z, xs, g3, g4, g5, g6⟩ := stmtsF_eats (stmtOf_eats n (blockP_eats n)) _ _ _ _ _ (Nat.le_refl _) e hr
      refine ⟨t :: (c ++ [z]), by rw [g1, g3]; simp, ?_⟩
      rw [g6]
      exact .mk n t z c xs g2 g4 g5
    · simp at e
theorem procP_eats : Eats' PcG procP := fun l y r e hr => by
  obtain ⟨x, q, h1, h2⟩ := PR.then_ok e
  obtain ⟨u, q2, h3, h4⟩ := PR.then_ok h2
  obtain ⟨ps, q3, h5, h6⟩ := PR.then_ok h4
  obtain ⟨b, q4, h7, h8⟩ := PR.then_ok h6
  simp only [PR.ok.injEq] at h8
  obtain ⟨t, g1, g2, g3⟩ := name_eats h1
  obtain ⟨o, g4, g5⟩ := take_eats (by simp) h3
  obtain ⟨d, g6, g7⟩ := blockP_eats 24 _ _ _ h7 (by rw [h8.2]; exact hr)
  obtain ⟨c, w, g9, g10, g11⟩ := someP_eats (by simp) nameP_eats.some_ h5 (by rw [g6, h8.2]; exact app_ne hr)
  exact ⟨t :: o :: (c ++ w :: d), by rw [g1, g4, g9, g6, h8.2]; simp, t, o, w, c, d, ps, b, rfl, g2, g5, g11.elim .inr fun h => .inl h.2, g10, g7, by rw [← h8.1, g3]⟩
theorem headF_eats : ∀ (f : Nat) (vs : List Va) (xs : List Arr) (l : List Tk) (y : List Va × List Arr) (r : List Tk), headF f vs xs l = .ok y r → r ≠ [] → ∃ c ws ys, l = c ++ r ∧ HdG c ws ys ∧ y = (vs ++ ws, xs ++ ys)
  | 0, vs, xs, l, y, r, h, hr => by
    simp only [headF, PR.ok.injEq] at h
    exact ⟨[], [], [], by rw [h.2]; rfl, .nil, by rw [← h.1]; simp⟩
  | f + 1, vs, xs, l, y, r, h, hr => by
    simp only [headF] at h
    split at h
    · rename_i hm
      obtain ⟨t, g1, g2⟩ := may_eats (by simp) hm
      obtain ⟨v, q, e1, e2⟩ := PR.then_ok h
      obtain ⟨c, ws, ys, g3, g4, g5⟩ := headF_eats f _ _ _ _ _ e2 hr
      obtain ⟨d, w, g6, g7, g8⟩ := someP_eats (by simp) nameP_eats.some_ e1 (by rw [g3]; exact app_ne hr)
      have g8 : SomeG VaG d v := g8.elim id fun h => absurd h.1 (by simp)
      exact ⟨t :: (d ++ w :: c), v ++ ws, ys, by rw [g1, g6, g3]; simp, .vars t w d c v ws ys g2 g8 g7 g4, by rw [g5]; simp⟩
    · split at h
      · rename_i hm
        obtain ⟨t, g1, g2⟩ := may_eats (by simp) hm
        obtain ⟨v, q, e1, e2⟩ := PR.then_ok h
        obtain ⟨c, ws, ys, g3, g4, g5⟩ := headF_eats f _ _ _ _ _ e2 hr
        obtain ⟨d, w, g6, g7, g8⟩ := someP_eats (by simp) sizedP_eats.some_ e1 (by rw [g3]; exact app_ne hr)
        have g8 : SomeG ArG d v := g8.elim id fun h => absurd h.1 (by simp)
        exact ⟨t :: (d ++ w :: c), ws, v ++ ys, by rw [g1, g6, g3]; simp, .arrays t w d c ws v ys g2 g8 g7 g4, by rw [g5]; simp⟩
      · simp only [PR.ok.injEq] at h
        exact ⟨[], [], [], by rw [h.2]; rfl, .nil, by rw [← h.1]; simp⟩
theorem procsF_eats : ∀ (f : Nat) (ps : List Prc) (l : List Tk) (y : List Prc) (r : List Tk), procsF f ps l = .ok y r → r ≠ [] → ∃ c qs, l = c ++ r ∧ PsG c qs ∧ y = ps ++ qs
  | 0, ps, l, y, r, h, hr => by
    simp only [procsF, PR.ok.injEq] at h
    exact ⟨[], [], by rw [h.2]; rfl, .nil, by rw [← h.1]; simp⟩
  | f + 1, ps, l, y, r, h, hr => by
    simp only [procsF] at h
    split at h
    · rename_i hm
      obtain ⟨t, g1, g2⟩ := may_eats (by simp) hm
      obtain ⟨v, q, e1, e2⟩ := PR.then_ok h
      obtain ⟨c, qs, g3, g4, g5⟩ := procsF_eats f _ _ _ _ e2 hr
      obtain ⟨d, g6, g7⟩ := procP_eats _ _ _ e1 (by rw [g3]; exact app_ne hr)
      exact ⟨t :: (d ++ c), v :: qs, by rw [g1, g6, g3]; simp, .cons t d c v qs g2 g7 g4, by rw [g5]; simp⟩
    · simp only [PR.ok.injEq] at h
      exact ⟨[], [], by rw [h.2]; rfl, .nil, by rw [← h.1]; simp⟩
theorem treeP_eats : Eats' TrG treeP := fun l y r e hr => by
  unfold treeP at e
  obtain ⟨vx, q, h1, h2⟩ := PR.then_ok e
  obtain ⟨ps, q2, h3, h4⟩ := PR.then_ok h2
  obtain ⟨u, q3, h5, h6⟩ := PR.then_ok h4
  obtain ⟨b, q4, h7, h8⟩ := PR.then_ok h6
  split at h8
  · simp at h8
  · simp only [PR.ok.injEq] at h8
    obtain ⟨d, g6, g7⟩ := blockP_eats 24 _ _ _ h7 (by rw [h8.2]; exact hr)
    obtain ⟨m, g4, g5⟩ := take_eats (by simp) h5
    obtain ⟨c, qs, g1, g2, g3⟩ := procsF_eats _ _ _ _ _ h3 (by rw [g4]; simp)
    obtain ⟨a, ws, ys, g8, g9, g10⟩ := headF_eats _ _ _ _ _ _ h1 (by rw [g1]; exact app_ne (by rw [g4]; simp))
    refine ⟨a ++ (c ++ m :: d), by rw [g8, g1, g4, g6, h8.2]; simp, a, c, m, d, b, rfl, ?_, ?_, g5, g7, by rw [← h8.1]⟩
    · rw [← h8.1, g10]; simpa using g9
    · rw [← h8.1, g3]; simpa using g2
theorem treeP_gram {ts : List Tk} {z : Tk} {t : Tre} {r : List Tk} (hz : ¬ z.live) (h : treeP (ts ++ [z]) = .ok t r) : TrG ts t := by
  have he : Ended (ts ++ [z]) := ⟨ts, z, rfl, hz⟩
  have hr : Ended r := by
    rw [treeP_body] at h
    obtain ⟨y, q, h1, h2⟩ := PR.then_ok h
    have := ((bodyP_loc _ he).shr he h1).2
    split at h2
    · simp at h2
    · simp only [PR.ok.injEq] at h2
      rw [← h2.2]; exact this
  obtain ⟨c, h1, h2⟩ := treeP_eats _ _ _ h hr.ne
  have hl : r.length ≤ 1 := by
    unfold treeP at h
    obtain ⟨vx, q, _, h2⟩ := PR.then_ok h
    obtain ⟨ps, q2, _, h4⟩ := PR.then_ok h2
    obtain ⟨u, q3, _, h6⟩ := PR.then_ok h4
    obtain ⟨b, q4, _, h8⟩ := PR.then_ok h6
    split at h8
    · simp at h8
    · simp only [PR.ok.injEq] at h8
      rw [← h8.2]; omega
  have hr1 : r.length = 1 := by
    have := List.length_pos_iff.2 hr.ne
    omega
  obtain ⟨y, rfl⟩ := List.length_eq_one_iff.1 hr1
  have := List.append_inj' h1 rfl
  rw [this.1]
  exact h2
end Go.Proofs.YtfcegaklbicmfaaGreatDoor
