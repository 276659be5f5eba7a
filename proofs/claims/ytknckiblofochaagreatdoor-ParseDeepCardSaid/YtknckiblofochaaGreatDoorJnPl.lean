/-
  Plain parsing: places turn nothing but places. No program.
-/
import Derived.Test.YtknckiblofochaaGreatDoorJnLoc
import Derived.Test.YtknckiblofochaaGreatDoorJnLex
namespace Go.Proofs.YtknckiblofochaaGreatDoor
open Go.RowKit Go.Shelf
set_option linter.unusedVariables false
set_option linter.unusedSimpArgs false

def Tk.bare (t : Tk) : Tk := ⟨t.kind, t.text, 0⟩
def Exs.bare : Exs → Exs
  | .nil => .nil
  | .cons k nm n args _ rest => .cons k nm n args.bare 0 rest.bare
def Cds.bare : Cds → Cds
  | .nil => .nil
  | .cons k args of_ _ rest => .cons k args.bare of_.bare 0 rest.bare
def Sts.bare : Sts → Sts
  | .nil => .nil
  | .cons k nm args cond body els _ rest => .cons k nm args.bare cond.bare body.bare els.bare 0 rest.bare
def Ex.bare (x : Ex) : Ex := ⟨x.k, x.nm, x.n, x.args.bare, 0⟩
def Cn.bare (x : Cn) : Cn := ⟨x.k, x.args.bare, x.of_.bare, 0⟩
def St.bare (x : St) : St := ⟨x.k, x.nm, x.args.bare, x.cond.bare, x.body.bare, x.els.bare, 0⟩
def Va.bare (x : Va) : Va := ⟨x.nm, 0⟩
def Arr.bare (x : Arr) : Arr := ⟨x.nm, x.size, 0⟩
def Prc.bare (x : Prc) : Prc := ⟨x.nm, x.params.map Va.bare, x.body.bare, 0⟩
def Tre.bare (t : Tre) : Tre := ⟨t.vars.map Va.bare, t.arrays.map Arr.bare, t.procs.map Prc.bare, t.main.bare⟩
def PR.bare {α : Type} (m : α → α) : PR α → PR α
  | .ok x r => .ok (m x) (r.map Tk.bare)
  | .err e _ => .err e 0
/-- a parser that takes bare tokens to bare things -/
def Bare {α : Type} (m : α → α) (f : List Tk → PR α) : Prop := ∀ l, f (l.map Tk.bare) = (f l).bare m
theorem hdT_bare (l : List Tk) : hdT (l.map Tk.bare) = (hdT l).bare := by cases l <;> rfl
theorem txt_bare (t : Tk) : txt t.bare = txt t := rfl
theorem isP_bare (s : List (List UInt8)) (l : List Tk) : isP s (l.map Tk.bare) = isP s l := by unfold isP; rw [hdT_bare]; rfl
theorem mayB_bare (s : List UInt8) (l : List Tk) : mayB s (l.map Tk.bare) = mayB s l := by unfold mayB; rw [isP_bare]
theorem namedB_bare (l : List Tk) : namedB (l.map Tk.bare) = namedB l := by unfold namedB; rw [hdT_bare]; rfl
theorem tail_bare (l : List Tk) : (l.map Tk.bare).tail = l.tail.map Tk.bare := by cases l <;> rfl
theorem hd_at_bare (l : List Tk) : ((hdT (l.map Tk.bare)).at_ : Int) = 0 := by rw [hdT_bare]; rfl
theorem hd_text_bare (l : List Tk) : (hdT (l.map Tk.bare)).text = (hdT l).text := by rw [hdT_bare]; rfl
theorem hd_txt_bare (l : List Tk) : txt (hdT (l.map Tk.bare)) = txt (hdT l) := by rw [hdT_bare]; rfl
theorem hd_kind_bare (l : List Tk) : (hdT (l.map Tk.bare)).kind = (hdT l).kind := by rw [hdT_bare]; rfl
theorem then_bare {α β : Type} {m : α → α} {m' : β → β} {x : PR α} {y : PR α} {g g' : α → List Tk → PR β} (hx : y = x.bare m) (hg : ∀ a r, g (m a) (r.map Tk.bare) = (g' a r).bare m') : y.then g = (x.then g').bare m' := by
  subst hx
  cases x with
  | ok a r => exact hg a r
  | err e a => rfl
theorem takeP_bare (s : List UInt8) : Bare id (takeP s) := fun l => by
  unfold takeP
  rw [mayB_bare, tail_bare, hd_at_bare]
  split <;> rfl
theorem nameP_bare : Bare Va.bare nameP := fun l => by
  unfold nameP
  rw [namedB_bare, tail_bare, hdT_bare]
  split <;> rfl
theorem numberP_bare : Bare id numberP := fun l => by
  unfold numberP
  rw [hd_kind_bare, tail_bare, hdT_bare]
  split <;> rfl
theorem chainF_bare {α : Type} {m : α → α} {one : List Tk → PR α} {join : Int → Int → α → α → α} {signs : List (List UInt8)} (h1 : Bare m one) (h2 : ∀ k a x y, join k 0 (m x) (m y) = m (join k a x y)) :
    ∀ (f : Nat) (x : α) (l : List Tk), chainF one join signs f (m x) (l.map Tk.bare) = (chainF one join signs f x l).bare m
  | 0, x, l => rfl
  | f + 1, x, l => by
    unfold chainF
    rw [isP_bare, tail_bare, hd_at_bare]
    split
    · rfl
    · refine then_bare (h1 _) fun y r => ?_
      rw [h2 _ ((hdT l).at_ : Int)]
      exact chainF_bare h1 h2 f _ r
theorem chainP_bare {α : Type} {m : α → α} {one : List Tk → PR α} {join : Int → Int → α → α → α} {signs : List (List UInt8)} (h1 : Bare m one) (h2 : ∀ k a x y, join k 0 (m x) (m y) = m (join k a x y)) : Bare m (chainP one join signs) := fun l => by
  unfold chainP
  refine then_bare (h1 l) fun x r => ?_
  rw [List.length_map]
  exact chainF_bare h1 h2 _ x r
theorem twoX_bare (f k a : Int) (x y : Ex) : twoX f k 0 x.bare y.bare = (twoX f k a x y).bare := rfl
theorem exprOf_bare {sign : List Tk → PR Ex} (h : Bare Ex.bare sign) : Bare Ex.bare (exprOf sign) :=
  chainP_bare (chainP_bare (chainP_bare h fun k a x y => twoX_bare _ k a x y) fun k a x y => twoX_bare _ k a x y) fun k a x y => twoX_bare _ k a x y
theorem signP_bare : ∀ n, Bare Ex.bare (signP n)
  | 0, l => by
    unfold signP
    simp only [mayB_bare, namedB_bare, tail_bare, hdT_bare]
    repeat' split
    any_goals rfl
    exact then_bare (numberP_bare l) fun v r => rfl
  | n + 1, l => by
    have ih := signP_bare n
    unfold signP
    simp only [mayB_bare, namedB_bare, tail_bare, hdT_bare]
    repeat' split
    · exact then_bare (ih _) fun x r => rfl
    · exact then_bare (exprOf_bare ih _) fun x r => then_bare (takeP_bare _ r) fun _ r => rfl
    · exact then_bare (exprOf_bare ih _) fun x r => then_bare (takeP_bare _ r) fun _ r => rfl
    · rfl
    · exact then_bare (numberP_bare l) fun v r => rfl
theorem exprP_bare (n : Nat) : Bare Ex.bare (exprP n) := exprOf_bare (signP_bare n)
theorem indexP_bare : ∀ n, Bare Ex.bare (indexP n)
  | 0, l => by
    unfold indexP withinP
    simp only [mayB_bare, tail_bare, hdT_bare]
    split <;> rfl
  | n + 1, l => by
    unfold indexP withinP
    simp only [mayB_bare, tail_bare, hdT_bare]
    split
    · exact then_bare (exprP_bare n _) fun x r => then_bare (takeP_bare _ r) fun _ r => rfl
    · rfl
theorem joinX_bare (f k a : Int) (x y : Cn) : joinX f k 0 x.bare y.bare = (joinX f k a x y).bare := rfl
theorem condOf_bare {nt : List Tk → PR Cn} (h : Bare Cn.bare nt) : Bare Cn.bare (condOf nt) :=
  chainP_bare (chainP_bare h fun k a x y => joinX_bare _ k a x y) fun k a x y => joinX_bare _ k a x y
theorem cmpP_bare (n : Nat) : Bare Cn.bare (cmpP n) := fun l => by
  unfold cmpP
  refine then_bare (exprP_bare n l) fun x r => ?_
  simp only [isP_bare, tail_bare, hdT_bare]
  split
  · rfl
  · exact then_bare (exprP_bare n _) fun y r => rfl
theorem notP_bare : ∀ n, Bare Cn.bare (notP n)
  | 0, l => by
    unfold notP
    simp only [isP_bare, tail_bare, hdT_bare]
    repeat' split
    any_goals rfl
    exact cmpP_bare 0 l
  | n + 1, l => by
    have ih := notP_bare n
    unfold notP
    simp only [isP_bare, tail_bare, hdT_bare]
    repeat' split
    · exact then_bare (ih _) fun x r => rfl
    · exact then_bare (condOf_bare ih _) fun x r => then_bare (takeP_bare _ r) fun _ r => rfl
    · rfl
    · exact cmpP_bare (n + 1) l
theorem condP_bare (n : Nat) : Bare Cn.bare (condP n) := condOf_bare (notP_bare n)
theorem askP_bare (n : Nat) : Bare Cds.bare (askP n) := fun l => then_bare (takeP_bare _ l) fun _ r => then_bare (condP_bare n r) fun x r => then_bare (takeP_bare _ r) fun _ r => rfl
theorem someF_bare {α : Type} {m : α → α} {one : List Tk → PR α} (h : Bare m one) (s : List UInt8) : ∀ (f : Nat) (acc : List α) (l : List Tk), someF one s f (acc.map m) (l.map Tk.bare) = (someF one s f acc l).bare (List.map m)
  | 0, acc, l => rfl
  | f + 1, acc, l => by
    unfold someF
    refine then_bare (h l) fun x r => ?_
    have e : acc.map m ++ [m x] = (acc ++ [x]).map m := by simp
    simp only [mayB_bare, tail_bare, e]
    split
    · exact someF_bare h s f _ _
    · exact then_bare (takeP_bare s r) fun _ r => rfl
theorem someP_bare {α : Type} {m : α → α} {one : List Tk → PR α} (h : Bare m one) (s : List UInt8) (no : Bool) : Bare (List.map m) (someP one s no) := fun l => by
  unfold someP
  simp only [mayB_bare, tail_bare, List.length_map]
  split
  · rfl
  · exact someF_bare h s _ [] l
theorem stsOf_bare : ∀ xs, stsOf (xs.map St.bare) = (stsOf xs).bare
  | [] => rfl
  | x :: r => by
    show St.cons x.bare (stsOf (r.map St.bare)) = (St.cons x (stsOf r)).bare
    rw [stsOf_bare r]; rfl
theorem exsOf_bare : ∀ xs, exsOf (xs.map Ex.bare) = (exsOf xs).bare
  | [] => rfl
  | x :: r => by
    show Ex.cons x.bare (exsOf (r.map Ex.bare)) = (Ex.cons x (exsOf r)).bare
    rw [exsOf_bare r]; rfl
theorem endS_bare {x y : St} (h : y = x.bare) (l : List Tk) : endS y (l.map Tk.bare) = (endS x l).bare St.bare := by
  subst h
  exact then_bare (takeP_bare _ l) fun _ r => rfl
theorem stmtOf_bare {blk : List Tk → PR (List St)} (hb : Bare (List.map St.bare) blk) (n : Nat) : Bare St.bare (stmtOf blk n) := fun l => by
  unfold stmtOf
  simp only [hd_at_bare, hd_text_bare, tail_bare]
  repeat' split
  · exact endS_bare (by rfl) _
  · exact then_bare (nameP_bare _) fun x r => endS_bare (by rfl) _
  · exact then_bare (askP_bare n _) fun x r => endS_bare (by rfl) _
  · refine then_bare (askP_bare n _) fun c r => then_bare (hb r) fun b r => ?_
    simp only [mayB_bare, tail_bare]
    split
    · exact then_bare (hb _) fun e r => by simp only [PR.bare, St.bare, stsOf_bare]; rfl
    · simp only [PR.bare, St.bare, stsOf_bare]; rfl
  · exact then_bare (askP_bare n _) fun c r => then_bare (hb r) fun b r => by simp only [PR.bare, St.bare, stsOf_bare]; rfl
  · exact then_bare (nameP_bare _) fun x r => then_bare (takeP_bare _ r) fun _ r => then_bare (someP_bare (exprP_bare n) _ _ r) fun xs r => endS_bare (by simp only [St.bare, exsOf_bare]; rfl) r
  · refine then_bare (nameP_bare l) fun x r => ?_
    simp only [mayB_bare]
    split
    · exact then_bare (indexP_bare n r) fun i r => then_bare (takeP_bare _ r) fun _ r => then_bare (exprP_bare n r) fun e r => endS_bare (by rfl) r
    · exact then_bare (takeP_bare _ r) fun _ r => then_bare (exprP_bare n r) fun e r => endS_bare (by rfl) r
theorem stmtsF_bare {one : List Tk → PR St} (h : Bare St.bare one) : ∀ (f : Nat) (acc : List St) (l : List Tk), stmtsF one f (acc.map St.bare) (l.map Tk.bare) = (stmtsF one f acc l).bare (List.map St.bare)
  | 0, acc, l => rfl
  | f + 1, acc, l => by
    unfold stmtsF
    simp only [mayB_bare, tail_bare]
    split
    · rfl
    · refine then_bare (h l) fun x r => ?_
      have e : acc.map St.bare ++ [x.bare] = (acc ++ [x]).map St.bare := by simp
      rw [e]
      exact stmtsF_bare h f _ r
theorem blockP_bare : ∀ n, Bare (List.map St.bare) (blockP n)
  | 0, l => by
    unfold blockP
    simp only [mayB_bare, hdT_bare]
    split <;> rfl
  | n + 1, l => by
    unfold blockP
    simp only [mayB_bare, tail_bare, hdT_bare, List.length_map]
    split
    · exact stmtsF_bare (stmtOf_bare (blockP_bare n) n) _ [] _
    · rfl
theorem sizedP_bare : Bare Arr.bare sizedP := fun l => then_bare (nameP_bare l) fun x r => then_bare (takeP_bare _ r) fun _ r => then_bare (numberP_bare r) fun n r => then_bare (takeP_bare _ r) fun _ r => rfl
theorem procP_bare : Bare Prc.bare procP := fun l => then_bare (nameP_bare l) fun x r => then_bare (takeP_bare _ r) fun _ r => then_bare (someP_bare nameP_bare _ _ r) fun ps r => then_bare (blockP_bare 24 r) fun b r => by simp only [PR.bare, Prc.bare, stsOf_bare]; rfl
def headM (p : List Va × List Arr) : List Va × List Arr := (p.1.map Va.bare, p.2.map Arr.bare)
theorem headF_bare : ∀ (f : Nat) (vs : List Va) (xs : List Arr) (l : List Tk), headF f (vs.map Va.bare) (xs.map Arr.bare) (l.map Tk.bare) = (headF f vs xs l).bare headM
  | 0, vs, xs, l => rfl
  | f + 1, vs, xs, l => by
    unfold headF
    simp only [mayB_bare, tail_bare]
    split
    · refine then_bare (someP_bare nameP_bare _ _ _) fun v r => ?_
      rw [← List.map_append]
      exact headF_bare f _ _ r
    split
    · refine then_bare (someP_bare sizedP_bare _ _ _) fun v r => ?_
      rw [← List.map_append]
      exact headF_bare f _ _ r
    · rfl
theorem procsF_bare : ∀ (f : Nat) (ps : List Prc) (l : List Tk), procsF f (ps.map Prc.bare) (l.map Tk.bare) = (procsF f ps l).bare (List.map Prc.bare)
  | 0, ps, l => rfl
  | f + 1, ps, l => by
    unfold procsF
    simp only [mayB_bare, tail_bare]
    split
    · refine then_bare (procP_bare _) fun p r => ?_
      have e : ps.map Prc.bare ++ [p.bare] = (ps ++ [p]).map Prc.bare := by simp
      rw [e]
      exact procsF_bare f _ r
    · rfl
theorem treeP_bare : Bare Tre.bare treeP := fun l => by
  unfold treeP
  rw [List.length_map]
  refine then_bare (headF_bare _ [] [] l) fun vx r => ?_
  rw [List.length_map]
  refine then_bare (procsF_bare _ [] r) fun ps r => then_bare (takeP_bare _ r) fun _ r => then_bare (blockP_bare 24 r) fun b r => ?_
  simp only [List.length_map, hdT_bare]
  split
  · rfl
  · simp only [PR.bare, Tre.bare, stsOf_bare]; rfl
/-- tokens that are the same but for places have programs that are the same but for places, or the same error -/
theorem treeP_alike {l l' : List Tk} (h : l.map Tk.bare = l'.map Tk.bare) : (treeP l).bare Tre.bare = (treeP l').bare Tre.bare := by
  rw [← treeP_bare, ← treeP_bare, h]
end Go.Proofs.YtknckiblofochaaGreatDoor

/-
  Plain parsing of expressions: with one level less there is the same, or what is too deep; another sign that ends behind turns nothing. No program.
-/
namespace Go.Proofs.YtknckiblofochaaGreatDoor
open Go.RowKit Go.Shelf
set_option linter.unusedVariables false
set_option linter.unusedSimpArgs false

/-- the same, or too deep -/
def Deep1 {α : Type} (f g : List Tk → PR α) : Prop := ∀ l, f l = g l ∨ ∃ a, f l = .err 91 a
theorem Deep1.refl {α : Type} (f : List Tk → PR α) : Deep1 f f := fun l => .inl rfl
theorem deep_then {α β : Type} {x y : PR α} {f g : α → List Tk → PR β} (h : x = y ∨ ∃ a, x = .err 91 a) (k : ∀ a r, f a r = g a r ∨ ∃ b, f a r = .err 91 b) : x.then f = y.then g ∨ ∃ a, x.then f = .err 91 a := by
  rcases h with rfl | ⟨a, rfl⟩
  · cases x with
    | err c a => exact .inl rfl
    | ok a r => exact k a r
  · exact .inr ⟨a, rfl⟩
theorem chainF_deep {α : Type} {one one' : List Tk → PR α} {join : Int → Int → α → α → α} {signs : List (List UInt8)} (h : Deep1 one one') : ∀ (f : Nat) (x : α) (l : List Tk), chainF one join signs f x l = chainF one' join signs f x l ∨ ∃ a, chainF one join signs f x l = .err 91 a
  | 0, x, l => .inl rfl
  | f + 1, x, l => by
    unfold chainF
    split
    · exact .inl rfl
    · exact deep_then (h _) fun y r => chainF_deep h f _ r
theorem chainP_deep {α : Type} {one one' : List Tk → PR α} {join : Int → Int → α → α → α} {signs : List (List UInt8)} (h : Deep1 one one') : Deep1 (chainP one join signs) (chainP one' join signs) := fun l =>
  deep_then (h l) fun x r => chainF_deep h _ x r
theorem exprOf_deep {a b : List Tk → PR Ex} (h : Deep1 a b) : Deep1 (exprOf a) (exprOf b) := chainP_deep (chainP_deep (chainP_deep h))
theorem signP_deep : ∀ n, Deep1 (signP n) (signP (n + 1))
  | 0, l => by
    unfold signP
    split
    · exact .inr ⟨_, rfl⟩
    split
    · exact .inr ⟨_, rfl⟩
    split
    · split
      · exact .inr ⟨_, rfl⟩
      · exact .inl rfl
    · exact .inl rfl
  | n + 1, l => by
    have ih := signP_deep n
    rw [signP, signP]
    split
    · exact deep_then (ih _) fun x r => .inl rfl
    split
    · exact deep_then (exprOf_deep ih _) fun x r => .inl rfl
    split
    · split
      · exact deep_then (exprOf_deep ih _) fun x r => .inl rfl
      · exact .inl rfl
    · exact .inl rfl
theorem exprP_deep (n : Nat) : Deep1 (exprP n) (exprP (n + 1)) := exprOf_deep (signP_deep n)
/-! another sign behind -/
/-- a token that ends what is between signs -/
def Tk.stop (t : Tk) : Prop := t.text = [59] ∨ t.text = [41]
def Sim (t t' : Tk) : Prop := t = t' ∨ t.stop ∧ t'.stop
theorem stop_isP {l : List Tk} (h : (hdT l).stop) {s : List (List UInt8)} (h1 : [59] ∉ s) (h2 : [41] ∉ s) : isP s l < 0 := by
  refine Int.not_le.1 fun h0 => ?_
  have := (isP_text h0).1
  rcases h with h | h <;> rw [h] at this
  · exact h1 this
  · exact h2 this
theorem sim_isP {l l' : List Tk} (h : Sim (hdT l') (hdT l)) {s : List (List UInt8)} (h1 : [59] ∉ s) (h2 : [41] ∉ s) (h0 : isP s l < 0) : isP s l' < 0 := by
  rcases h with h | ⟨h, _⟩
  · rw [isP_hd h]; exact h0
  · exact stop_isP h h1 h2
theorem sim_mayB {l l' : List Tk} (h : Sim (hdT l') (hdT l)) {s : List UInt8} (h1 : [59] ≠ s) (h2 : [41] ≠ s) (h0 : mayB s l = false) : mayB s l' = false := by
  have h3 : isP [s] l < 0 := by
    refine Int.not_le.1 fun h => ?_
    have := (isP_text h)
    rw [List.mem_singleton] at this
    rw [mayB_of this.1 this.2] at h0
    simp at h0
  have := sim_isP h (s := [s]) (by simpa using h1) (by simpa using h2) h3
  unfold mayB
  simp only [beq_eq_false_iff_ne]
  omega
/-- what passes a token at least, and asks of the next one just what kin have alike -/
def Swap {α : Type} (f : List Tk → PR α) : Prop := ∀ l x r, Ended l → f l = .ok x r → ∃ t pre, l = t :: pre ++ r ∧ (∀ u ∈ t :: pre, u.live) ∧ ∀ r', Ended r' → Sim (hdT r') (hdT r) → f (t :: pre ++ r') = .ok x r'
theorem live_cons {l : List Tk} (h : (hdT l).live) : l = hdT l :: l.tail := by
  cases l with
  | nil => exact absurd ⟨rfl, rfl⟩ h
  | cons a b => rfl
theorem Swap.of_loc {α : Type} {f : List Tk → PR α} (h : Lcl f) {l : List Tk} {x : α} {r : List Tk} (he : Ended l) (e : f l = .ok x r) (hne : r.length < l.length) : ∃ t pre, l = t :: pre ++ r ∧ ∀ r', Ended r' → hdT r' = hdT r → f (t :: pre ++ r') = .ok x r' := by
  obtain ⟨pre, e1, h1, h2⟩ := (h l he).ok_ e
  cases pre with
  | nil => rw [e1] at hne; simp at hne
  | cons t pre => exact ⟨t, pre, e1, h2⟩
theorem chainL_swap {α : Type} {one : List Tk → PR α} {join : Int → Int → α → α → α} {signs : List (List UInt8)} (h1 : Shr one) (hs : [] ∉ signs) (hl : Lcl one) (h : Swap one) (h59 : [59] ∉ signs) (h41 : [41] ∉ signs) :
    ∀ (m : Nat) (x y : α) (l r : List Tk), l.length ≤ m → Ended l → chainL one join signs x l = .ok y r → ∃ pre, l = pre ++ r ∧ (∀ u ∈ pre, u.live) ∧ ∀ r', Ended r' → Sim (hdT r') (hdT r) → chainL one join signs x (pre ++ r') = .ok y r'
  | m, x, y, l, r, hm, he, e => by
    rw [chainL_eq h1 hs] at e
    by_cases h0 : isP signs l < 0
    · rw [if_pos h0] at e
      simp only [PR.ok.injEq] at e
      obtain ⟨rfl, rfl⟩ := e
      exact ⟨[], rfl, by simp, fun r' he' hs' => by rw [List.nil_append, chainL_eq h1 hs, if_pos (sim_isP hs' h59 h41 h0)]⟩
    · rw [if_neg h0] at e
      have hlv : (hdT l).live := isP_live (s := signs) (by omega) hs
      have hpos := live_pos hlv
      obtain ⟨z, q, ho, hc⟩ := PR.then_ok e
      obtain ⟨t, pre, e1, hlv1, h2⟩ := h _ _ _ (he.tl hlv) ho
      have hq := h1 _ _ _ ho
      rw [List.length_tail] at hq
      have heq := (hl.shr1 (he.tl hlv) ho).2
      obtain ⟨m, rfl⟩ : ∃ k, m = k + 1 := ⟨m - 1, by omega⟩
      obtain ⟨pre2, e2, hlv2, h3⟩ := chainL_swap h1 hs hl h h59 h41 m _ _ q r (by omega) heq hc
      have el := live_cons hlv
      refine ⟨hdT l :: (t :: pre ++ pre2), ?_, ?_, fun r' he' hs' => ?_⟩
      · rw [el, e1, e2]
        simp [hdT]
      · intro u hu
        rcases List.mem_cons.1 hu with rfl | hu
        · exact hlv
        rcases List.mem_append.1 hu with hu | hu
        · exact hlv1 u hu
        · exact hlv2 u hu
      · have hd : hdT ((hdT l :: (t :: pre ++ pre2)) ++ r') = hdT l := rfl
        rw [chainL_eq h1 hs, isP_hd hd, if_neg h0, hd]
        show (one ((t :: pre ++ pre2) ++ r')).then _ = _
        rw [List.append_assoc, h2 (pre2 ++ r') (he'.app _) ?_]
        · exact h3 r' he' hs'
        · rw [e2]
          cases pre2 with
          | nil => exact hs'
          | cons a b => exact .inl rfl
theorem chainP_swap {α : Type} {one : List Tk → PR α} {join : Int → Int → α → α → α} {signs : List (List UInt8)} (h1 : Shr one) (hs : [] ∉ signs) (hl : Lcl one) (h : Swap one) (h59 : [59] ∉ signs) (h41 : [41] ∉ signs) : Swap (chainP one join signs) := fun l x r he e => by
  obtain ⟨z, q, ho, hc⟩ := PR.then_ok e
  obtain ⟨t, pre, e1, hlv1, h2⟩ := h _ _ _ he ho
  obtain ⟨pre2, e2, hlv2, h3⟩ := chainL_swap h1 hs hl h h59 h41 _ _ _ q r (Nat.le_refl _) (hl.shr1 he ho).2 hc
  refine ⟨t, pre ++ pre2, by rw [e1, e2]; simp, ?_, fun r' he' hs' => ?_⟩
  · intro u hu
    rw [← List.cons_append] at hu
    rcases List.mem_append.1 hu with hu | hu
    · exact hlv1 u hu
    · exact hlv2 u hu
  · show (one _).then _ = _
    rw [← List.cons_append, List.append_assoc, h2 (pre2 ++ r') (he'.app _) ?_]
    · exact h3 r' he' hs'
    · rw [e2]
      cases pre2 with
      | nil => exact hs'
      | cons a b => exact .inl rfl
theorem exprOf_swap {s : List Tk → PR Ex} (h1 : Shr s) (hl : Lcl s) (h : Swap s) : Swap (exprOf s) :=
  chainP_swap (chainP_shr (chainP_shr h1)) (by decide) (chainP_loc (chainP_shr h1) (by decide) (chainP_loc h1 (by decide) hl)) (chainP_swap (chainP_shr h1) (by decide) (chainP_loc h1 (by decide) hl) (chainP_swap h1 (by decide) hl h (by decide) (by decide)) (by decide) (by decide)) (by decide) (by decide)
/-- a sign that has to be there, passed last -/
theorem takeP_end {s : List UInt8} {l r : List Tk} {u : Unit} (h : takeP s l = .ok u r) (hs : s ≠ []) : l = hdT l :: r ∧ (hdT l).live ∧ ∀ r', takeP s (hdT l :: r') = .ok u r' := by
  have hr := takeP_shr h
  unfold takeP at h
  split at h
  · rename_i hm
    have hlv := mayB_live hm hs
    refine ⟨by rw [hr]; exact live_cons hlv, hlv, fun r' => ?_⟩
    unfold takeP
    rw [mayB_hd (l := l) (l' := hdT l :: r') rfl, if_pos hm]
    rfl
  · simp at h
theorem within_swap {f : List Tk → PR Ex} (hl : Lcl f) (s : List UInt8) (hs : s ≠ []) {l r : List Tk} {x : Ex} (he : Ended l) (h : (f l).then (fun x r => (takeP s r).then fun _ r => .ok x r) = .ok x r) :
    ∃ pre, l = pre ++ r ∧ (∀ u ∈ pre, u.live) ∧ ∀ r', Ended r' → (f (pre ++ r')).then (fun x r => (takeP s r).then fun _ r => .ok x r) = .ok x r' := by
  obtain ⟨y, q, ho, hc⟩ := PR.then_ok h
  obtain ⟨u, q2, ht, hk⟩ := PR.then_ok hc
  simp only [PR.ok.injEq] at hk
  obtain ⟨rfl, rfl⟩ := hk
  obtain ⟨pre, e1, h1, h2⟩ := (hl l he).ok_ ho
  obtain ⟨e2, h3, h4⟩ := takeP_end ht hs
  refine ⟨pre ++ [hdT q], by rw [e1]; conv => lhs; rw [e2]
                             simp [hdT], fun u hu => ?_, fun r' he' => ?_⟩
  · rcases List.mem_append.1 hu with hu | hu
    · exact h1 u hu
    · rw [List.mem_singleton] at hu; subst hu; exact h3
  · rw [List.append_assoc, h2 ([hdT q] ++ r') (he'.app _) rfl]
    show (takeP s (hdT q :: r')).then _ = _
    rw [h4 r']
    rfl
theorem signP_swap : ∀ n, Swap (signP n)
  | n, l, x, r, he, e => by
    cases h0 : mayB [45] l
    · cases h1 : mayB [40] l
      · cases h2 : namedB l
        · rw [signP_n h0 h1 h2] at e
          obtain ⟨v, q, ho, hc⟩ := PR.then_ok e
          unfold numberP at ho
          split at ho
          · rename_i hk
            simp only [PR.ok.injEq] at ho hc
            obtain ⟨rfl, rfl⟩ := ho
            obtain ⟨rfl, rfl⟩ := hc
            have hlv : (hdT l).live := fun ht => by rw [ht.2] at hk; simp at hk
            refine ⟨hdT l, [], live_cons hlv, fun u hu => by simp only [List.mem_cons, List.not_mem_nil, or_false] at hu; subst hu; exact hlv, fun r' he' hs' => ?_⟩
            have hd : hdT (hdT l :: [] ++ r') = hdT l := rfl
            rw [signP_n (by rw [mayB_hd hd]; exact h0) (by rw [mayB_hd hd]; exact h1) (by rw [namedB_hd hd]; exact h2), numberP, hd, if_pos hk]
            rfl
          · simp at ho
        · have hlv := namedB_live h2
          have el := live_cons hlv
          cases h3 : mayB [91] l.tail
          · rw [signP_v h0 h1 h2 h3] at e
            simp only [PR.ok.injEq] at e
            obtain ⟨rfl, rfl⟩ := e
            refine ⟨hdT l, [], el, fun u hu => by simp only [List.mem_cons, List.not_mem_nil, or_false] at hu; subst hu; exact hlv, fun r' he' hs' => ?_⟩
            have hd : hdT (hdT l :: [] ++ r') = hdT l := rfl
            rw [signP_v (by rw [mayB_hd hd]; exact h0) (by rw [mayB_hd hd]; exact h1) (by rw [namedB_hd hd]; exact h2) (show mayB [91] (hdT l :: [] ++ r').tail = false from sim_mayB (l := l.tail) (l' := r') hs' (by decide) (by decide) h3), hd]
            rfl
          · rw [signP_l h0 h1 h2 h3] at e
            obtain ⟨i, q, ho, hc⟩ := PR.then_ok e
            simp only [PR.ok.injEq] at hc
            obtain ⟨rfl, rfl⟩ := hc
            have hlv3 := mayB_live h3 (by decide)
            have el3 := live_cons hlv3
            cases n with
            | zero => rw [indexP_0 h3] at ho; simp at ho
            | succ n =>
              rw [indexP_s h3] at ho
              obtain ⟨pre, e1, hl1, h4⟩ := within_swap (exprP_loc n) [93] (by decide) ((he.tl hlv).tl hlv3) ho
              refine ⟨hdT l, hdT l.tail :: pre, by conv => lhs; rw [el, el3, e1]
                                                   simp [hdT], fun u hu => ?_, fun r' he' hs' => ?_⟩
              · rcases List.mem_cons.1 hu with rfl | hu
                · exact hlv
                rcases List.mem_cons.1 hu with rfl | hu
                · exact hlv3
                · exact hl1 u hu
              · have hd : hdT (hdT l :: hdT l.tail :: pre ++ r') = hdT l := rfl
                have hd3 : hdT (hdT l :: hdT l.tail :: pre ++ r').tail = hdT l.tail := rfl
                have h3' : mayB [91] (hdT l :: hdT l.tail :: pre ++ r').tail = true := by rw [mayB_hd hd3]; exact h3
                rw [signP_l (by rw [mayB_hd hd]; exact h0) (by rw [mayB_hd hd]; exact h1) (by rw [namedB_hd hd]; exact h2) h3', hd, indexP_s h3']
                show (endP [93] n (pre ++ r')).then _ = _
                rw [show endP [93] n (pre ++ r') = .ok i r' from h4 r' he']
                rfl
      · have hlv := mayB_live h1 (by decide)
        cases n with
        | zero => rw [signP_p0 h0 h1] at e; simp at e
        | succ n =>
          rw [signP_p1 h0 h1] at e
          obtain ⟨pre, e1, hl1, h4⟩ := within_swap (exprP_loc n) [41] (by decide) (he.tl hlv) e
          refine ⟨hdT l, pre, by conv => lhs; rw [live_cons hlv, e1]
                                 simp [hdT], fun u hu => ?_, fun r' he' hs' => ?_⟩
          · rcases List.mem_cons.1 hu with rfl | hu
            · exact hlv
            · exact hl1 u hu
          · have hd : hdT (hdT l :: pre ++ r') = hdT l := rfl
            rw [signP_p1 (by rw [mayB_hd hd]; exact h0) (by rw [mayB_hd hd]; exact h1)]
            exact h4 r' he'
    · have hlv := mayB_live h0 (by decide)
      cases n with
      | zero => rw [signP_m0 h0] at e; simp at e
      | succ n =>
        rw [signP_m1 h0 rfl] at e
        obtain ⟨y, q, ho, hc⟩ := PR.then_ok (show (signP n l.tail).then _ = _ from e)
        obtain ⟨t, pre, e1, hl1, h4⟩ := signP_swap n _ _ _ (he.tl hlv) ho
        have hc2 := hc
        simp only [PR.ok.injEq] at hc
        obtain ⟨rfl, rfl⟩ := hc
        refine ⟨hdT l, t :: pre, by conv => lhs; rw [live_cons hlv, e1]
                                    simp [hdT], fun u hu => ?_, fun r' he' hs' => ?_⟩
        · rcases List.mem_cons.1 hu with rfl | hu
          · exact hlv
          · exact hl1 u hu
        · have hd : hdT (hdT l :: t :: pre ++ r') = hdT l := rfl
          rw [signP_m1 (by rw [mayB_hd hd]; exact h0) rfl, hd]
          show (signP n (t :: pre ++ r')).then _ = _
          rw [h4 r' he' hs']
          rfl
theorem exprP_swap (n : Nat) : Swap (exprP n) := exprOf_swap (signP_shr n) (signP_loc n) (signP_swap n)
end Go.Proofs.YtknckiblofochaaGreatDoor

/-
  ParseDeep, plainly: one pair of parentheses more is nothing, or one too many. No program.
-/
namespace Go.Proofs.YtknckiblofochaaGreatDoor
open Go.RowKit Go.Shelf
set_option linter.unusedVariables false
set_option linter.unusedSimpArgs false

abbrev stmt23 : List Tk → PR St := stmtOf (blockP 23) 23
theorem loc23 : Lcl stmt23 := stmtOf_loc (blockP_loc 23) 23
theorem less23 : LessE stmt23 := fun l he x r => stmtOf_less (blockP_loc 23) 23 he
theorem stmtsL_grow {one : List Tk → PR St} (h : Lcl one) (hl : LessE one) : ∀ (m : Nat) (acc b : List St) (l r : List Tk), l.length ≤ m → Ended l → stmtsL one acc l = .ok b r → acc.length ≤ b.length ∧ (b.length = acc.length → mayB [125] l = true ∧ b = acc ∧ r = l.tail)
  | m, acc, b, l, r, hm, he, e => by
    rw [stmtsL_eq h hl acc l he] at e
    split at e
    · rename_i hb
      simp only [PR.ok.injEq] at e
      obtain ⟨rfl, rfl⟩ := e
      exact ⟨Nat.le_refl _, fun _ => ⟨hb, rfl, rfl⟩⟩
    · obtain ⟨x, q, ho, hc⟩ := PR.then_ok e
      have h1 := hl l he x q ho
      have h2 := (h.shr1 he ho).2
      obtain ⟨m, rfl⟩ : ∃ k, m = k + 1 := ⟨m - 1, by omega⟩
      have ih := stmtsL_grow h hl m _ _ _ _ (by omega) h2 hc
      rw [List.length_append, List.length_cons, List.length_nil] at ih
      exact ⟨by omega, fun e => by omega⟩
/-- what is behind "main{x=" -/
def setP (a : Int) (X : List Tk) : PR Tre := ((exprP 23 X).then fun e r => endS ⟨2, ⟨#[120]⟩, e.cons .nil, .nil, .nil, .nil, a⟩ r).then fun st r => (stmtsL stmt23 [st] r).then fun b r => if 1 < r.length then .err 90 ((hdT r).at_ : Int) else .ok ⟨[], [], [], stsOf b⟩ r
theorem mayB_no {s : List UInt8} {t : Tk} {l : List Tk} (h : t.text ≠ s) : mayB s (t :: l) = false := by
  cases hm : mayB s (t :: l)
  · rfl
  · exact absurd (mayB_text hm).1 h
theorem mayB_is {s : List UInt8} {t : Tk} {l : List Tk} (h : t.text = s) (hk : t.kind ≠ 2) : mayB s (t :: l) = true := mayB_of (l := t :: l) h hk
theorem PR.ok_then {α β : Type} {a : α} {r : List Tk} {f : α → List Tk → PR β} : (PR.ok a r).then f = f a r := rfl
theorem mayB_nk {s t : List UInt8} {k : Int} {a : Nat} {l : List Tk} (h : t ≠ s) : mayB s (⟨k, t, a⟩ :: l) = false := mayB_no h
theorem mayB_ik {s : List UInt8} {k : Int} {a : Nat} {l : List Tk} (hk : k ≠ 2) : mayB s (⟨k, s, a⟩ :: l) = true := mayB_is rfl hk
theorem treeP_main (a b c d : Nat) (X : List Tk) (he : Ended X) : treeP (⟨1, [109, 97, 105, 110], a⟩ :: ⟨3, [123], b⟩ :: ⟨1, [120], c⟩ :: ⟨3, [61], d⟩ :: X) = setP c X := by
  have he3 : Ended (⟨1, [120], c⟩ :: ⟨3, [61], d⟩ :: X) := he.app [⟨1, [120], c⟩, ⟨3, [61], d⟩]
  have he1 : Ended (⟨1, [109, 97, 105, 110], a⟩ :: ⟨3, [123], b⟩ :: ⟨1, [120], c⟩ :: ⟨3, [61], d⟩ :: X) := he3.app [⟨1, [109, 97, 105, 110], a⟩, ⟨3, [123], b⟩]
  rw [treeP_body]
  unfold bodyP
  rw [headL_eq _ _ _ he1, mayB_nk (by decide), mayB_nk (by decide), if_neg (by decide), if_neg (by decide), PR.ok_then, procsL_eq _ _ he1, mayB_nk (by decide), if_neg (by decide), PR.ok_then]
  unfold takeP
  rw [mayB_ik (by decide), if_pos rfl, PR.ok_then, List.tail_cons, blockP, mayB_ik (by decide), if_pos rfl]
  show (((stmtsL stmt23 [] (⟨1, [120], c⟩ :: ⟨3, [61], d⟩ :: X)).then _).then _) = _
  rw [stmtsL_eq loc23 less23 _ _ he3, mayB_nk (by decide)]
  have hs : stmt23 (⟨1, [120], c⟩ :: ⟨3, [61], d⟩ :: X) = (exprP 23 X).then fun e r => endS ⟨2, ⟨#[120]⟩, e.cons .nil, .nil, .nil, .nil, (c : Int)⟩ r := by
    unfold stmt23 stmtOf
    simp only [show keyK (hdT (⟨1, [120], c⟩ :: ⟨3, [61], d⟩ :: X)).text = 0 from (by decide : keyK [120] = 0)]
    rw [if_neg (by decide), if_neg (by decide), if_neg (by decide), if_neg (by decide), if_neg (by decide), if_neg (by decide)]
    have hn : nameP (⟨1, [120], c⟩ :: ⟨3, [61], d⟩ :: X) = .ok ⟨⟨#[120]⟩, c⟩ (⟨3, [61], d⟩ :: X) := by
      unfold nameP
      rw [if_pos (show namedB (⟨1, [120], c⟩ :: ⟨3, [61], d⟩ :: X) = true from by unfold namedB; exact (by decide : ((1 : Int) == 1 && nameB [120]) = true))]
      rfl
    rw [hn, PR.ok_then, mayB_nk (by decide), if_neg (by decide), takeP, mayB_ik (by decide), if_pos rfl, PR.ok_then]
    rfl
  unfold setP
  show (((stmt23 _).then _).then _).then _ = _
  rw [hs]
  cases (exprP 23 X).then fun e r => endS ⟨2, ⟨#[120]⟩, e.cons .nil, .nil, .nil, .nil, (c : Int)⟩ r with
  | err e a => rfl
  | ok st r =>
    show ((stmtsL stmt23 ([] ++ [st]) r).then _).then _ = (stmtsL stmt23 [st] r).then _
    rw [List.nil_append]
    cases stmtsL stmt23 [st] r with
    | err e a => rfl
    | ok b r => rfl
theorem treeP_eqeq (a b c d : Nat) (X : List Tk) (he : Ended X) : ∃ e p, treeP (⟨1, [109, 97, 105, 110], a⟩ :: ⟨3, [123], b⟩ :: ⟨1, [120], c⟩ :: ⟨3, [61, 61], d⟩ :: X) = .err e p := by
  have he3 : Ended (⟨1, [120], c⟩ :: ⟨3, [61, 61], d⟩ :: X) := he.app [⟨1, [120], c⟩, ⟨3, [61, 61], d⟩]
  have he1 : Ended (⟨1, [109, 97, 105, 110], a⟩ :: ⟨3, [123], b⟩ :: ⟨1, [120], c⟩ :: ⟨3, [61, 61], d⟩ :: X) := he3.app [⟨1, [109, 97, 105, 110], a⟩, ⟨3, [123], b⟩]
  refine ⟨90, d, ?_⟩
  rw [treeP_body]
  unfold bodyP
  rw [headL_eq _ _ _ he1, mayB_nk (by decide), mayB_nk (by decide), if_neg (by decide), if_neg (by decide), PR.ok_then, procsL_eq _ _ he1, mayB_nk (by decide), if_neg (by decide), PR.ok_then]
  unfold takeP
  rw [mayB_ik (by decide), if_pos rfl, PR.ok_then, List.tail_cons, blockP, mayB_ik (by decide), if_pos rfl]
  show (((stmtsL stmt23 [] (⟨1, [120], c⟩ :: ⟨3, [61, 61], d⟩ :: X)).then _).then _) = _
  rw [stmtsL_eq loc23 less23 _ _ he3, mayB_nk (by decide)]
  have hs : stmt23 (⟨1, [120], c⟩ :: ⟨3, [61, 61], d⟩ :: X) = .err 90 d := by
    unfold stmt23 stmtOf
    simp only [show keyK (hdT (⟨1, [120], c⟩ :: ⟨3, [61, 61], d⟩ :: X)).text = 0 from (by decide : keyK [120] = 0)]
    rw [if_neg (by decide), if_neg (by decide), if_neg (by decide), if_neg (by decide), if_neg (by decide), if_neg (by decide)]
    have hn : nameP (⟨1, [120], c⟩ :: ⟨3, [61, 61], d⟩ :: X) = .ok ⟨⟨#[120]⟩, c⟩ (⟨3, [61, 61], d⟩ :: X) := by
      unfold nameP
      rw [if_pos (show namedB (⟨1, [120], c⟩ :: ⟨3, [61, 61], d⟩ :: X) = true from by unfold namedB; exact (by decide : ((1 : Int) == 1 && nameB [120]) = true))]
      rfl
    rw [hn, PR.ok_then, mayB_nk (by decide), if_neg (by decide), takeP, mayB_nk (by decide), if_neg (by decide)]
    rfl
  rw [hs]
  rfl
theorem chainP_one {α : Type} {one : List Tk → PR α} {join : Int → Int → α → α → α} {signs : List (List UInt8)} {l r : List Tk} {x : α} (h : one l = .ok x r) (hs : isP signs r < 0) : chainP one join signs l = .ok x r := by
  unfold chainP
  rw [h]
  show chainF one join signs r.length x r = _
  cases r.length with
  | zero => rfl
  | succ f => unfold chainF; rw [if_pos hs]
theorem chainP_bad {α : Type} {one : List Tk → PR α} {join : Int → Int → α → α → α} {signs : List (List UInt8)} {l : List Tk} {e a : Int} (h : one l = .err e a) : chainP one join signs l = .err e a := by
  unfold chainP
  rw [h]
  rfl
theorem exprOf_one {s : List Tk → PR Ex} {l r : List Tk} {x : Ex} (h : s l = .ok x r) (hs : (hdT r).stop) : exprOf s l = .ok x r :=
  chainP_one (chainP_one (chainP_one h (stop_isP hs (by decide) (by decide))) (stop_isP hs (by decide) (by decide))) (stop_isP hs (by decide) (by decide))
theorem exprOf_bad {s : List Tk → PR Ex} {l : List Tk} {e a : Int} (h : s l = .err e a) : exprOf s l = .err e a := chainP_bad (chainP_bad (chainP_bad h))
abbrev semT : Tk := ⟨3, [59], 0⟩
abbrev rpT : Tk := ⟨3, [41], 0⟩
abbrev lpT : Tk := ⟨3, [40], 0⟩
abbrev rbT : Tk := ⟨3, [125], 0⟩
abbrev eoT : Tk := ⟨0, [], 0⟩
theorem eo_dead : ¬ eoT.live := fun h => h ⟨rfl, rfl⟩
/-- bare tokens of an expression with a pair of parentheses more -/
theorem setP_deep (E : List Tk) {t : Tre} {r : List Tk} (h : setP 0 (E ++ [semT, rbT, eoT]) = .ok t r) (h1 : t.main.len = 1) :
    (∃ a, setP 0 (lpT :: (E ++ [rpT, semT, rbT, eoT])) = .err 91 a) ∨ ∃ r', setP 0 (lpT :: (E ++ [rpT, semT, rbT, eoT])) = .ok t r' := by
  have heX : Ended (E ++ [semT, rbT, eoT]) := ⟨E ++ [semT, rbT], eoT, by simp, eo_dead⟩
  have heW : Ended [rpT, semT, rbT, eoT] := ⟨[rpT, semT, rbT], eoT, rfl, eo_dead⟩
  unfold setP at h
  obtain ⟨st, q, h2, h3⟩ := PR.then_ok h
  obtain ⟨e, q1, h4, h5⟩ := PR.then_ok h2
  obtain ⟨u, q2, h6, h7⟩ := PR.then_ok (show (takeP [59] q1).then _ = _ from h5)
  simp only [PR.ok.injEq] at h7
  obtain ⟨rfl, rfl⟩ := h7
  obtain ⟨b, q3, h8, h9⟩ := PR.then_ok h3
  have heq1 := ((exprP_loc 23).shr1 heX h4).2
  have heq2 := ((takeP_loc (s := [59]) (by decide)).shr1 heq1 h6).2
  have hlen : b.length = 1 := by
    split at h9
    · simp at h9
    · simp only [PR.ok.injEq] at h9
      rw [← h9.1] at h1
      simpa [stsOf_len] using h1
  obtain ⟨hb1, rfl, hq3⟩ := (stmtsL_grow loc23 less23 _ _ _ _ _ (Nat.le_refl _) heq2 h8).2 hlen
  have hq3l : ¬ 1 < q3.length := by
    intro hh
    rw [if_pos hh] at h9
    simp at h9
  rw [if_neg hq3l] at h9
  simp only [PR.ok.injEq] at h9
  obtain ⟨rfl, rfl⟩ := h9
  obtain ⟨e1, hl1, _⟩ := takeP_end h6 (by decide)
  have hlb := mayB_live hb1 (by decide)
  have e2 := live_cons hlb
  rw [← hq3] at e2
  have heq3 : Ended q3 := by rw [hq3]; exact heq2.tl hlb
  obtain ⟨z, hz⟩ : ∃ z, q3 = [z] := by
    have := List.length_pos_iff.2 heq3.ne
    match q3, this, hq3l with
    | [z], _, _ => exact ⟨z, rfl⟩
    | a :: b :: c, _, h => simp at h
  obtain ⟨x0, pre, e3, hlv, hsw⟩ := exprP_swap 23 _ _ _ heX h4
  have e4 : E ++ [semT, rbT, eoT] = (x0 :: pre) ++ [hdT q1, hdT q2, z] := by rw [e3]; conv => lhs; rw [e1, e2, hz]
  have e5 := List.append_inj' e4 rfl
  have hE : E = x0 :: pre := e5.1
  have hq1 : q1 = [semT, rbT, eoT] := by
    rw [e1, e2, hz]
    exact e5.2.symm
  have hsq1 : Sim (hdT [rpT, semT, rbT, eoT]) (hdT q1) := .inr ⟨.inr rfl, by rw [hq1]; exact .inl rfl⟩
  have hW := hsw _ heW hsq1
  rw [← hE] at hW
  have hlp : mayB [45] (lpT :: (E ++ [rpT, semT, rbT, eoT])) = false := mayB_no (by decide)
  have hlp2 : mayB [40] (lpT :: (E ++ [rpT, semT, rbT, eoT])) = true := mayB_is rfl (by decide)
  have hsg : signP 23 (lpT :: (E ++ [rpT, semT, rbT, eoT])) = (exprP 22 (E ++ [rpT, semT, rbT, eoT])).then fun x r => (takeP [41] r).then fun _ r => .ok x r := signP_p1 hlp hlp2
  rcases exprP_deep 22 (E ++ [rpT, semT, rbT, eoT]) with hd | ⟨a, hd⟩
  · right
    rw [hd, hW] at hsg
    have ht : takeP [41] [rpT, semT, rbT, eoT] = .ok () [semT, rbT, eoT] := by
      unfold takeP
      rw [show mayB [41] [rpT, semT, rbT, eoT] = true from mayB_is rfl (by decide)]
      rfl
    have hsg2 : signP 23 (lpT :: (E ++ [rpT, semT, rbT, eoT])) = .ok e [semT, rbT, eoT] := by
      rw [hsg, PR.ok_then, ht, PR.ok_then]
    have hx : exprP 23 (lpT :: (E ++ [rpT, semT, rbT, eoT])) = .ok e [semT, rbT, eoT] := exprOf_one hsg2 (.inl rfl)
    refine ⟨q3, ?_⟩
    unfold setP
    rw [hx]
    show ((endS _ [semT, rbT, eoT]).then _) = _
    rw [← hq1]
    show ((takeP [59] q1).then _).then _ = _
    rw [h6]
    show (stmtsL stmt23 _ q2).then _ = _
    rw [h8]
    show (if 1 < q3.length then _ else _) = _
    rw [if_neg hq3l]
  · left
    rw [hd] at hsg
    have hx : exprP 23 (lpT :: (E ++ [rpT, semT, rbT, eoT])) = .err 91 a := exprOf_bad hsg
    exact ⟨a, by unfold setP; rw [hx]; rfl⟩
theorem PR.bare_ok {α : Type} {m : α → α} {x : PR α} {y : α} {r : List Tk} (h : x.bare m = .ok y r) : ∃ z q, x = .ok z q ∧ y = m z := by
  cases x with
  | ok z q => simp only [PR.bare, PR.ok.injEq] at h; exact ⟨z, q, rfl, h.1.symm⟩
  | err e a => simp [PR.bare] at h
theorem PR.bare_err {α : Type} {m : α → α} {x : PR α} {e a : Int} (h : x.bare m = .err e a) : ∃ a, x = .err e a := by
  cases x with
  | ok z q => simp [PR.bare] at h
  | err e' a' => simp only [PR.bare, PR.err.injEq] at h; exact ⟨a', by rw [h.1]⟩
theorem Sts.bare_len : ∀ x : Sts, x.bare.len = x.len
  | .nil => rfl
  | .cons _ _ _ _ _ _ _ r => by simp [Sts.bare, Sts.len, Sts.bare_len r]
theorem bare_of_kt : ∀ {l l' : List Tk}, l.map kt = l'.map kt → l.map Tk.bare = l'.map Tk.bare
  | [], [], _ => rfl
  | [], _ :: _, h => by simp at h
  | _ :: _, [], h => by simp at h
  | a :: l, b :: l', h => by
    simp only [List.map_cons, List.cons.injEq, kt, Prod.mk.injEq] at h
    simp only [List.map_cons, List.cons.injEq, Tk.bare, h.1.1, h.1.2, true_and]
    exact bare_of_kt h.2
/-- PARSE DEEP, plainly -/
theorem parse_deep {t : List UInt8} (ht : t.length ≤ 1000) (h0 : (parseB (mainL ++ (t ++ [59, 125]))).2.2 = 0) (h1 : (parseB (mainL ++ (t ++ [59, 125]))).1.main.len = 1) :
    (parseB (mainL ++ (40 :: (t ++ [41, 59, 125])))).2.2 = 91 ∨ ((parseB (mainL ++ (40 :: (t ++ [41, 59, 125])))).2.2 = 0 ∧ (parseB (mainL ++ (40 :: (t ++ [41, 59, 125])))).1.bare = (parseB (mainL ++ (t ++ [59, 125]))).1.bare) := by
  obtain ⟨s1, hs1⟩ : ∃ s, s = mainL ++ (t ++ [59, 125]) := ⟨_, rfl⟩
  obtain ⟨s2, hs2⟩ : ∃ s, s = mainL ++ (40 :: (t ++ [41, 59, 125])) := ⟨_, rfl⟩
  rw [← hs1] at h0 h1 ⊢
  rw [← hs2]
  have hp := (tokL_place _ s1 0 (Nat.le_refl _)).1
  rw [← tokL_toks (by rw [hs1]; simp [mainL]; omega)] at hp
  obtain ⟨q, hq⟩ : ∃ q, q = toks s1 := ⟨_, rfl⟩
  have hq0 : q.2.2 = 0 := by
    refine Decidable.byContradiction fun hne => ?_
    unfold parseB at h0
    simp only [← hq] at h0
    rw [if_pos hne] at h0
    exact hne h0
  rw [← hq] at hp
  have hqt : toks s1 = (q.1, 0, 0) := by rw [← hq]; exact Prod.ext rfl (Prod.ext (hp hq0) hq0)
  have hpb : parseB s1 = match treeP (q.1 ++ [⟨0, [], s1.length⟩]) with | .ok t _ => (t, 0, 0) | .err e a => (⟨[], [], [], .nil⟩, a, e) := by
    unfold parseB
    simp only [hqt]
    rfl
  rw [hpb] at h0 h1 ⊢
  obtain ⟨T, hT⟩ : ∃ T, T = treeP (q.1 ++ [⟨0, [], s1.length⟩]) := ⟨_, rfl⟩
  rw [← hT] at h0 h1 ⊢
  have htk := hqt
  rw [hs1] at htk
  rcases toks_deep ht htk with ⟨E, a, b, e1, E', o, c, a', b', hE, h2⟩ | ⟨r, e1⟩
  · rw [← hs2] at h2
    have hpb2 : parseB s2 = match treeP ((mainT ++ (⟨3, [40], o⟩ :: (E' ++ [⟨3, [41], c⟩, ⟨3, [59], a'⟩, ⟨3, [125], b'⟩]))) ++ [⟨0, [], s2.length⟩]) with | .ok t _ => (t, 0, 0) | .err e a => (⟨[], [], [], .nil⟩, a, e) := by
      unfold parseB
      simp only [h2]
      rfl
    rw [hpb2]
    have hT1 : T.bare Tre.bare = setP 0 (E.map Tk.bare ++ [semT, rbT, eoT]) := by
      rw [hT, ← treeP_bare, e1]
      have : (mainT ++ (E ++ ([⟨3, [59], a⟩, ⟨3, [125], b⟩] : List Tk)) ++ ([⟨0, [], s1.length⟩] : List Tk)).map Tk.bare = ⟨1, [109, 97, 105, 110], 0⟩ :: ⟨3, [123], 0⟩ :: ⟨1, [120], 0⟩ :: ⟨3, [61], 0⟩ :: (E.map Tk.bare ++ [semT, rbT, eoT]) := by simp [mainT, Tk.bare]
      rw [this, treeP_main _ _ _ _ _ ⟨E.map Tk.bare ++ [semT, rbT], eoT, by simp, eo_dead⟩]
      rfl
    obtain ⟨T2, hT2⟩ : ∃ T, T = treeP ((mainT ++ (⟨3, [40], o⟩ :: (E' ++ [⟨3, [41], c⟩, ⟨3, [59], a'⟩, ⟨3, [125], b'⟩]))) ++ [⟨0, [], s2.length⟩]) := ⟨_, rfl⟩
    have hT3 : T2.bare Tre.bare = setP 0 (lpT :: (E.map Tk.bare ++ [rpT, semT, rbT, eoT])) := by
      rw [hT2, ← treeP_bare, ← bare_of_kt hE]
      have : ((mainT ++ ((⟨3, [40], o⟩ : Tk) :: (E' ++ ([⟨3, [41], c⟩, ⟨3, [59], a'⟩, ⟨3, [125], b'⟩] : List Tk)))) ++ ([⟨0, [], s2.length⟩] : List Tk)).map Tk.bare = ⟨1, [109, 97, 105, 110], 0⟩ :: ⟨3, [123], 0⟩ :: ⟨1, [120], 0⟩ :: ⟨3, [61], 0⟩ :: (lpT :: (E'.map Tk.bare ++ [rpT, semT, rbT, eoT])) := by simp [mainT, Tk.bare]
      rw [this, treeP_main _ _ _ _ _ ⟨lpT :: E'.map Tk.bare ++ [rpT, semT, rbT], eoT, by simp, eo_dead⟩]
      rfl
    rw [← hT2]
    cases hTc : T with
    | err e a =>
      rw [hTc] at h1
      simp [Sts.len] at h1
    | ok t r =>
      rw [hTc] at h1 hT1
      have hm : t.bare.main.len = 1 := by
        show t.main.bare.len = 1
        rw [Sts.bare_len]
        exact h1
      rcases setP_deep (E.map Tk.bare) hT1.symm hm with ⟨x, hx⟩ | ⟨r', hx⟩
      · obtain ⟨y, hy⟩ := PR.bare_err (hT3.trans hx)
        rw [hy]
        exact .inl rfl
      · obtain ⟨y, w, hy, hz⟩ := PR.bare_ok (hT3.trans hx)
        rw [hy]
        exact .inr ⟨rfl, hz.symm⟩
  · exfalso
    rw [e1] at hT
    obtain ⟨e, p, he⟩ := treeP_eqeq 0 4 5 6 (r ++ [⟨0, [], s1.length⟩]) ⟨r, _, rfl, fun h => h ⟨rfl, rfl⟩⟩
    have : T = .err e p := by rw [hT]; exact he
    rw [this] at h1
    simp [Sts.len] at h1
end Go.Proofs.YtknckiblofochaaGreatDoor

/-
  Plain law: a text's tokens, each behind a blank: the same tokens, but for places; the same tree, but for places. No program.
-/
namespace Go.Proofs.YtknckiblofochaaGreatDoor
open Go.RowKit
set_option linter.unusedVariables false
set_option linter.unusedSimpArgs false

/-- tokens, each behind a blank -/
def wideM : List Tk → List UInt8
  | [] => []
  | t :: r => 32 :: (t.text ++ wideM r)
theorem wideM_snoc (l : List Tk) (t : Tk) : wideM (l ++ [t]) = wideM l ++ (32 :: t.text) := by
  induction l with
  | nil => simp [wideM]
  | cons a r ih => simp [wideM, ih]
theorem wideM_toks : ∀ (ts : List Tk), (∀ t ∈ ts, firstT t.text = (t.kind, t.text.length, 0)) → ∀ p, ∃ l, tokL (wideM ts) p = (l, 0, 0) ∧ l.map kt = ts.map kt
  | [], _, p => ⟨[], tokL_nil rfl, rfl⟩
  | t :: r, ht, p => by
    have h1 := ht t List.mem_cons_self
    obtain ⟨l, hl, hk⟩ := wideM_toks r (fun x hx => ht x (List.mem_cons_of_mem _ hx)) (p + 1 + t.text.length)
    have hf : firstT (t.text ++ wideM r) = (t.kind, t.text.length, 0) := by
      cases r with
      | nil => simpa [wideM] using h1
      | cons a r =>
        have := (fT_own h1).2 (a.text ++ wideM r)
        rw [List.take_length] at this
        exact this
    have hb := fT_blk hf
    have hw : wideM (t :: r) = [32] ++ (t.text ++ wideM r) := rfl
    have hm := tokL_mk (l := t.text ++ wideM r) (p := p + 1) (k := t.kind) (u := t.text) (v := wideM r) (by rw [hb]; rfl) hf (by rw [hb]; exact hl)
    refine ⟨{ kind := t.kind, text := t.text, at_ := p + 1 + runB isBlk (t.text ++ wideM r) } :: l, ?_, ?_⟩
    · rw [hw, tokL_blank [32] _ p (by decide)]
      exact hm
    · simp only [List.map_cons, hk]
      rfl
/-- BLANKS TURN NOTHING BUT PLACES -/
theorem parse_wide {s : List UInt8} (h : (toks s).2.2 = 0) (hl : (wideM (toks s).1).length ≤ 4096) :
    (parseB (wideM (toks s).1)).2.2 = (parseB s).2.2 ∧ (parseB (wideM (toks s).1)).1.bare = (parseB s).1.bare := by
  have h1 := (toks_lies h).1.each
  obtain ⟨q, hq⟩ : ∃ q, q = toks s := ⟨_, rfl⟩
  rw [← hq] at h hl h1 ⊢
  obtain ⟨l, hw, hk⟩ := wideM_toks q.1 h1 0
  rw [← tokL_toks hl] at hw
  have hb : (l ++ [(⟨0, [], (wideM q.1).length⟩ : Tk)]).map Tk.bare = (q.1 ++ [(⟨0, [], s.length⟩ : Tk)]).map Tk.bare := by
    rw [List.map_append, List.map_append, bare_of_kt hk]
    rfl
  have ha := treeP_alike hb
  unfold parseB
  simp only [← hq, hw]
  rw [if_neg (by simp), if_neg (by simpa using h)]
  revert ha
  generalize treeP (l ++ [(⟨0, [], (wideM q.1).length⟩ : Tk)]) = A
  generalize treeP (q.1 ++ [(⟨0, [], s.length⟩ : Tk)]) = B
  intro ha
  cases A with
  | ok a r =>
    cases B with
    | ok b r' =>
      simp only [PR.bare, PR.ok.injEq] at ha
      exact ⟨rfl, ha.1⟩
    | err e p => simp [PR.bare] at ha
  | err e p =>
    cases B with
    | ok b r' => simp [PR.bare] at ha
    | err e' p' =>
      simp only [PR.bare, PR.err.injEq] at ha
      exact ⟨ha.1, rfl⟩
end Go.Proofs.YtknckiblofochaaGreatDoor

/-
  When trees are the same, place for place or but for places. No program.
-/
namespace Go.Proofs.YtknckiblofochaaGreatDoor
open Go.RowKit
set_option linter.unusedVariables false
set_option linter.unusedSimpArgs false

def eqX (p : Bool) : Exs → Exs → Bool
  | .nil, .nil => true
  | .cons k nm n args at_ rest, .cons k' nm' n' args' at' rest' => (k == k') && (nm.toList == nm'.toList) && (n == n') && (!p || at_ == at') && eqX p args args' && eqX p rest rest'
  | _, _ => false
def eqC (p : Bool) : Cds → Cds → Bool
  | .nil, .nil => true
  | .cons k args of_ at_ rest, .cons k' args' of' at' rest' => (k == k') && (!p || at_ == at') && eqX p args args' && eqC p of_ of' && eqC p rest rest'
  | _, _ => false
def eqS (p : Bool) : Sts → Sts → Bool
  | .nil, .nil => true
  | .cons k nm args cond body els at_ rest, .cons k' nm' args' cond' body' els' at' rest' => (k == k') && (nm.toList == nm'.toList) && (!p || at_ == at') && eqX p args args' && eqC p cond cond' && eqS p body body' && eqS p els els' && eqS p rest rest'
  | _, _ => false
def eqV (p : Bool) : List Va → List Va → Bool
  | [], [] => true
  | x :: r, y :: s => (x.nm.toList == y.nm.toList) && (!p || x.at_ == y.at_) && eqV p r s
  | _, _ => false
def eqA (p : Bool) : List Arr → List Arr → Bool
  | [], [] => true
  | x :: r, y :: s => (x.nm.toList == y.nm.toList) && (x.size == y.size) && (!p || x.at_ == y.at_) && eqA p r s
  | _, _ => false
def eqP (p : Bool) : List Prc → List Prc → Bool
  | [], [] => true
  | x :: r, y :: s => (x.nm.toList == y.nm.toList) && (!p || x.at_ == y.at_) && eqV p x.params y.params && eqS p x.body y.body && eqP p r s
  | _, _ => false
def eqT (p : Bool) (t u : Tre) : Bool := eqV p t.vars u.vars && decide (t.arrays.length = u.arrays.length) && decide (t.procs.length = u.procs.length) && eqA p t.arrays u.arrays && eqP p t.procs u.procs && eqS p t.main u.main

theorem eqX_refl (p : Bool) : ∀ xs, eqX p xs xs = true
  | .nil => rfl
  | .cons k nm n args at_ rest => by simp [eqX, eqX_refl p args, eqX_refl p rest]
theorem eqC_refl (p : Bool) : ∀ xs, eqC p xs xs = true
  | .nil => rfl
  | .cons k args of_ at_ rest => by simp [eqC, eqX_refl p args, eqC_refl p of_, eqC_refl p rest]
theorem eqS_refl (p : Bool) : ∀ xs, eqS p xs xs = true
  | .nil => rfl
  | .cons k nm args cond body els at_ rest => by simp [eqS, eqX_refl p args, eqC_refl p cond, eqS_refl p body, eqS_refl p els, eqS_refl p rest]
theorem eqV_refl (p : Bool) : ∀ xs, eqV p xs xs = true
  | [] => rfl
  | x :: r => by simp [eqV, eqV_refl p r]
theorem eqA_refl (p : Bool) : ∀ xs, eqA p xs xs = true
  | [] => rfl
  | x :: r => by simp [eqA, eqA_refl p r]
theorem eqP_refl (p : Bool) : ∀ xs, eqP p xs xs = true
  | [] => rfl
  | x :: r => by simp [eqP, eqP_refl p r, eqV_refl, eqS_refl]
theorem eqT_refl (p : Bool) (t : Tre) : eqT p t t = true := by simp [eqT, eqV_refl, eqA_refl, eqP_refl, eqS_refl]

theorem eqX_bare : ∀ xs ys, eqX false xs.bare ys.bare = eqX false xs ys
  | .nil, .nil => rfl
  | .nil, .cons .. => rfl
  | .cons .., .nil => rfl
  | .cons k nm n args at_ rest, .cons k' nm' n' args' at' rest' => by simp [eqX, Exs.bare, eqX_bare args args', eqX_bare rest rest']
theorem eqC_bare : ∀ xs ys, eqC false xs.bare ys.bare = eqC false xs ys
  | .nil, .nil => rfl
  | .nil, .cons .. => rfl
  | .cons .., .nil => rfl
  | .cons k args of_ at_ rest, .cons k' args' of' at' rest' => by simp [eqC, Cds.bare, eqX_bare args args', eqC_bare of_ of', eqC_bare rest rest']
theorem eqS_bare : ∀ xs ys, eqS false xs.bare ys.bare = eqS false xs ys
  | .nil, .nil => rfl
  | .nil, .cons .. => rfl
  | .cons .., .nil => rfl
  | .cons k nm args cond body els at_ rest, .cons k' nm' args' cond' body' els' at' rest' => by simp [eqS, Sts.bare, eqX_bare args args', eqC_bare cond cond', eqS_bare body body', eqS_bare els els', eqS_bare rest rest']
theorem eqV_bare : ∀ xs ys, eqV false (xs.map Va.bare) (ys.map Va.bare) = eqV false xs ys
  | [], [] => rfl
  | [], _ :: _ => rfl
  | _ :: _, [] => rfl
  | x :: r, y :: s => by simp [eqV, Va.bare, eqV_bare r s]
theorem eqA_bare : ∀ xs ys, eqA false (xs.map Arr.bare) (ys.map Arr.bare) = eqA false xs ys
  | [], [] => rfl
  | [], _ :: _ => rfl
  | _ :: _, [] => rfl
  | x :: r, y :: s => by simp [eqA, Arr.bare, eqA_bare r s]
theorem eqP_bare : ∀ xs ys, eqP false (xs.map Prc.bare) (ys.map Prc.bare) = eqP false xs ys
  | [], [] => rfl
  | [], _ :: _ => rfl
  | _ :: _, [] => rfl
  | x :: r, y :: s => by simp [eqP, Prc.bare, eqV_bare, eqS_bare, eqP_bare r s]
theorem eqT_bare (t u : Tre) : eqT false t.bare u.bare = eqT false t u := by simp [eqT, Tre.bare, eqV_bare, eqA_bare, eqP_bare, eqS_bare]
/-- trees that are the same but for places -/
theorem eqT_alike {t u : Tre} (h : t.bare = u.bare) : eqT false t u = true := by rw [← eqT_bare, h]; exact eqT_refl _ _

theorem eqX_len {p : Bool} : ∀ {xs ys : Exs}, xs.len ≠ ys.len → eqX p xs ys = false
  | .nil, .nil, h => absurd rfl h
  | .nil, .cons .., _ => rfl
  | .cons .., .nil, _ => rfl
  | .cons _ _ _ _ _ r, .cons _ _ _ _ _ r', h => by
    have : r.len ≠ r'.len := fun e => h (by simp [Exs.len, e])
    simp [eqX, eqX_len this]
theorem eqC_len {p : Bool} : ∀ {xs ys : Cds}, xs.len ≠ ys.len → eqC p xs ys = false
  | .nil, .nil, h => absurd rfl h
  | .nil, .cons .., _ => rfl
  | .cons .., .nil, _ => rfl
  | .cons _ _ _ _ r, .cons _ _ _ _ r', h => by
    have : r.len ≠ r'.len := fun e => h (by simp [Cds.len, e])
    simp [eqC, eqC_len this]
theorem eqS_len {p : Bool} : ∀ {xs ys : Sts}, xs.len ≠ ys.len → eqS p xs ys = false
  | .nil, .nil, h => absurd rfl h
  | .nil, .cons .., _ => rfl
  | .cons .., .nil, _ => rfl
  | .cons _ _ _ _ _ _ _ r, .cons _ _ _ _ _ _ _ r', h => by
    have : r.len ≠ r'.len := fun e => h (by simp [Sts.len, e])
    simp [eqS, eqS_len this]
theorem eqV_len {p : Bool} : ∀ {xs ys : List Va}, xs.length ≠ ys.length → eqV p xs ys = false
  | [], [], h => absurd rfl h
  | [], _ :: _, _ => rfl
  | _ :: _, [], _ => rfl
  | _ :: r, _ :: s, h => by
    have : r.length ≠ s.length := fun e => h (by simp [e])
    simp [eqV, eqV_len this]
end Go.Proofs.YtknckiblofochaaGreatDoor
