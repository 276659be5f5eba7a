/-
  parse: expressions as values; what joins two.
-/
import Derived.Test.YtfcegaklbicmfaaGreatDoorJnPa
import Derived.NoCompiler
import Derived.RegionDies
import Derived.Deep.RegionHeld3
set_option linter.unusedVariables false
set_option linter.unusedSimpArgs false
namespace Go.Proofs.YtfcegaklbicmfaaGreatDoor
open Go.RowKit Go.Shelf

def ExVS (w : World) (S : Nat → Prop) (v : Value) (x : Ex) : Prop :=
 in8 x.k ∧ in64 x.n ∧ in64 x.at_ ∧ ∃ A c, v = exV x.k x.nm x.n A x.args.len c x.at_ ∧ SlR (ExR w S False x.args) x.args.len 64 A c
def ExV (w : World) (L : Nat) (v : Value) (x : Ex) : Prop := ExVS w (New L w) v x
theorem ExVS.keep {w w' : World} {S S' : Nat → Prop} {v : Value} {x : Ex} (h : ExVS w S v x) (hf : SameS S w w') (hs : ∀ b, S b → S' b) : ExVS w' S' v x := by
 obtain ⟨h1, h2, h3, A, c, e, hh⟩ := h
 exact ⟨h1, h2, h3, A, c, e, hh.imp fun _ _ hx => ExR.more hs (ExR.keep hf hx)⟩
theorem ExVS.fr {w w' : World} {S S' T : Nat → Prop} {v : Value} {x : Ex} (h : ExVS w S v x) (hf : Fr T w w') (ht : ∀ b, S b → b < w.heap.size ∧ ¬ T b) (hs : ∀ b, S b → S' b) : ExVS w' S' v x := h.keep (hf.same ht) hs
theorem ExV.fr {w w' : World} {L : Nat} {T : Nat → Prop} {v : Value} {x : Ex} (h : ExV w L v x) (hf : Fr T w w') (ht : ∀ b, L ≤ b → b < w.heap.size → ¬ T b) : ExV w' L v x :=
 ExVS.fr h hf (fun b hb => ⟨hb.2, ht b hb.1 hb.2⟩) fun b hb => ⟨hb.1, Nat.lt_of_lt_of_le hb.2 hf.size⟩
theorem ExV.low {w : World} {L L' : Nat} {v : Value} {x : Ex} (h : ExV w L v x) (hl : L' ≤ L) : ExV w L' v x :=
 ExVS.keep h (SameS.refl _ _) fun b hb => ⟨Nat.le_trans hl hb.1, hb.2⟩
theorem exR_two {w : World} {S : Nat → Prop} {g : Nat} {t : TypeId} {x y : Ex} {A A' : Option Addr} {c c' : Nat} (hb : Bk w g t #[.int .u8 x.k, .string x.nm, .int .i64 x.n, .slice A x.args.len c, .int .i64 x.at_, .int .u8 y.k, .string y.nm, .int .i64 y.n, .slice A' y.args.len c', .int .i64 y.at_]) (hg : S g)
  (h1 : in8 x.k ∧ in64 x.n ∧ in64 x.at_) (h2 : in8 y.k ∧ in64 y.n ∧ in64 y.at_) (hx : SlR (ExR w S False x.args) x.args.len 64 A c) (hy : SlR (ExR w S False y.args) y.args.len 64 A' c') : ExR w S False (x.cons (y.cons .nil)) g 0 :=
 ⟨⟨hg, fun h => absurd h id, h1.1, h1.2.1, h1.2.2, hb.cell 0, hb.cell 1, hb.cell 2, hb.cell 4⟩, ⟨A, c, hb.cell 3, hx⟩,
  ⟨hg, fun h => absurd h id, h2.1, h2.2.1, h2.2.2, hb.cell 5, hb.cell 6, hb.cell 7, hb.cell 9⟩, ⟨A', c', hb.cell 8, hy⟩, trivial⟩
theorem exR_one {w : World} {S : Nat → Prop} {g : Nat} {t : TypeId} {x : Ex} {A : Option Addr} {c : Nat} (hb : Bk w g t #[.int .u8 x.k, .string x.nm, .int .i64 x.n, .slice A x.args.len c, .int .i64 x.at_]) (hg : S g)
  (h1 : in8 x.k ∧ in64 x.n ∧ in64 x.at_) (hx : SlR (ExR w S False x.args) x.args.len 64 A c) : ExR w S False (x.cons .nil) g 0 :=
 ⟨⟨hg, fun h => absurd h id, h1.1, h1.2.1, h1.2.2, hb.cell 0, hb.cell 1, hb.cell 2, hb.cell 4⟩, ⟨A, c, hb.cell 3, hx⟩, trivial⟩
def TwoP (k at_ : Int) (xs : Array Value) (W : World) (e : Ending) (w' : World) : Prop :=
 ∃ g, e = .returned (exV k noB 0 (some ⟨g, 0, none⟩) 2 2 at_) ∧ Bk w' g 37 xs ∧ W.heap.size ≤ g ∧ g < w'.heap.size ∧ Fr NoT W w'
theorem two_any (f : Int) (w : World) : Calls Tryz.prog 211 #[.int .u8 f] w fun e w' => e = .returned (.func (.func 223) #[] #[.pointer (some ⟨w.heap.size, 0, none⟩)]) ∧ w' = w.alloc (.cells #[.int .u8 f] 5) := by
 have hmf := @makeF Tryz.prog
 go_enter Tryz.func211, Tryz.ntmps211
 go_wp2
 go_ret
 exact ⟨rfl, rfl⟩
set_option maxRecDepth 100000 in
theorem two1_any (f k at_ : Int) (bx : Nat) (k1 n1 a1 k2 n2 a2 : Int) (m1 m2 : ByteArray) (A1 A2 : Option Addr) (l1 l2 c1 c2 : Nat) (w : World) (hbx : bx < w.heap.size) (hf : w.cell? ⟨bx, 0, none⟩ = some (.int .u8 f)) (h0 : 0 ≤ k) (h1 : k ≤ 5) (h2 : 0 ≤ f) (h3 : f ≤ 20) :
  Calls Tryz.prog 223 #[.int .i64 k, .int .i64 at_, .agg #[.int .u8 k1, .string m1, .int .i64 n1, .slice A1 l1 c1, .int .i64 a1], .agg #[.int .u8 k2, .string m2, .int .i64 n2, .slice A2 l2 c2, .int .i64 a2], .pointer (some ⟨bx, 0, none⟩)] w
   (TwoP (f + k) at_ #[.int .u8 k1, .string m1, .int .i64 n1, .slice A1 l1 c1, .int .i64 a1, .int .u8 k2, .string m2, .int .i64 n2, .slice A2 l2 c2, .int .i64 a2] w) := by
 have e1 : IntKind.u8.wrap k = k := by simp [IntKind.wrap, IntKind.signed, IntKind.bits]; omega
 have e2 : IntKind.u8.wrap (f + k) = f + k := by simp [IntKind.wrap, IntKind.signed, IntKind.bits]; omega
 have z1 : bx < w.heap.size + 1 := by omega
 have z2 : bx < w.heap.size + 1 + 1 := by omega
 go_enter Tryz.func223, Tryz.ntmps223
 go_wp2
 refine bodyPost_ret (v := exV (f + k) noB 0 (some ⟨w.heap.size + 1 + 1 + 1, 0, none⟩) 2 2 at_) (by simp [results, Tryz.results223, go_sem, exV, noB]) rfl ?_
 exact ⟨_, rfl, Bk.new_at _ _ _ (by simp), by omega, by simp, ((((Fr.refl _ _).alloc _).alloc _).alloc _).alloc _⟩
def ExP (C : Pcx) (d : Nat) (r : PR Ex) (W : World) (e : Ending) (w' : World) : Prop :=
 match r with
 | .err c a => e = wrongE c a ∧ Fr C.T W w'
 | .ok x l => ∃ v, e = .returned v ∧ ExV w' W.heap.size v x ∧ PaAt C w' l d ∧ Fr C.T W w'
def Shr {α : Type} (one : List Tk → PR α) : Prop := ∀ l y r, one l = .ok y r → r.length ≤ l.length
theorem chainF_shr {α : Type} {one : List Tk → PR α} {join : Int → Int → α → α → α} {signs : List (List UInt8)} (h : Shr one) : ∀ (f : Nat) (x : α), Shr (chainF one join signs f x)
 | 0, x => fun l y r e => by simp only [chainF, PR.ok.injEq] at e; rw [e.2]; exact Nat.le_refl _
 | f + 1, x => fun l y r e => by
  simp only [chainF] at e
  split at e
  ·simp only [PR.ok.injEq] at e; rw [e.2]; exact Nat.le_refl _
  ·cases ho : one l.tail with
   | err c a => rw [ho] at e; simp [PR.then] at e
   | ok z q =>
    rw [ho] at e
    have h1 := h _ _ _ ho
    have h2 := chainF_shr h f _ _ _ _ e
    rw [List.length_tail] at h1
    omega
theorem chainP_shr {α : Type} {one : List Tk → PR α} {join : Int → Int → α → α → α} {signs : List (List UInt8)} (h : Shr one) : Shr (chainP one join signs) := fun l y r e => by
 unfold chainP at e
 cases ho : one l with
 | err c a => rw [ho] at e; simp [PR.then] at e
 | ok z q =>
  rw [ho] at e
  have h1 := h _ _ _ ho
  have h2 := chainF_shr h _ _ _ _ _ e
  omega
theorem PR.then_ok {α β : Type} {x : PR α} {f : α → List Tk → PR β} {b : β} {r : List Tk} (h : x.then f = .ok b r) : ∃ a q, x = .ok a q ∧ f a q = .ok b r := by
 cases x with
 | ok a q => exact ⟨a, q, rfl, h⟩
 | err e a => simp [PR.then] at h
theorem takeP_shr {s : List UInt8} {l r : List Tk} {u : Unit} (h : takeP s l = .ok u r) : r = l.tail := by
 unfold takeP at h
 split at h
 ·simp only [PR.ok.injEq] at h; exact h.2.symm
 ·simp at h
theorem exprOf_shr {sign : List Tk → PR Ex} (h : Shr sign) : Shr (exprOf sign) := chainP_shr (chainP_shr (chainP_shr h))
theorem numberP_shr {l r : List Tk} {v : Int} (h : numberP l = .ok v r) : r = l.tail := by
 unfold numberP at h
 split at h
 ·simp only [PR.ok.injEq] at h; exact h.2.symm
 ·simp at h
theorem signP_shr : ∀ n, Shr (signP n)
 | 0 => fun l y r e => by
  simp only [signP] at e
  split at e
  ·simp at e
  ·split at e
   ·simp at e
   ·split at e
    ·split at e
     ·simp at e
     ·simp only [PR.ok.injEq] at e; rw [← e.2, List.length_tail]; omega
    ·obtain ⟨a, q, h1, h2⟩ := PR.then_ok e
     simp only [PR.ok.injEq] at h2
     rw [← h2.2, numberP_shr h1, List.length_tail]; omega
 | n + 1 => fun l y r e => by
  have ih := signP_shr n
  simp only [signP] at e
  split at e
  ·obtain ⟨a, q, h1, h2⟩ := PR.then_ok e
   simp only [PR.ok.injEq] at h2
   have := ih _ _ _ h1
   rw [List.length_tail] at this
   rw [← h2.2]; omega
  ·split at e
   ·obtain ⟨a, q, h1, h2⟩ := PR.then_ok e
    obtain ⟨u, q2, h3, h4⟩ := PR.then_ok h2
    simp only [PR.ok.injEq] at h4
    have := exprOf_shr ih _ _ _ h1
    rw [List.length_tail] at this
    rw [← h4.2, takeP_shr h3, List.length_tail]; omega
   ·split at e
    ·split at e
     ·obtain ⟨a, q, h1, h2⟩ := PR.then_ok e
      obtain ⟨u, q2, h3, h4⟩ := PR.then_ok h2
      simp only [PR.ok.injEq] at h4
      have := exprOf_shr ih _ _ _ h1
      rw [List.length_tail, List.length_tail] at this
      rw [← h4.2, takeP_shr h3, List.length_tail]; omega
     ·simp only [PR.ok.injEq] at e; rw [← e.2, List.length_tail]; omega
    ·obtain ⟨a, q, h1, h2⟩ := PR.then_ok e
     simp only [PR.ok.injEq] at h2
     rw [← h2.2, numberP_shr h1, List.length_tail]; omega
theorem exprP_shr (n : Nat) : Shr (exprP n) := exprOf_shr (signP_shr n)
end Go.Proofs.YtfcegaklbicmfaaGreatDoor
