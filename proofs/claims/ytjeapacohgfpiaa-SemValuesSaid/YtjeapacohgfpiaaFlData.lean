/-
  Plain data of the graphs: expressions (a list of them, as one type), edges, graphs; and what it is for memory to hold them. No program.
-/
import Derived.WalkKit
namespace Go.Proofs.Ytjeapacohgfpiaa
open Go.RowKit

/-- a list of expressions: each one's kind, name, number, Args and place; and those behind it -/
inductive Exs where
  | nil
  | cons (k : Int) (nm : ByteArray) (n : Int) (args : Exs) (at_ : Int) (rest : Exs)

def Exs.len : Exs → Nat
  | .nil => 0
  | .cons _ _ _ _ _ rest => rest.len + 1

/-- those from a place on -/
def Exs.drop : Nat → Exs → Exs
  | 0, xs => xs
  | _ + 1, .nil => .nil
  | k + 1, .cons _ _ _ _ _ rest => Exs.drop k rest

theorem Exs.len_drop : ∀ (k : Nat) (xs : Exs), (Exs.drop k xs).len = xs.len - k
  | 0, xs => by simp [Exs.drop]
  | k + 1, .nil => by simp [Exs.drop, Exs.len]
  | k + 1, .cons _ _ _ _ _ rest => by simp [Exs.drop, Exs.len, Exs.len_drop k rest]

theorem Exs.drop_succ : ∀ (k : Nat) (xs : Exs) {a b c d e f}, Exs.drop k xs = .cons a b c d e f → Exs.drop (k + 1) xs = f
  | 0, .cons _ _ _ _ _ _, _, _, _, _, _, _, h => by simp only [Exs.drop] at h ⊢; injection h
  | 0, .nil, _, _, _, _, _, _, h => by simp [Exs.drop] at h
  | k + 1, .nil, _, _, _, _, _, _, h => by simp [Exs.drop] at h
  | k + 1, .cons _ _ _ _ _ rest, _, _, _, _, _, _, h => by simp only [Exs.drop] at h ⊢; exact Exs.drop_succ k rest h

theorem Exs.drop_cons {k : Nat} {xs : Exs} (h : k < xs.len) : ∃ a b c d e f, Exs.drop k xs = .cons a b c d e f := by
  have := Exs.len_drop k xs
  cases hx : Exs.drop k xs with
  | nil => rw [hx] at this; simp [Exs.len] at this; omega
  | cons a b c d e f => exact ⟨a, b, c, d, e, f, rfl⟩
theorem Exs.drop_nil {k : Nat} {xs : Exs} (h : xs.len ≤ k) : Exs.drop k xs = .nil := by
  have := Exs.len_drop k xs
  cases hx : Exs.drop k xs with
  | nil => rfl
  | cons a b c d e f => rw [hx] at this; simp [Exs.len] at this; omega

/-- is a number one of 64 bits? -/
def in64 (n : Int) : Prop := -9223372036854775808 ≤ n ∧ n ≤ 9223372036854775807
/-- is it one of 8? -/
def in8 (n : Int) : Prop := 0 ≤ n ∧ n ≤ 255

/-- MEMORY HOLDS EXPRESSIONS, one behind another, from a cell on; all of it below block B. -/
def ExAt (w : World) (B : Nat) : Exs → Nat → Nat → Prop
  | .nil, _, _ => True
  | .cons k nm n args at_ rest, b, off =>
    b < B ∧ w.cell? ⟨b, off, none⟩ = some (.int .u8 k) ∧ w.cell? ⟨b, off + 1, none⟩ = some (.string nm) ∧ w.cell? ⟨b, off + 2, none⟩ = some (.int .i64 n) ∧
      (∃ A c, w.cell? ⟨b, off + 3, none⟩ = some (.slice A args.len c) ∧ args.len ≤ c ∧ c ≤ 9223372036854775807 ∧ (0 < args.len → ∃ b' o', A = some ⟨b', o', none⟩ ∧ ExAt w B args b' o')) ∧
      w.cell? ⟨b, off + 4, none⟩ = some (.int .i64 at_) ∧ in8 k ∧ in64 n ∧ in64 at_ ∧ ExAt w B rest b (off + 5)

/-- the slice's own value: nil, or where they lie -/
def ExSl (w : World) (B : Nat) (xs : Exs) (A : Option Addr) (c : Nat) : Prop :=
  xs.len ≤ c ∧ c ≤ 9223372036854775807 ∧ (0 < xs.len → ∃ b o, A = some ⟨b, o, none⟩ ∧ ExAt w B xs b o)

/-- below block B nothing has turned -/
def Same (B : Nat) (w w' : World) : Prop := ∀ p : Addr, p.block < B → w'.cell? p = w.cell? p

theorem Same.refl (B : Nat) (w : World) : Same B w w := fun _ _ => rfl
theorem Same.trans {B : Nat} {a b c : World} (h : Same B a b) (k : Same B b c) : Same B a c := fun p hp => (k p hp).trans (h p hp)
theorem Same.of {B B' : Nat} {w w' : World} (h : Below B' w w') (hB : B ≤ B') : Same B w w' := fun _ hp => h.cell (Nat.lt_of_lt_of_le hp hB)

theorem ExAt.keep {w w' : World} {B : Nat} (h : Same B w w') : ∀ {xs : Exs} {b o : Nat}, ExAt w B xs b o → ExAt w' B xs b o
  | .nil, _, _, _ => trivial
  | .cons k nm n args at_ rest, b, o, hx => by
    obtain ⟨hb, h0, h1, h2, ⟨A, c, h3, hl, hc, ha⟩, h4, r0, r1, r2, hr⟩ := hx
    refine ⟨hb, (h _ hb).trans h0, (h _ hb).trans h1, (h _ hb).trans h2, ⟨A, c, (h _ hb).trans h3, hl, hc, fun hp => ?_⟩, (h _ hb).trans h4, r0, r1, r2, ExAt.keep h hr⟩
    obtain ⟨b', o', e, hx'⟩ := ha hp
    exact ⟨b', o', e, ExAt.keep h hx'⟩
theorem ExSl.keep {w w' : World} {B : Nat} {xs : Exs} {A : Option Addr} {c : Nat} (h : Same B w w') (hx : ExSl w B xs A c) : ExSl w' B xs A c :=
  ⟨hx.1, hx.2.1, fun hp => by obtain ⟨b, o, e, hh⟩ := hx.2.2 hp; exact ⟨b, o, e, hh.keep h⟩⟩

/-- from a place on -/
theorem ExAt.drop {w : World} {B : Nat} : ∀ (k : Nat) {xs : Exs} {b o : Nat}, ExAt w B xs b o → ExAt w B (Exs.drop k xs) b (o + k * 5)
  | 0, _, _, _, h => by simpa [Exs.drop] using h
  | k + 1, .nil, _, _, _ => trivial
  | k + 1, .cons _ _ _ _ _ rest, b, o, h => by
    have := ExAt.drop k h.2.2.2.2.2.2.2.2.2
    simp only [Exs.drop]
    rw [show o + (k + 1) * 5 = o + 5 + k * 5 from by omega]
    exact this
/-- WHAT LIES AT PLACE k, as the walk asks for it -/
theorem ExAt.at_ {w : World} {B : Nat} {xs : Exs} {b o : Nat} (h : ExAt w B xs b o) {i : Nat} {k : Int} {nm : ByteArray} {n : Int} {args : Exs} {at_ : Int} {rest : Exs} (hd : Exs.drop i xs = .cons k nm n args at_ rest) :
    b < B ∧ w.cell? ⟨b, o + i * 5, none⟩ = some (.int .u8 k) ∧ w.cell? ⟨b, o + i * 5 + 1, none⟩ = some (.string nm) ∧ w.cell? ⟨b, o + i * 5 + 2, none⟩ = some (.int .i64 n) ∧
      (∃ A c, w.cell? ⟨b, o + i * 5 + 3, none⟩ = some (.slice A args.len c) ∧ ExSl w B args A c) ∧ w.cell? ⟨b, o + i * 5 + 4, none⟩ = some (.int .i64 at_) ∧ in8 k ∧ in64 n ∧ in64 at_ := by
  have := h.drop i
  rw [hd] at this
  obtain ⟨hb, h0, h1, h2, ⟨A, c, h3, hl, hc, ha⟩, h4, r0, r1, r2, _⟩ := this
  exact ⟨hb, h0, h1, h2, ⟨A, c, h3, hl, hc, ha⟩, h4, r0, r1, r2⟩
end Go.Proofs.Ytjeapacohgfpiaa
namespace Go.Proofs.Ytjeapacohgfpiaa
open Go.RowKit
/-- does something hold of one of them? -/
def Exs.any (p : Int → ByteArray → Int → Exs → Int → Bool) : Exs → Bool
  | .nil => false
  | .cons k nm n args at_ rest => p k nm n args at_ || Exs.any p rest
theorem Exs.any_drop {p : Int → ByteArray → Int → Exs → Int → Bool} {xs : Exs} {i : Nat} {k : Int} {nm : ByteArray} {n : Int} {args : Exs} {at_ : Int} {rest : Exs} (hd : Exs.drop i xs = .cons k nm n args at_ rest)
    (hp : p k nm n args at_ = false) (h : Exs.any p xs = Exs.any p (Exs.drop i xs)) : Exs.any p xs = Exs.any p (Exs.drop (i + 1) xs) := by
  rw [h, Exs.drop_succ i xs hd, hd]
  simp [Exs.any, hp]
/-- one as a value -/
def exV (k : Int) (nm : ByteArray) (n : Int) (A : Option Addr) (l c : Nat) (at_ : Int) : Value := .agg #[.int .u8 k, .string nm, .int .i64 n, .slice A l c, .int .i64 at_]
def IdxPost (b : Bool) (W : World) (e : Ending) (w' : World) : Prop := ∃ n : Int, decide (0 ≤ n) = b ∧ e = .returned (.int .i64 n) ∧ Below W.heap.size W w'
def BoolPost (b : Bool) (W : World) (e : Ending) (w' : World) : Prop := e = .returned (.bool b) ∧ Below W.heap.size W w'
end Go.Proofs.Ytjeapacohgfpiaa
namespace Go.Proofs.Ytjeapacohgfpiaa
open Go.RowKit
/-- how many Args an expression of a kind has -/
def argc (k : Int) : Int := if k = 1 then 0 else if k = 2 then 0 else if k = 3 then 1 else if k = 4 then 1 else 2
/-- may its number be? -/
def rightN (vars arrs k n : Int) : Bool :=
  if k = 1 then decide (0 ≤ n) else if k = 2 then (decide (0 ≤ n) && decide (n < vars)) else if k = 3 then (decide (0 ≤ n) && decide (n < arrs)) else n == 0
def mayK (vars arrs k n : Int) (l : Nat) : Bool := decide (1 ≤ k) && decide (k ≤ 11) && rightN vars arrs k n && ((l : Int) == argc k)
/-- may expressions be, all of them? -/
def mayX (vars arrs : Int) : Exs → Bool
  | .nil => true
  | .cons k _ n args _ rest => mayK vars arrs k n args.len && mayX vars arrs args && mayX vars arrs rest
theorem any_not_may (vars arrs : Int) : ∀ xs : Exs, Exs.any (fun k _ n args _ => !(mayK vars arrs k n args.len && mayX vars arrs args)) xs = !mayX vars arrs xs
  | .nil => rfl
  | .cons k nm n args at_ rest => by
    simp only [Exs.any, mayX, any_not_may vars arrs rest]
    cases mayK vars arrs k n args.len && mayX vars arrs args <;> simp
end Go.Proofs.Ytjeapacohgfpiaa
