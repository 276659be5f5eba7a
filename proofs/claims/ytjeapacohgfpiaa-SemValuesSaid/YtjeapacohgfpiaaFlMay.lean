/-
  flow.expr and flow.deed: which expressions and deeds may be.
-/
import Derived.Test.YtjeapacohgfpiaaFlExpr
namespace Go.Proofs.Ytjeapacohgfpiaa
open Go.RowKit Go.Shelf
set_option linter.unusedVariables false

/-- the closure answers of each of some expressions, by their structure -/
theorem not_asks (vars : Int) (na : Nat) (Aa : Option Addr) (ca G M : Nat) (B : Nat) (hna : na ≤ 9223372036854775807) : ∀ (xs : Exs) (w : World), B ≤ w.heap.size → MayEnv w G M vars Aa na ca →
    AsksEx 93 #[.pointer (some ⟨M, 0, none⟩)] w B (fun k _ n args _ => !(mayK vars na k n args.len && mayX vars na args)) xs
  | .nil, _, _, _ => fun i _ _ _ _ _ _ hd => by cases i <;> simp [Exs.drop] at hd
  | .cons k nm n args at_ rest, w, hB, hm => fun i k' nm' n' args' at' rest' hd hk hn hat W A c hb hsl => by
    cases i with
    | zero =>
      simp only [Exs.drop] at hd
      injection hd with e1 e2 e3 e4 e5 e6
      subst e1 e2 e3 e4 e5 e6
      have hmW := hm.keep hb
      refine not_one vars na k nm n at_ A Aa c ca G M args.len _ W hmW fun W2 hb2 => ?_
      refine may_one vars na k nm n at_ A Aa c ca G M args.len _ W2 (Nat.le_trans hsl.1 hsl.2.1) hna hk (hmW.keep hb2) fun W3 hb3 => ?_
      have hb23 := hb2.trans (hb3.mono hb2.size)
      have hB3 : B ≤ W3.heap.size := Nat.le_trans hB (Nat.le_trans hb.size hb23.size)
      have := containsEx (fun k _ n args _ => !(mayK vars na k n args.len && mayX vars na args)) args A c 93 #[.pointer (some ⟨M, 0, none⟩)] W3 B hB3
        (hsl.keep (Same.of hb23 (Nat.le_trans hB hb.size))) (enters_of Try.func93 (by kernel_rfl) rfl) (not_asks vars na Aa ca G M B hna args W3 hB3 (hmW.keep hb23))
      rw [any_not_may] at this
      exact this
    | succ i =>
      simp only [Exs.drop] at hd
      exact not_asks vars na Aa ca G M B hna rest w hB hm i k' nm' n' args' at' rest' hd hk hn hat W A c hb hsl

/-- the closure of flow.deed that asks for its opposite: it has caught a variable that holds the other one -/
theorem deednot_one (vars : Int) (na : Nat) (k : Int) (nm : ByteArray) (n : Int) (at_ : Int) (A Aa : Option Addr) (c ca G M l V : Nat) (r : Bool) (w : World) (hm : MayEnv w G M vars Aa na ca)
    (hV : w.cell? ⟨V, 0, none⟩ = some (.func (.func 92) #[] #[.pointer (some ⟨G, 0, none⟩), .pointer (some ⟨M, 0, none⟩)])) (hVl : V < w.heap.size)
    (hc : ∀ W, Below w.heap.size w W → Calls Try.prog 92 #[exV k nm n A l c at_, .pointer (some ⟨G, 0, none⟩), .pointer (some ⟨M, 0, none⟩)] W (BoolPost r W)) :
    Calls Try.prog 74 #[exV k nm n A l c at_, .pointer (some ⟨V, 0, none⟩)] w (BoolPost (!r) w) := by
  have HC := Lib.hid hc
  clear hc hm
  unfold exV at HC ⊢
  go_enter Try.func74, Try.ntmps74
  go_wp2_with fail
  refine (HC.out _ ((Below.refl _ _).alloc (Nat.le_refl _) _)).mono ?_
  rintro e w1 ⟨rfl, hb1⟩
  go_wp2_with fail
  go_ret
  exact ⟨rfl, ((Below.refl _ _).alloc (Nat.le_refl _) _).trans (hb1.mono (by simp))⟩
theorem deednot_asks (vars : Int) (na : Nat) (Aa : Option Addr) (ca G M V : Nat) (B : Nat) (hna : na ≤ 9223372036854775807) (xs : Exs) (w : World) (hB : B ≤ w.heap.size) (hm : MayEnv w G M vars Aa na ca)
    (hV : w.cell? ⟨V, 0, none⟩ = some (.func (.func 92) #[] #[.pointer (some ⟨G, 0, none⟩), .pointer (some ⟨M, 0, none⟩)])) (hVl : V < w.heap.size) :
    AsksEx 74 #[.pointer (some ⟨V, 0, none⟩)] w B (fun k _ n args _ => !(mayK vars na k n args.len && mayX vars na args)) xs := by
  intro i k nm n args at_ rest hd hk hn hat W A c hb hsl
  have hmW := hm.keep hb
  refine deednot_one vars na k nm n at_ A Aa c ca G M args.len V _ W hmW ((hb.cell hVl).trans hV) (Nat.lt_of_lt_of_le hVl hb.size) fun W2 hb2 => ?_
  refine may_one vars na k nm n at_ A Aa c ca G M args.len _ W2 (Nat.le_trans hsl.1 hsl.2.1) hna hk (hmW.keep hb2) fun W3 hb3 => ?_
  have hb23 := hb2.trans (hb3.mono hb2.size)
  have hB3 : B ≤ W3.heap.size := Nat.le_trans hB (Nat.le_trans hb.size hb23.size)
  have := containsEx (fun k _ n args _ => !(mayK vars na k n args.len && mayX vars na args)) args A c 93 #[.pointer (some ⟨M, 0, none⟩)] W3 B hB3
    (hsl.keep (Same.of hb23 (Nat.le_trans hB hb.size))) (enters_of Try.func93 (by kernel_rfl) rfl) (not_asks vars na Aa ca G M B hna args W3 hB3 (hmW.keep hb23))
  rw [any_not_may] at this
  exact this

/-- a graph as a value -/
def grV (vars : Int) (Aa : Option Addr) (na ca : Nat) (nodes start last : Int) (Ae : Option Addr) (ne ce : Nat) : Value := .agg #[.int .i64 vars, .slice Aa na ca, .int .i64 nodes, .int .i64 start, .int .i64 last, .slice Ae ne ce]

/-- flow.expr: the closure, and what it has caught -/
def ExprPost (vars : Int) (Aa : Option Addr) (na ca : Nat) (W : World) (e : Ending) (w' : World) : Prop :=
  ∃ G M : Nat, e = .returned (.func (.func 92) #[] #[.pointer (some ⟨G, 0, none⟩), .pointer (some ⟨M, 0, none⟩)]) ∧ MayEnv w' G M vars Aa na ca ∧ Below W.heap.size W w'
theorem expr_any (vars : Int) (Aa : Option Addr) (na ca : Nat) (nodes start last : Int) (Ae : Option Addr) (ne ce : Nat) (w : World) :
    Calls Try.prog 72 #[grV vars Aa na ca nodes start last Ae ne ce] w (ExprPost vars Aa na ca w) := by
  unfold grV
  go_enter Try.func72, Try.ntmps72
  go_wp2
  go_ret
  exact ⟨w.heap.size, w.heap.size + 1, rfl, ⟨by simp; omega, by simp, by simp, by simp, by simp⟩, ((Below.refl _ _).alloc (Nat.le_refl _) _).alloc (by simp) _⟩
end Go.Proofs.Ytjeapacohgfpiaa
