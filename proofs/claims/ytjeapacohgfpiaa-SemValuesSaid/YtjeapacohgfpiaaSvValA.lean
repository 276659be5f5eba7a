/-
  The plain side of sem.Value: what it answers; a graph that has an expression behind an edge more. And the closure that asks for an expression's value.
-/
import Derived.Test.YtjeapacohgfpiaaSvTry
import Derived.Test.YtjeapacohgfpiaaSvFits
import Derived.Test.YtjeapacohgfpiaaFlCheck
namespace Go.Proofs.Ytjeapacohgfpiaa
open Go.RowKit Go.Shelf
set_option linter.unusedVariables false

def valT (g : Gr) (vs : List Int) (ls : List (List Int)) (k n : Int) (args : Exs) (at_ : Int) : Int × Int × Int × Int :=
  if (mayG g && fitsB g.vars g.arrays vs.length ls) = true then
    if (mayK g.vars g.arrays.length k n args.len && mayX g.vars g.arrays.length args) = true then
      (if (fltOne vs ls k n args at_).1 = 0 then valOne vs ls k n (valsX vs ls args) else 0, (fltOne vs ls k n args at_).1, (fltOne vs ls k n args at_).2, 0)
    else (0, 0, 0, 2)
  else (0, 0, 0, 8)
def ValPost (r : Int × Int × Int × Int) (W : World) (e : Ending) (w' : World) : Prop := e = .returned (.tuple #[.int .i64 r.1, .int .u8 r.2.1, .int .i64 r.2.2.1, .int .i64 r.2.2.2]) ∧ Below W.heap.size W w'
/-- the graph that has the expression -/
def withG (v1 : Int) (gs : List Int) (k : Int) (nm : ByteArray) (n : Int) (args : Exs) (at_ : Int) : Gr :=
  { vars := v1, arrays := gs, nodes := 2, start := 0, last := 1, edges := [{ from_ := 0, to_ := 1, kind := 3, n := 0, cmp := 0, args := .cons k nm n args at_ .nil, at_ := 0 }] }
def oneV (vars : Int) : Int := if vars < 1 then 1 else vars
theorem mayG_with (g : Gr) (h : mayG g = true) (k : Int) (nm : ByteArray) (n : Int) (args : Exs) (at_ : Int) :
    mayG (withG (oneV g.vars) g.arrays k nm n args at_) = (mayK (oneV g.vars) g.arrays.length k n args.len && mayX (oneV g.vars) g.arrays.length args) := by
  simp only [mayG, odd1, odd2, Bool.and_eq_true, Bool.not_eq_true', Bool.or_eq_false_iff, decide_eq_false_iff_not] at h
  obtain ⟨⟨⟨⟨⟨⟨⟨⟨h1, h2⟩, h3⟩, h4⟩, h5⟩, h6⟩, h7⟩, _⟩, _⟩ := h
  have hs : g.arrays.any sizeBad = false := h7.2
  have v0 : 1 ≤ oneV g.vars := by unfold oneV; split <;> omega
  have v1 : oneV g.vars ≤ 32 := by unfold oneV; split <;> omega
  have e1 : decide (oneV g.vars < 0) = false := by simp; omega
  have e2 : decide (32 < oneV g.vars) = false := by simp; omega
  have e3 : decide (4 < (g.arrays.length : Int)) = false := by simpa using h3
  have e4 : decide (0 < oneV g.vars) = true := by simp; omega
  generalize oneV g.vars = v at *
  show (!(odd1 v 2 g.arrays.length 1 || odd2 2 0 1 (g.arrays.any sizeBad)) && !([({ from_ := 0, to_ := 1, kind := 3, n := 0, cmp := 0, args := .cons k nm n args at_ .nil, at_ := 0 } : Ed)].any (edBad v g.arrays.length 2)) && [({ from_ := 0, to_ := 1, kind := 3, n := 0, cmp := 0, args := .cons k nm n args at_ .nil, at_ := 0 } : Ed)].all fun e => nodeOk [({ from_ := 0, to_ := 1, kind := 3, n := 0, cmp := 0, args := .cons k nm n args at_ .nil, at_ := 0 } : Ed)] 1 e.from_) = _
  simp only [odd1, odd2, hs, e1, e2, e3]
  simp [edBad, mayD, nodeOk, outE, rightB, walkR, mayX, headD, cmpD, Exs.len, argsD, mostD, e4]
theorem mayX_one (na : Int) : ∀ xs : Exs, mayX 0 na xs = (mayX 1 na xs && !readsX xs)
  | .nil => rfl
  | .cons k nm n args at_ rest => by
    simp only [mayX, readsX, mayX_one na args, mayX_one na rest]
    have hk : mayK 0 na k n args.len = (mayK 1 na k n args.len && !(k == 2)) := by
      unfold mayK rightN
      by_cases h2 : k = 2
      · subst h2; simp; intros; omega
      · have : (k == 2) = false := by simpa using h2
        simp [this, h2]
    rw [hk]
    cases mayK 1 na k n args.len <;> cases (k == 2) <;> cases mayX 1 na args <;> cases readsX args <;> cases mayX 1 na rest <;> cases readsX rest <;> rfl

set_option maxHeartbeats 800000 in
/-- the closure -/
theorem value1_any (vs : List Int) (ls : List (List Int)) (Av Aa : Option Addr) (cv ca B : Nat) (k : Int) (nm : ByteArray) (n : Int) (args : Exs) (at_ : Int) (A : Option Addr) (c P Q N : Nat) (t : TypeId) (u : Value) (w : World)
    (hB : B ≤ w.heap.size) (hst : StSl w B vs ls Av cv Aa ca) (hx : ExSl w B args A c) (hm : (mayK vs.length ls.length k n args.len && mayX vs.length ls.length args) = true) (h64 : St64 vs ls) (hn64 : Ns64 args)
    (p0 : w.cell? ⟨P, 0, none⟩ = some (.slice Av vs.length cv)) (p1 : w.cell? ⟨P, 1, none⟩ = some (.slice Aa ls.length ca))
    (q0 : w.cell? ⟨Q, 0, none⟩ = some (.int .u8 k)) (q1 : w.cell? ⟨Q, 1, none⟩ = some (.string nm)) (q2 : w.cell? ⟨Q, 2, none⟩ = some (.int .i64 n)) (q3 : w.cell? ⟨Q, 3, none⟩ = some (.slice A args.len c)) (q4 : w.cell? ⟨Q, 4, none⟩ = some (.int .i64 at_))
    (hN : Blk w N t #[u]) :
    Calls Try.prog 45 #[.pointer (some ⟨P, 0, none⟩), .pointer (some ⟨Q, 0, none⟩), .pointer (some ⟨N, 0, none⟩)] w fun e w' =>
      e = (if (fltOne vs ls k n args at_).1 = 0 then .returned (.tuple #[]) else fault 88 (fltOne vs ls k n args at_)) ∧
      ∃ w1, Below w.heap.size w w1 ∧ w' = (if (fltOne vs ls k n args at_).1 = 0 then w1.setCell ⟨N, 0, none⟩ (.int .i64 (valOne vs ls k n (valsX vs ls args))) else w1) := by
  rw [Bool.and_eq_true] at hm
  have hcall := has_one vs ls Av Aa cv ca B k nm n args at_ A c w hB hst hx (has_asks vs ls Av Aa cv ca B h64 args hm.2 hn64) hm.1 h64 hn64
  obtain ⟨nv, hnv⟩ : ∃ m, m = vs.length := ⟨_, rfl⟩
  obtain ⟨na, hna⟩ : ∃ m, m = ls.length := ⟨_, rfl⟩
  obtain ⟨l, hll⟩ : ∃ m, m = args.len := ⟨_, rfl⟩
  obtain ⟨v, hv⟩ : ∃ v, v = valOne vs ls k n (valsX vs ls args) := ⟨_, rfl⟩
  obtain ⟨f, hf⟩ : ∃ v, v = fltOne vs ls k n args at_ := ⟨_, rfl⟩
  rw [← hnv, ← hna, ← hll, ← hv, ← hf] at hcall
  rw [← hnv] at p0
  rw [← hna] at p1
  rw [← hll] at q3
  rw [← hv, ← hf]
  clear hm hnv hna hll hv hf hst hx h64 hn64
  unfold stV exV at hcall
  have HC := Lib.hid hcall
  clear hcall
  by_cases h0 : f.1 = 0
  · simp only [if_pos h0]
    go_enter Try.func45, Try.ntmps45
    go_wp2_with fail
    refine HC.out.mono ?_
    rintro e w1 ⟨he, hb⟩
    rw [if_pos h0] at he
    subst he
    have hN1 := hN.below hb hN.lt
    have n0 := hN1.cell 0
    have n1 := hN1.frozen 0
    simp only [List.getElem?_toArray, List.getElem?_cons_succ, List.getElem?_cons_zero] at n0
    go_wp2_with fail
    go_end0
    exact ⟨rfl, w1, hb, rfl⟩
  · simp only [if_neg h0]
    go_enter Try.func45, Try.ntmps45
    go_wp2_with fail
    refine HC.out.mono ?_
    rintro e w1 ⟨he, hb⟩
    rw [if_neg h0] at he
    subst he
    go_wp2_with fail
    exact ⟨rfl, rfl, w1, hb, rfl⟩

/-! more room -/
theorem IsSl.more {w : World} {B B' : Nat} {l : List Int} {A : Option Addr} {c : Nat} (h : B ≤ B') (hx : IsSl w B l A c) : IsSl w B' l A c :=
  ⟨hx.1, hx.2.1, fun hp => by obtain ⟨b, o, e, hh⟩ := hx.2.2 hp; exact ⟨b, o, e, Nat.lt_of_lt_of_le hh.1 h, hh.2⟩⟩
/-- a graph of one edge, with one expression, that the call itself has made -/
theorem withSl {w : World} {B : Nat} (hB : B ≤ w.heap.size) {v1 : Int} {gs : List Int} {Aa : Option Addr} {ca : Nat} (ha : IsSl w B gs Aa ca) {k : Int} {nm : ByteArray} {n : Int} {args : Exs} {at_ : Int} {A : Option Addr} {c : Nat}
    (hx : ExSl w B args A c) (hk : in8 k) (hn : in64 n) (hat : in64 at_) {b1 b2 : Nat} {t1 t2 : TypeId}
    (h1 : Blk w b1 t1 #[.int .u8 k, .string nm, .int .i64 n, .slice A args.len c, .int .i64 at_])
    (h2 : Blk w b2 t2 #[.int .i64 0, .int .i64 1, .int .u8 3, .int .i64 0, .int .u8 0, .slice (some ⟨b1, 0, none⟩) 1 1, .int .i64 0]) :
    GrSl w w.heap.size (withG v1 gs k nm n args at_) Aa ca (some ⟨b2, 0, none⟩) 1 := by
  refine ⟨ha.more hB, by simp [withG], by simp, fun _ => ⟨b2, 0, rfl, ?_⟩⟩
  refine ⟨h2.lt, h2.cell 0, h2.cell 1, h2.cell 2, h2.cell 3, h2.cell 4, ⟨some ⟨b1, 0, none⟩, 1, h2.cell 5, by simp [Exs.len], by simp, fun _ => ⟨b1, 0, rfl, ?_⟩⟩, h2.cell 6, ?_, trivial⟩
  · exact ⟨h1.lt, h1.cell 0, h1.cell 1, h1.cell 2, ⟨A, c, h1.cell 3, hx.more hB⟩, h1.cell 4, hk, hn, hat, trivial⟩
  · simp [Ed.ok, in64, in8]
/-- four new blocks -/
theorem blk4 (w : World) (c0 c1 c2 c3 : Array Value) (t0 t1 t2 t3 : TypeId) (W : World) (hW : W = ((((w.alloc (.cells c0 t0)).alloc (.cells c1 t1)).alloc (.cells c2 t2)).alloc (.cells c3 t3))) :
    Blk W w.heap.size t0 c0 ∧ Blk W (w.heap.size + 1) t1 c1 ∧ Blk W (w.heap.size + 1 + 1) t2 c2 ∧ Blk W (w.heap.size + 1 + 1 + 1) t3 c3 ∧ W.heap.size = w.heap.size + 4 ∧ Below w.heap.size w W := by
  subst hW
  have h0 := Blk.new w t0 c0
  have h1 := Blk.new (w.alloc (.cells c0 t0)) t1 c1
  have h2 := Blk.new ((w.alloc (.cells c0 t0)).alloc (.cells c1 t1)) t2 c2
  have h3 := Blk.new (((w.alloc (.cells c0 t0)).alloc (.cells c1 t1)).alloc (.cells c2 t2)) t3 c3
  simp only [World.size_alloc] at h1 h2 h3
  exact ⟨((h0.alloc _).alloc _).alloc _, (h1.alloc _).alloc _, h2.alloc _, h3, by simp, (((((Below.refl _ _).alloc (Nat.le_refl _) _).alloc (by simp) _).alloc (by simp; omega) _).alloc (by simp; omega) _)⟩

/-- what sem.Value asks of sem.try -/
theorem try_value (vs : List Int) (ls : List (List Int)) (Av Aa : Option Addr) (cv ca B : Nat) (k : Int) (nm : ByteArray) (n : Int) (args : Exs) (at_ : Int) (A : Option Addr) (c P Q N : Nat) (tp tq t : TypeId) (w : World)
    (hB : B ≤ w.heap.size) (hst : StSl w B vs ls Av cv Aa ca) (hx : ExSl w B args A c) (hm : (mayK vs.length ls.length k n args.len && mayX vs.length ls.length args) = true) (h64 : St64 vs ls) (hn64 : Ns64 args)
    (hP : Blk w P tp #[.slice Av vs.length cv, .slice Aa ls.length ca]) (hQ : Blk w Q tq #[.int .u8 k, .string nm, .int .i64 n, .slice A args.len c, .int .i64 at_]) (hN : Blk w N t #[.int .i64 0]) :
    Calls Try.prog 44 #[.func (.func 45) #[] #[.pointer (some ⟨P, 0, none⟩), .pointer (some ⟨Q, 0, none⟩), .pointer (some ⟨N, 0, none⟩)]] w fun e w' =>
      e = .returned (.agg #[.int .u8 (fltOne vs ls k n args at_).1, .int .i64 (fltOne vs ls k n args at_).2]) ∧
      Blk w' N t #[.int .i64 (if (fltOne vs ls k n args at_).1 = 0 then valOne vs ls k n (valsX vs ls args) else 0)] ∧ Below N w w' := by
  have hent : Enters Try.prog 45 := enters_of Try.func45 (by kernel_rfl) rfl
  have hb0 : Below w.heap.size w (w.alloc (.cells #[.int .u8 0, .int .i64 0] 88)) := (Below.refl _ _).alloc (Nat.le_refl _) _
  have hP' := hP.alloc (.cells #[.int .u8 0, .int .i64 0] 88)
  have hQ' := hQ.alloc (.cells #[.int .u8 0, .int .i64 0] 88)
  have hN' := hN.alloc (.cells #[.int .u8 0, .int .i64 0] 88)
  have hR := Blk.new w 88 #[.int .u8 0, .int .i64 0]
  have hv := value1_any vs ls Av Aa cv ca B k nm n args at_ A c P Q N t (.int .i64 0) (w.alloc (.cells #[.int .u8 0, .int .i64 0] 88)) (Nat.le_trans hB hb0.size) (hst.keep (Same.of hb0 hB)) (hx.keep (Same.of hb0 hB)) hm h64 hn64
    (hP'.cell 0) (hP'.cell 1) (hQ'.cell 0) (hQ'.cell 1) (hQ'.cell 2) (hQ'.cell 3) (hQ'.cell 4) hN'
  have hNlt := hN.lt
  by_cases h0 : (fltOne vs ls k n args at_).1 = 0
  · simp only [if_pos h0] at hv ⊢
    have h1 : (fltOne vs ls k n args at_) = (0, 0) := fltOne_zero h0
    rw [h1]
    refine (try_ok 45 _ (fun w' => ∃ w1, Below (w.heap.size + 1) (w.alloc (.cells #[.int .u8 0, .int .i64 0] 88)) w1 ∧ w' = w1.setCell ⟨N, 0, none⟩ (.int .i64 (valOne vs ls k n (valsX vs ls args)))) w hent (hv.mono ?_)).mono ?_
    · rintro e w' ⟨rfl, w1, hb, rfl⟩
      rw [World.size_alloc] at hb
      exact ⟨rfl, ⟨w1, hb, rfl⟩, (hR.below hb (by omega)).far (by simp; omega) _⟩
    · rintro e w' ⟨rfl, w1, hb, rfl⟩
      refine ⟨rfl, ?_, ?_⟩
      · have := (hN'.below hb (by omega)).set_ 0 (.int .i64 (valOne vs ls k n (valsX vs ls args)))
        simpa using this
      · exact (((Below.refl N w).alloc (by omega) _).trans (hb.mono (by omega))).setCell (by simp) _
  · simp only [if_neg h0] at hv ⊢
    refine (try_bad 45 _ (fltOne vs ls k n args at_) (fun w' => Below (w.heap.size + 1) (w.alloc (.cells #[.int .u8 0, .int .i64 0] 88)) w') w hent (hv.mono ?_)).mono ?_
    · rintro e w' ⟨rfl, w1, hb, rfl⟩
      rw [World.size_alloc] at hb
      exact ⟨rfl, hb, hR.below hb (by omega)⟩
    · rintro e w' ⟨rfl, w1, hb, hb2⟩
      have hbb : Below w.heap.size (w.alloc (.cells #[.int .u8 0, .int .i64 0] 88)) w' := (hb.mono (by omega)).trans hb2
      exact ⟨rfl, hN'.below hbb hNlt, ((Below.refl N w).alloc (by omega) _).trans (hbb.mono (by omega))⟩
theorem mayG_vars {g : Gr} (h : mayG g = true) : 0 ≤ g.vars := by
  simp only [mayG, odd1, odd2, Bool.and_eq_true, Bool.not_eq_true', Bool.or_eq_false_iff, decide_eq_false_iff_not] at h
  have := h.1.1.1.1.1.1.1.1
  omega
theorem fitsB_of {vars : Int} {gs : List Int} {nv : Nat} {ls : List (List Int)} (h : fitsB vars gs nv ls = true) : vars = nv ∧ gs.length = ls.length := by
  simp only [fitsB, fitsA, Bool.and_eq_true, beq_iff_eq] at h
  exact ⟨h.1.symm, h.2.1⟩
end Go.Proofs.Ytjeapacohgfpiaa
