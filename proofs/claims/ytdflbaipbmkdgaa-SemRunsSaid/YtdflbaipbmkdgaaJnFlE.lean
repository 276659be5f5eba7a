/-
  flow.expr: whether expressions may be in a graph.
-/
import Derived.Test.YtdflbaipbmkdgaaFlSlices
import Derived.Test.YtdflbaipbmkdgaaJnBase
import Derived.Deep.QuietTactic
import Derived.BigQuiet
import Derived.Outline
namespace Go.Proofs.Ytdflbaipbmkdgaa
open Go.RowKit Go.Shelf
set_option linter.unusedVariables false
set_option linter.unusedSimpArgs false

theorem below_any (n m : Int) (w : World) : Calls Try.prog 20 #[.int .i64 n, .int .i64 m] w fun e w' => e = .returned (.bool (decide (0 ≤ n) && decide (n < m))) ∧ w = w' := by
  by_cases h : 0 ≤ n
  · go_enter Try.func20, Try.ntmps20
    go_wp2
    go_ret
    exact ⟨by simp [h], rfl⟩
  · have e1 : (decide (0 ≤ n) && decide (n < m)) = false := by simp [h]
    rw [e1]
    clear e1
    go_enter Try.func20, Try.ntmps20
    go_wp2
    go_ret
    exact ⟨rfl, rfl⟩

/-- what the closures of flow.expr have caught: the graph's box, and their own -/
structure MayEnv (w : World) (G M : Nat) (vars : Int) (Aa : Option Addr) (na ca : Nat) : Prop where
  g : G < w.heap.size
  m : M < w.heap.size
  g0 : w.cell? ⟨G, 0, none⟩ = some (.int .i64 vars)
  g1 : w.cell? ⟨G, 1, none⟩ = some (.slice Aa na ca)
  m0 : w.cell? ⟨M, 0, none⟩ = some (.func (.func 56) #[] #[.pointer (some ⟨G, 0, none⟩), .pointer (some ⟨M, 0, none⟩)])
theorem MayEnv.keep {w w' : World} {G M : Nat} {vars : Int} {Aa : Option Addr} {na ca : Nat} (h : MayEnv w G M vars Aa na ca) (hb : Below w.heap.size w w') : MayEnv w' G M vars Aa na ca :=
  ⟨Nat.lt_of_lt_of_le h.g hb.size, Nat.lt_of_lt_of_le h.m hb.size, (hb.cell h.g).trans h.g0, (hb.cell h.g).trans h.g1, (hb.cell h.m).trans h.m0⟩

/-- the same, of how many Args there are, and of whether they may be -/
def MayCalls (A Aa : Option Addr) (c na ca G M l : Nat) (vars : Int) (mx : Bool) (w : World) : Prop :=
  ∀ W, Below w.heap.size w W → Calls Try.prog 45 #[.slice A l c, .func (.func 57) #[] #[.pointer (some ⟨M, 0, none⟩)]] W (BoolPost (!mx) W)

set_option maxHeartbeats 1600000 in
theorem may_k1 (vars : Int) (na : Nat) (nm : ByteArray) (n : Int) (at_ : Int) (A Aa : Option Addr) (c ca G M l : Nat) (mx : Bool) (w : World) (hl : l ≤ 9223372036854775807)
    (hm : MayEnv w G M vars Aa na ca) (hc : MayCalls A Aa c na ca G M l vars mx w) :
    Calls Try.prog 56 #[exV 1 nm n A l c at_, .pointer (some ⟨G, 0, none⟩), .pointer (some ⟨M, 0, none⟩)] w (BoolPost (mayK vars na 1 n l && mx) w) := by
  obtain ⟨hg, hmm, g0, g1, m0⟩ := hm
  have HC := Lib.hid hc
  clear hc
  unfold exV
  by_cases hl0 : l = 0
  · subst hl0
    by_cases hn : 0 ≤ n
    · have HF : Hid ((mayK vars na 1 n 0 && mx) = mx) := by show _ = _; simp [mayK, rightN, argc, hn]
      go_enter Try.func56, Try.ntmps56
      go_wp2_with fail
      go_quiet (fail)
      go_wp2_with fail
      go_quiet (fail)
      go_wp2_with fail
      refine (HC.out _ (below_drewN ((Below.refl _ _).alloc (Nat.le_refl _) _) _)).mono ?_
      rintro e w1 ⟨rfl, hb1⟩
      go_wp2_with fail
      go_ret
      exact ⟨by rw [HF.out]; simp, (below_drewN ((Below.refl _ _).alloc (Nat.le_refl _) _) _).trans (hb1.mono (by simp))⟩
    · have HF : Hid ((mayK vars na 1 n 0 && mx) = false) := by show _ = _; simp [mayK, rightN, argc, hn]
      go_enter Try.func56, Try.ntmps56
      go_wp2_with fail
      go_quiet (fail)
      go_wp2_with fail
      go_quiet (fail)
      go_wp2_with fail
      go_ret
      exact ⟨by rw [HF.out]; rfl, below_drewN ((Below.refl _ _).alloc (Nat.le_refl _) _) _⟩
  · have HF : Hid ((mayK vars na 1 n l && mx) = false) := by show _ = _; simp [mayK, rightN, argc, hl0]
    go_enter Try.func56, Try.ntmps56
    go_wp2_with fail
    go_quiet (fail)
    go_wp2_with fail
    go_quiet (fail)
    go_wp2_with fail
    all_goals
      go_ret
      exact ⟨by rw [HF.out]; rfl, below_drewN ((Below.refl _ _).alloc (Nat.le_refl _) _) _⟩
set_option maxHeartbeats 1600000 in
theorem may_k2 (vars : Int) (na : Nat) (nm : ByteArray) (n : Int) (at_ : Int) (A Aa : Option Addr) (c ca G M l : Nat) (mx : Bool) (w : World) (hl : l ≤ 9223372036854775807)
    (hm : MayEnv w G M vars Aa na ca) (hc : MayCalls A Aa c na ca G M l vars mx w) :
    Calls Try.prog 56 #[exV 2 nm n A l c at_, .pointer (some ⟨G, 0, none⟩), .pointer (some ⟨M, 0, none⟩)] w (BoolPost (mayK vars na 2 n l && mx) w) := by
  obtain ⟨hg, hmm, g0, g1, m0⟩ := hm
  have HC := Lib.hid hc
  clear hc
  unfold exV
  by_cases hn : (decide (0 ≤ n) && decide (n < vars)) = true
  · by_cases hl0 : l = 0
    · subst hl0
      have HF : Hid ((mayK vars na 2 n 0 && mx) = mx) := by show _ = _; simp at hn; simp [mayK, rightN, argc, hn]
      go_enter Try.func56, Try.ntmps56
      go_wp2_with fail
      go_quiet (fail)
      go_wp2_with (go_at_call 20; refine (below_any _ _ _).mono ?_; rintro e w' ⟨rfl, rfl⟩)
      refine (HC.out _ (below_drewN ((Below.refl _ _).alloc (Nat.le_refl _) _) _)).mono ?_
      rintro e w1 ⟨rfl, hb1⟩
      go_wp2_with fail
      go_ret
      exact ⟨by rw [HF.out]; simp, (below_drewN ((Below.refl _ _).alloc (Nat.le_refl _) _) _).trans (hb1.mono (by simp))⟩
    · have HF : Hid ((mayK vars na 2 n l && mx) = false) := by show _ = _; simp [mayK, rightN, argc]; omega
      go_enter Try.func56, Try.ntmps56
      go_wp2_with fail
      go_quiet (fail)
      go_wp2_with (go_at_call 20; refine (below_any _ _ _).mono ?_; rintro e w' ⟨rfl, rfl⟩)
      go_ret
      exact ⟨by rw [HF.out]; rfl, below_drewN ((Below.refl _ _).alloc (Nat.le_refl _) _) _⟩
  · have hn' : (decide (0 ≤ n) && decide (n < vars)) = false := by simpa using hn
    have HF : Hid ((mayK vars na 2 n l && mx) = false) := by show _ = _; simp only [mayK, rightN]; simp [hn']
    clear hn
    go_enter Try.func56, Try.ntmps56
    go_wp2_with fail
    go_quiet (fail)
    go_wp2_with (go_at_call 20; refine (below_any _ _ _).mono ?_; rintro e w' ⟨rfl, rfl⟩)
    all_goals
      go_ret
      exact ⟨by rw [HF.out]; rfl, below_drewN ((Below.refl _ _).alloc (Nat.le_refl _) _) _⟩
set_option maxHeartbeats 1600000 in
theorem may_k3 (vars : Int) (na : Nat) (nm : ByteArray) (n : Int) (at_ : Int) (A Aa : Option Addr) (c ca G M l : Nat) (mx : Bool) (w : World) (hl : l ≤ 9223372036854775807) (hna : na ≤ 9223372036854775807)
    (hm : MayEnv w G M vars Aa na ca) (hc : MayCalls A Aa c na ca G M l vars mx w) :
    Calls Try.prog 56 #[exV 3 nm n A l c at_, .pointer (some ⟨G, 0, none⟩), .pointer (some ⟨M, 0, none⟩)] w (BoolPost (mayK vars na 3 n l && mx) w) := by
  obtain ⟨hg, hmm, g0, g1, m0⟩ := hm
  have HC := Lib.hid hc
  clear hc
  unfold exV
  by_cases hn : (decide (0 ≤ n) && decide (n < (na : Int))) = true
  · by_cases hl0 : l = 1
    · subst hl0
      have HF : Hid ((mayK vars na 3 n 1 && mx) = mx) := by show _ = _; simp at hn; simp [mayK, rightN, argc, hn]
      go_enter Try.func56, Try.ntmps56
      go_wp2_with fail
      go_quiet (fail)
      go_wp2_with (go_at_call 20; refine (below_any _ _ _).mono ?_; rintro e w' ⟨rfl, rfl⟩)
      refine (HC.out _ (below_drewN ((Below.refl _ _).alloc (Nat.le_refl _) _) _)).mono ?_
      rintro e w1 ⟨rfl, hb1⟩
      go_wp2_with fail
      go_ret
      exact ⟨by rw [HF.out]; simp, (below_drewN ((Below.refl _ _).alloc (Nat.le_refl _) _) _).trans (hb1.mono (by simp))⟩
    · have HF : Hid ((mayK vars na 3 n l && mx) = false) := by show _ = _; simp [mayK, rightN, argc]; omega
      go_enter Try.func56, Try.ntmps56
      go_wp2_with fail
      go_quiet (fail)
      go_wp2_with (go_at_call 20; refine (below_any _ _ _).mono ?_; rintro e w' ⟨rfl, rfl⟩)
      go_ret
      exact ⟨by rw [HF.out]; rfl, below_drewN ((Below.refl _ _).alloc (Nat.le_refl _) _) _⟩
  · have hn' : (decide (0 ≤ n) && decide (n < (na : Int))) = false := by simpa using hn
    have HF : Hid ((mayK vars na 3 n l && mx) = false) := by show _ = _; simp only [mayK, rightN]; simp [hn']
    clear hn
    go_enter Try.func56, Try.ntmps56
    go_wp2_with fail
    go_quiet (fail)
    go_wp2_with (go_at_call 20; refine (below_any _ _ _).mono ?_; rintro e w' ⟨rfl, rfl⟩)
    all_goals
      go_ret
      exact ⟨by rw [HF.out]; rfl, below_drewN ((Below.refl _ _).alloc (Nat.le_refl _) _) _⟩

set_option maxHeartbeats 1600000 in
theorem may_k4 (vars : Int) (na : Nat) (nm : ByteArray) (n : Int) (at_ : Int) (A Aa : Option Addr) (c ca G M l : Nat) (mx : Bool) (w : World) (hl : l ≤ 9223372036854775807)
    (hm : MayEnv w G M vars Aa na ca) (hc : MayCalls A Aa c na ca G M l vars mx w) :
    Calls Try.prog 56 #[exV 4 nm n A l c at_, .pointer (some ⟨G, 0, none⟩), .pointer (some ⟨M, 0, none⟩)] w (BoolPost (mayK vars na 4 n l && mx) w) := by
  obtain ⟨hg, hmm, g0, g1, m0⟩ := hm
  have HC := Lib.hid hc
  clear hc
  unfold exV
  by_cases hl0 : l = 1
  · subst hl0
    by_cases hn0 : n = 0
    · subst hn0
      have HF : Hid ((mayK vars na 4 0 1 && mx) = mx) := by show _ = _; simp [mayK, rightN, argc]
      go_enter Try.func56, Try.ntmps56
      go_wp2_with fail
      go_quiet (fail)
      go_wp2_with fail
      refine (HC.out _ (below_drewN ((Below.refl _ _).alloc (Nat.le_refl _) _) _)).mono ?_
      rintro e w1 ⟨rfl, hb1⟩
      go_wp2_with fail
      go_ret
      exact ⟨by rw [HF.out]; simp, (below_drewN ((Below.refl _ _).alloc (Nat.le_refl _) _) _).trans (hb1.mono (by simp))⟩
    · have hn : (n == 0) = false := by simpa using hn0
      have HF : Hid ((mayK vars na 4 n 1 && mx) = false) := by show _ = _; simp [mayK, rightN, argc, hn0]
      clear hn0
      go_enter Try.func56, Try.ntmps56
      go_wp2_with fail
      go_quiet (fail)
      go_wp2_with fail
      go_ret
      exact ⟨by rw [HF.out]; rfl, below_drewN ((Below.refl _ _).alloc (Nat.le_refl _) _) _⟩
  · have HF : Hid ((mayK vars na 4 n l && mx) = false) := by show _ = _; simp [mayK, rightN, argc]; omega
    have hl1 : ((l : Int) == 1) = false := by simp; omega
    go_enter Try.func56, Try.ntmps56
    go_wp2_with fail
    go_quiet (fail)
    go_wp2_with fail
    all_goals
      go_ret
      exact ⟨by rw [HF.out]; rfl, below_drewN ((Below.refl _ _).alloc (Nat.le_refl _) _) _⟩
set_option maxHeartbeats 1600000 in
theorem may_kx (vars : Int) (na : Nat) (k : Int) (nm : ByteArray) (n : Int) (at_ : Int) (A Aa : Option Addr) (c ca G M l : Nat) (mx : Bool) (w : World) (hl : l ≤ 9223372036854775807) (hk : in8 k) (h1 : ¬ k = 1) (h2 : ¬ k = 2) (h3 : ¬ k = 3) (h4 : ¬ k = 4)
    (hm : MayEnv w G M vars Aa na ca) (hc : MayCalls A Aa c na ca G M l vars mx w) :
    Calls Try.prog 56 #[exV k nm n A l c at_, .pointer (some ⟨G, 0, none⟩), .pointer (some ⟨M, 0, none⟩)] w (BoolPost (mayK vars na k n l && mx) w) := by
  obtain ⟨hg, hmm, g0, g1, m0⟩ := hm
  have HC := Lib.hid hc
  clear hc
  unfold exV
  have b1 : (k == 1) = false := by simpa using h1
  have b2 : (k == 2) = false := by simpa using h2
  have b3 : (k == 3) = false := by simpa using h3
  have b4 : (k == 4) = false := by simpa using h4
  by_cases hr : 5 ≤ k ∧ k ≤ 11
  · obtain ⟨hr1, hr2⟩ := hr
    have hr0 : 1 ≤ k := by omega
    by_cases hl0 : l = 2
    · subst hl0
      by_cases hn0 : n = 0
      · subst hn0
        have HF : Hid ((mayK vars na k 0 2 && mx) = mx) := by show _ = _; simp [mayK, rightN, argc, h1, h2, h3, h4, hr0, hr2]
        clear h1 h2 h3 h4
        go_enter Try.func56, Try.ntmps56
        go_wp2_with fail
        go_quiet (fail)
        go_wp2_with fail
        refine (HC.out _ (below_drewN ((Below.refl _ _).alloc (Nat.le_refl _) _) _)).mono ?_
        rintro e w1 ⟨rfl, hb1⟩
        go_wp2_with fail
        go_ret
        exact ⟨by rw [HF.out]; simp, (below_drewN ((Below.refl _ _).alloc (Nat.le_refl _) _) _).trans (hb1.mono (by simp))⟩
      · have hn : (n == 0) = false := by simpa using hn0
        have HF : Hid ((mayK vars na k n 2 && mx) = false) := by show _ = _; simp [mayK, rightN, argc, h1, h2, h3, h4, hn0]
        clear h1 h2 h3 h4 hn0
        go_enter Try.func56, Try.ntmps56
        go_wp2_with fail
        go_quiet (fail)
        go_wp2_with fail
        go_ret
        exact ⟨by rw [HF.out]; rfl, below_drewN ((Below.refl _ _).alloc (Nat.le_refl _) _) _⟩
    · have HF : Hid ((mayK vars na k n l && mx) = false) := by show _ = _; simp only [mayK, argc, if_neg h1, if_neg h2, if_neg h3, if_neg h4]; simp; omega
      have hl1 : ((l : Int) == 2) = false := by simp; omega
      clear h1 h2 h3 h4
      go_enter Try.func56, Try.ntmps56
      go_wp2_with fail
      go_quiet (fail)
      go_wp2_with fail
      all_goals
        go_ret
        exact ⟨by rw [HF.out]; rfl, below_drewN ((Below.refl _ _).alloc (Nat.le_refl _) _) _⟩
  · have HF : Hid ((mayK vars na k n l && mx) = false) := by
      show _ = _
      have : ¬ (1 ≤ k ∧ k ≤ 11) := by omega
      simp only [mayK]
      by_cases hh : 1 ≤ k
      · have : ¬ k ≤ 11 := by omega
        simp [this]
      · simp [hh]
    by_cases hr1 : 1 ≤ k
    · have hr2 : ¬ k ≤ 11 := by omega
      clear h1 h2 h3 h4 hr
      go_enter Try.func56, Try.ntmps56
      go_wp2_with fail
      go_quiet (fail)
      go_wp2_with fail
      all_goals
        go_ret
        exact ⟨by rw [HF.out]; rfl, below_drewN ((Below.refl _ _).alloc (Nat.le_refl _) _) _⟩
    · clear h1 h2 h3 h4 hr
      go_enter Try.func56, Try.ntmps56
      go_wp2_with fail
      go_quiet (fail)
      go_wp2_with fail
      all_goals
        go_ret
        exact ⟨by rw [HF.out]; rfl, below_drewN ((Below.refl _ _).alloc (Nat.le_refl _) _) _⟩

theorem may_one (vars : Int) (na : Nat) (k : Int) (nm : ByteArray) (n : Int) (at_ : Int) (A Aa : Option Addr) (c ca G M l : Nat) (mx : Bool) (w : World) (hl : l ≤ 9223372036854775807) (hna : na ≤ 9223372036854775807) (hk : in8 k)
    (hm : MayEnv w G M vars Aa na ca) (hc : MayCalls A Aa c na ca G M l vars mx w) :
    Calls Try.prog 56 #[exV k nm n A l c at_, .pointer (some ⟨G, 0, none⟩), .pointer (some ⟨M, 0, none⟩)] w (BoolPost (mayK vars na k n l && mx) w) := by
  by_cases h1 : k = 1
  · subst h1; exact may_k1 vars na nm n at_ A Aa c ca G M l mx w hl hm hc
  by_cases h2 : k = 2
  · subst h2; exact may_k2 vars na nm n at_ A Aa c ca G M l mx w hl hm hc
  by_cases h3 : k = 3
  · subst h3; exact may_k3 vars na nm n at_ A Aa c ca G M l mx w hl hna hm hc
  by_cases h4 : k = 4
  · subst h4; exact may_k4 vars na nm n at_ A Aa c ca G M l mx w hl hm hc
  exact may_kx vars na k nm n at_ A Aa c ca G M l mx w hl hk h1 h2 h3 h4 hm hc

/-- the closure that asks for its opposite -/
theorem not_one (vars : Int) (na : Nat) (k : Int) (nm : ByteArray) (n : Int) (at_ : Int) (A Aa : Option Addr) (c ca G M l : Nat) (r : Bool) (w : World) (hm : MayEnv w G M vars Aa na ca)
    (hc : ∀ W, Below w.heap.size w W → Calls Try.prog 56 #[exV k nm n A l c at_, .pointer (some ⟨G, 0, none⟩), .pointer (some ⟨M, 0, none⟩)] W (BoolPost r W)) :
    Calls Try.prog 57 #[exV k nm n A l c at_, .pointer (some ⟨M, 0, none⟩)] w (BoolPost (!r) w) := by
  obtain ⟨hg, hmm, g0, g1, m0⟩ := hm
  have HC := Lib.hid hc
  clear hc g0 g1
  unfold exV at HC ⊢
  go_enter Try.func57, Try.ntmps57
  go_wp2_with fail
  refine (HC.out _ ((Below.refl _ _).alloc (Nat.le_refl _) _)).mono ?_
  rintro e w1 ⟨rfl, hb1⟩
  go_wp2_with fail
  go_ret
  exact ⟨rfl, ((Below.refl _ _).alloc (Nat.le_refl _) _).trans (hb1.mono (by simp))⟩
end Go.Proofs.Ytdflbaipbmkdgaa

/-
  flow.expr and flow.deed: which expressions and deeds may be.
-/
namespace Go.Proofs.Ytdflbaipbmkdgaa
open Go.RowKit Go.Shelf
set_option linter.unusedVariables false
set_option linter.unusedSimpArgs false

/-- the closure answers of each of some expressions, by their structure -/
theorem not_asks (vars : Int) (na : Nat) (Aa : Option Addr) (ca G M : Nat) (B : Nat) (hna : na ≤ 9223372036854775807) : ∀ (xs : Exs) (w : World), B ≤ w.heap.size → MayEnv w G M vars Aa na ca →
    AsksEx 57 #[.pointer (some ⟨M, 0, none⟩)] w B (fun k _ n args _ => !(mayK vars na k n args.len && mayX vars na args)) xs
  | .nil, _, _, _ => fun i _ _ _ _ _ _ hd => by cases i <;> simp [Exs.drop] at hd
  | .cons k nm n args at_ rest, w, hB, hm => fun i k' nm' n' args' at' rest' hd hk hn hat W A c hb hsl => by
    cases i with
    | zero =>
      simp only [Exs.drop] at hd
      injection hd with e1 e2 e3 e4 e5 e6
      subst e1 e2 e3 e4 e5 e6
      have hmW := hm.keep hb
      refine not_one vars na k nm n at_ A Aa c ca G M args.len _ W hmW fun W2 hb2 => ?_
      refine may_one vars na k nm n at_ A Aa c ca G M args.len _ W2 (Nat.le_trans hsl.1 hsl.2.1) hna hk (hmW.keep hb2) fun W3 hb3 => ?_
      have hb23 := hb2.trans (hb3.mono hb2.size)
      have hB3 : B ≤ W3.heap.size := Nat.le_trans hB (Nat.le_trans hb.size hb23.size)
      have := containsEx (fun k _ n args _ => !(mayK vars na k n args.len && mayX vars na args)) args A c 57 #[.pointer (some ⟨M, 0, none⟩)] W3 B hB3
        (hsl.keep (Same.of hb23 (Nat.le_trans hB hb.size))) (enters_of Try.func57 (by kernel_rfl) rfl) (not_asks vars na Aa ca G M B hna args W3 hB3 (hmW.keep hb23))
      rw [any_not_may] at this
      exact this
    | succ i =>
      simp only [Exs.drop] at hd
      exact not_asks vars na Aa ca G M B hna rest w hB hm i k' nm' n' args' at' rest' hd hk hn hat W A c hb hsl

/-- the closure of flow.deed that asks for its opposite: it has caught a variable that holds the other one -/
theorem deednot_one (vars : Int) (na : Nat) (k : Int) (nm : ByteArray) (n : Int) (at_ : Int) (A Aa : Option Addr) (c ca G M l V : Nat) (r : Bool) (w : World) (hm : MayEnv w G M vars Aa na ca)
    (hV : w.cell? ⟨V, 0, none⟩ = some (.func (.func 56) #[] #[.pointer (some ⟨G, 0, none⟩), .pointer (some ⟨M, 0, none⟩)])) (hVl : V < w.heap.size)
    (hc : ∀ W, Below w.heap.size w W → Calls Try.prog 56 #[exV k nm n A l c at_, .pointer (some ⟨G, 0, none⟩), .pointer (some ⟨M, 0, none⟩)] W (BoolPost r W)) :
    Calls Try.prog 46 #[exV k nm n A l c at_, .pointer (some ⟨V, 0, none⟩)] w (BoolPost (!r) w) := by
  have HC := Lib.hid hc
  clear hc hm
  unfold exV at HC ⊢
  go_enter Try.func46, Try.ntmps46
  go_wp2_with fail
  refine (HC.out _ ((Below.refl _ _).alloc (Nat.le_refl _) _)).mono ?_
  rintro e w1 ⟨rfl, hb1⟩
  go_wp2_with fail
  go_ret
  exact ⟨rfl, ((Below.refl _ _).alloc (Nat.le_refl _) _).trans (hb1.mono (by simp))⟩
theorem deednot_asks (vars : Int) (na : Nat) (Aa : Option Addr) (ca G M V : Nat) (B : Nat) (hna : na ≤ 9223372036854775807) (xs : Exs) (w : World) (hB : B ≤ w.heap.size) (hm : MayEnv w G M vars Aa na ca)
    (hV : w.cell? ⟨V, 0, none⟩ = some (.func (.func 56) #[] #[.pointer (some ⟨G, 0, none⟩), .pointer (some ⟨M, 0, none⟩)])) (hVl : V < w.heap.size) :
    AsksEx 46 #[.pointer (some ⟨V, 0, none⟩)] w B (fun k _ n args _ => !(mayK vars na k n args.len && mayX vars na args)) xs := by
  intro i k nm n args at_ rest hd hk hn hat W A c hb hsl
  have hmW := hm.keep hb
  refine deednot_one vars na k nm n at_ A Aa c ca G M args.len V _ W hmW ((hb.cell hVl).trans hV) (Nat.lt_of_lt_of_le hVl hb.size) fun W2 hb2 => ?_
  refine may_one vars na k nm n at_ A Aa c ca G M args.len _ W2 (Nat.le_trans hsl.1 hsl.2.1) hna hk (hmW.keep hb2) fun W3 hb3 => ?_
  have hb23 := hb2.trans (hb3.mono hb2.size)
  have hB3 : B ≤ W3.heap.size := Nat.le_trans hB (Nat.le_trans hb.size hb23.size)
  have := containsEx (fun k _ n args _ => !(mayK vars na k n args.len && mayX vars na args)) args A c 57 #[.pointer (some ⟨M, 0, none⟩)] W3 B hB3
    (hsl.keep (Same.of hb23 (Nat.le_trans hB hb.size))) (enters_of Try.func57 (by kernel_rfl) rfl) (not_asks vars na Aa ca G M B hna args W3 hB3 (hmW.keep hb23))
  rw [any_not_may] at this
  exact this

/-- a graph as a value -/
def grV (vars : Int) (Aa : Option Addr) (na ca : Nat) (nodes start last : Int) (Ae : Option Addr) (ne ce : Nat) : Value := .agg #[.int .i64 vars, .slice Aa na ca, .int .i64 nodes, .int .i64 start, .int .i64 last, .slice Ae ne ce]

/-- flow.expr: the closure, and what it has caught -/
def ExprPost (vars : Int) (Aa : Option Addr) (na ca : Nat) (W : World) (e : Ending) (w' : World) : Prop :=
  ∃ G M : Nat, e = .returned (.func (.func 56) #[] #[.pointer (some ⟨G, 0, none⟩), .pointer (some ⟨M, 0, none⟩)]) ∧ MayEnv w' G M vars Aa na ca ∧ Below W.heap.size W w'
theorem expr_any (vars : Int) (Aa : Option Addr) (na ca : Nat) (nodes start last : Int) (Ae : Option Addr) (ne ce : Nat) (w : World) :
    Calls Try.prog 44 #[grV vars Aa na ca nodes start last Ae ne ce] w (ExprPost vars Aa na ca w) := by
  unfold grV
  go_enter Try.func44, Try.ntmps44
  go_wp2
  go_ret
  exact ⟨w.heap.size, w.heap.size + 1, rfl, ⟨by simp; omega, by simp, by simp, by simp, by simp⟩, ((Below.refl _ _).alloc (Nat.le_refl _) _).alloc (by simp) _⟩
end Go.Proofs.Ytdflbaipbmkdgaa
