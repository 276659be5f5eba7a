/-
  sem.fits and facetroomref14.MayStore: whether a store may be; sem.reads: whether an expression reads a scalar.
-/
import Derived.Test.YtjeapacohgfpiaaSvHas
import Derived.Test.YtjeapacohgfpiaaFlDeed
import Derived.Test.YtjeapacohgfpiaaFlHeld
namespace Go.Proofs.Ytjeapacohgfpiaa
open Go.RowKit Go.Shelf
set_option linter.unusedVariables false

def fitD : List Int → List (List Int) → Bool
  | n :: r, l :: q => ((l.length : Int) == n) && fitD r q
  | _, _ => true
def fitsA (gs : List Int) (ls : List (List Int)) : Bool := (gs.length == ls.length) && fitD gs ls
def fitsB (vars : Int) (gs : List Int) (nv : Nat) (ls : List (List Int)) : Bool := ((nv : Int) == vars) && fitsA gs ls
theorem fitD_drop {gs : List Int} {ls : List (List Int)} {k : Nat} {n : Int} {l : List Int} (ha : gs[k]? = some n) (hl : ls[k]? = some l) (h : fitD gs ls = fitD (gs.drop k) (ls.drop k)) :
    fitD gs ls = (((l.length : Int) == n) && fitD (gs.drop (k + 1)) (ls.drop (k + 1))) := by
  obtain ⟨h1, rfl⟩ := List.getElem?_eq_some_iff.1 ha
  obtain ⟨h2, rfl⟩ := List.getElem?_eq_some_iff.1 hl
  rw [h, List.drop_eq_getElem_cons h1, List.drop_eq_getElem_cons h2, fitD]
theorem fitD_end {gs : List Int} {ls : List (List Int)} {k : Nat} (hk : gs.length ≤ k) (h : fitD gs ls = fitD (gs.drop k) (ls.drop k)) : fitD gs ls = true := by
  rw [h, List.drop_eq_nil_of_le hk, fitD]
  intros; simp_all

theorem fits1_any (n : Int) (A : Option Addr) (l c : Nat) (w : World) : Calls Try.prog 83 #[.int .i64 n, .slice A l c] w fun e w' => e = .returned (.bool ((l : Int) == n)) ∧ w = w' := by
  go_enter Try.func83, Try.ntmps83
  go_wp2
  go_ret
  exact ⟨rfl, rfl⟩

set_option maxHeartbeats 800000 in
theorem eqFits_any (gs : List Int) (ls : List (List Int)) (A A' : Option Addr) (c c' B : Nat) (w : World) (ha : IsSl w B gs A c) (hl : ArSl w B ls A' c') :
    Calls Try.prog 82 #[.slice A gs.length c, .slice A' ls.length c', .func (.func 83) #[] #[]] w fun e w' => e = .returned (.bool (fitsA gs ls)) ∧ w = w' := by
  have hm : gs.length ≤ 9223372036854775807 := Nat.le_trans ha.1 ha.2.1
  have hent : Enters Try.prog 83 := enters_of Try.func83 (by kernel_rfl) rfl
  unfold Enters at hent
  by_cases hne : gs.length = ls.length
  · have HF : Hid (fitsA gs ls = fitD gs ls) := by show _ = _; simp [fitsA, hne]
    obtain ⟨l, hl2⟩ : ∃ l, l = gs.length := ⟨_, rfl⟩
    rw [← hne, ← hl2]
    have HL := Lib.hid hl2
    have HN := Lib.hid hne
    rw [← hl2] at hm
    clear hne hl2
    go_enter Try.func82, Try.ntmps82
    go_wp2
    go_loop [17] (fun i => ∃ k : Nat, k ≤ l ∧ i = .int .i64 k ∧ Hid (fitD gs ls = fitD (gs.drop k) (ls.drop k))) (fun i => l - (intOf i).toNat)
    case atStart => exact ⟨0, Nat.zero_le _, rfl, rfl⟩
    case round =>
      obtain ⟨k, hk, rfl, hd⟩ := hrel
      by_cases hlt : k < l
      · have h1 : k < gs.length := by rw [← HL.out]; exact hlt
        have h2 : k < ls.length := by rw [← HN.out, ← HL.out]; exact hlt
        obtain ⟨b, o, rfl, hat⟩ := ha.2.2 (by omega)
        obtain ⟨b', o', rfl, hat'⟩ := hl.2.2 (by omega)
        have c0 := (hat.2 k _ (List.getElem?_eq_getElem h1)).1
        obtain ⟨A3, c3, c1, hs3⟩ := hat'.2 k _ (List.getElem?_eq_getElem h2)
        have hs := fitD_drop (List.getElem?_eq_getElem h1) (List.getElem?_eq_getElem h2) hd.out
        obtain ⟨n, hn⟩ : ∃ n, n = gs[k] := ⟨_, rfl⟩
        obtain ⟨m, hm2⟩ : ∃ n, n = ls[k].length := ⟨_, rfl⟩
        rw [← hn] at c0 hs
        rw [← hm2] at c1 hs
        clear hs3 hn hm2 hd h1 h2 hat hat'
        cases hb : ((m : Int) == n)
        · have HR : Hid (fitsA gs ls = false) := by show _ = _; rw [HF.out, hs, hb]; rfl
          clear hs
          go_wp2_with (go_at_call 83; refine (fits1_any _ _ _ _ _).mono ?_; rintro e w' ⟨rfl, rfl⟩)
          go_ret
          exact ⟨by rw [HR.out]; rfl, rfl⟩
        · have HR : Hid (fitD gs ls = fitD (gs.drop (k + 1)) (ls.drop (k + 1))) := by show _ = _; rw [hs, hb]; rfl
          clear hs
          go_wp2_with (go_at_call 83; refine (fits1_any _ _ _ _ _).mono ?_; rintro e w' ⟨rfl, rfl⟩)
          go_round
          case rel => exact ⟨k + 1, by omega, by go_num, HR⟩
          case measure => simp [intOf]; omega
      · have HR : Hid (fitsA gs ls = true) := by show _ = _; rw [HF.out, fitD_end (by rw [← HL.out]; omega) hd.out]
        clear hd
        go_wp2
        go_ret
        exact ⟨by rw [HR.out]; rfl, rfl⟩
  · have HF : Hid (fitsA gs ls = false) := by show _ = _; simp [fitsA, hne]
    have hne2 : ((gs.length : Int) != (ls.length : Int)) = true := by simp; omega
    obtain ⟨l, hl2⟩ : ∃ l, l = gs.length := ⟨_, rfl⟩
    obtain ⟨l', hl3⟩ : ∃ l, l = ls.length := ⟨_, rfl⟩
    rw [← hl2, ← hl3] at hne2 ⊢
    clear hne hl2 hl3 hm
    go_enter Try.func82, Try.ntmps82
    go_wp2
    go_ret
    exact ⟨by rw [HF.out]; rfl, rfl⟩

set_option maxHeartbeats 800000 in
/-- THE CONTRACT of sem.fits -/
theorem fits_any (vars : Int) (gs : List Int) (Aa : Option Addr) (ca : Nat) (nodes start last : Int) (Ae : Option Addr) (ne ce : Nat) (vs : List Int) (ls : List (List Int)) (Av Al : Option Addr) (cv cl B : Nat) (w : World) (hB : B ≤ w.heap.size)
    (ha : IsSl w B gs Aa ca) (hst : StSl w B vs ls Av cv Al cl) :
    Calls Try.prog 42 #[grV vars Aa gs.length ca nodes start last Ae ne ce, stV Av vs.length cv Al ls.length cl] w (BoolPost (fitsB vars gs vs.length ls) w) := by
  have hcc : ∀ W, Below w.heap.size w W → Calls Try.prog 82 #[.slice Aa gs.length ca, .slice Al ls.length cl, .func (.func 83) #[] #[]] W fun e w' => e = .returned (.bool (fitsA gs ls)) ∧ W = w' := fun W h =>
    eqFits_any gs ls Aa Al ca cl B W (ha.keep (Same.of h hB)) (hst.arrs.keep (Same.of h hB))
  obtain ⟨na, hna⟩ : ∃ m, m = gs.length := ⟨_, rfl⟩
  obtain ⟨nl, hnl⟩ : ∃ m, m = ls.length := ⟨_, rfl⟩
  obtain ⟨nv, hnv⟩ : ∃ m, m = vs.length := ⟨_, rfl⟩
  rw [← hna, ← hnl] at hcc
  rw [← hna, ← hnl, ← hnv]
  have HC := Lib.hid hcc
  clear hcc hna hnl hnv ha hst
  unfold grV stV
  have hbb : ∀ (c0 c1 : Array Value), Below w.heap.size w ((w.alloc (.cells c0 35)).alloc (.cells c1 42)) := fun _ _ => ((Below.refl _ _).alloc (Nat.le_refl _) _).alloc (by simp) _
  have HBB := Lib.hid hbb
  clear hbb
  cases hv : ((nv : Int) == vars)
  · have HF : Hid (fitsB vars gs nv ls = false) := by show _ = _; rw [fitsB, hv]; rfl
    go_enter Try.func42, Try.ntmps42
    go_wp2
    go_ret
    exact ⟨by rw [HF.out]; rfl, HBB.out _ _⟩
  · have HF : Hid (fitsB vars gs nv ls = fitsA gs ls) := by show _ = _; rw [fitsB, hv]; rfl
    obtain ⟨r, hr⟩ : ∃ r, r = fitsA gs ls := ⟨_, rfl⟩
    rw [← hr] at HC HF
    clear hr
    go_enter Try.func42, Try.ntmps42
    go_wp2_with fail
    refine (HC.out _ (HBB.out _ _)).mono ?_
    rintro _ w1 ⟨rfl, rfl⟩
    go_wp2_with fail
    go_ret
    exact ⟨by rw [HF.out]; rfl, HBB.out _ _⟩

/-! ref14.MayStore -/
set_option maxRecDepth 100000 in
set_option maxHeartbeats 1600000 in
theorem mayStore_any (vars : Int) (gs : List Int) (Aa : Option Addr) (ca : Nat) (nodes start last : Int) (Ae : Option Addr) (ne ce : Nat) (vs : List Int) (ls : List (List Int)) (Av Al : Option Addr) (cv cl B : Nat) (w : World) (hB : B ≤ w.heap.size)
    (ha : IsSl w B gs Aa ca) (hst : StSl w B vs ls Av cv Al cl) :
    Calls Try.prog 47 #[grV vars Aa gs.length ca nodes start last Ae ne ce, stV Av vs.length cv Al ls.length cl] w (BoolPost (fitsB vars gs vs.length ls) w) := by
  have hm : gs.length ≤ 9223372036854775807 := Nat.le_trans ha.1 ha.2.1
  have hml : ls.length ≤ 9223372036854775807 := Nat.le_trans hst.arrs.1 hst.arrs.2.1
  obtain ⟨na, hna⟩ : ∃ m, m = gs.length := ⟨_, rfl⟩
  obtain ⟨nl, hnl⟩ : ∃ m, m = ls.length := ⟨_, rfl⟩
  obtain ⟨nv, hnv⟩ : ∃ m, m = vs.length := ⟨_, rfl⟩
  rw [← hna, ← hnl, ← hnv]
  rw [← hna] at hm
  rw [← hnl] at hml
  unfold grV stV
  have hbb : ∀ (c0 c1 : Array Value), Below w.heap.size w ((w.alloc (.cells c0 35)).alloc (.cells c1 42)) := fun _ _ => ((Below.refl _ _).alloc (Nat.le_refl _) _).alloc (by simp) _
  have HBB := Lib.hid hbb
  clear hbb
  by_cases hv : (nv : Int) = vars
  · have b1 : ((nv : Int) != vars) = false := by simpa using hv
    by_cases hn : na = nl
    · have HF : Hid (fitsB vars gs nv ls = fitD gs ls) := by show _ = _; simp [fitsB, fitsA, hv, ← hna, ← hnl, hn]
      have HNA := Lib.hid hna
      have HNL : Hid (na = ls.length) := by show _ = _; rw [hn, hnl]
      subst hn
      have b2 : ((na : Int) != (na : Int)) = false := by simp
      clear hna hnl hnv hv
      go_enter Try.func47, Try.ntmps47
      go_wp2
      obtain ⟨W2, hW2⟩ : ∃ W2, W2 = ((w.alloc (.cells #[.int .i64 vars, .slice Aa na ca, .int .i64 nodes, .int .i64 start, .int .i64 last, .slice Ae ne ce] 35)).alloc (.cells #[.slice Av nv cv, .slice Al na cl] 42)) := ⟨_, rfl⟩
      have hb2 : Below w.heap.size w W2 := by rw [hW2]; exact HBB.out _ _
      have hs0 : ∀ i, W2.cell? ⟨w.heap.size, i, none⟩ = #[.int .i64 vars, Value.slice Aa na ca, .int .i64 nodes, .int .i64 start, .int .i64 last, .slice Ae ne ce][i]? := fun i => by rw [hW2]; exact (cells2 w _ _ _ _ i).1
      have hs1 : ∀ i, W2.cell? ⟨w.heap.size + 1, i, none⟩ = #[Value.slice Av nv cv, .slice Al na cl][i]? := fun i => by rw [hW2]; exact (cells2 w _ _ _ _ i).2
      have hz : w.heap.size + 1 < W2.heap.size := by rw [hW2]; simp
      rw [← hW2]
      have HS0 := Lib.hid hs0
      have HS1 := Lib.hid hs1
      clear hW2 hs0 hs1
      go_loopw [5] (fun i wr => ∃ k : Nat, k ≤ na ∧ i = .int .i64 k ∧ Below W2.heap.size W2 wr ∧ Hid (fitD gs ls = fitD (gs.drop k) (ls.drop k))) (fun i _ => na - (intOf i).toNat)
      case atStart => exact ⟨0, Nat.zero_le _, rfl, Below.refl _ _, rfl⟩
      case round =>
        obtain ⟨k, hk, rfl, hb, hd⟩ := hrel
        have hbw := hb2.trans (hb.mono hb2.size)
        have s1 := (hb.cell (p := ⟨w.heap.size, 1, none⟩) (by simp; omega)).trans (HS0.out 1)
        have e1 := (hb.cell (p := ⟨w.heap.size + 1, 1, none⟩) hz).trans (HS1.out 1)
        simp only [List.getElem?_toArray, List.getElem?_cons_succ, List.getElem?_cons_zero] at s1 e1
        by_cases hlt : k < na
        · have h1 : k < gs.length := by rw [← HNA.out]; exact hlt
          have h2 : k < ls.length := by rw [← HNL.out]; exact hlt
          obtain ⟨b, o, rfl, hat⟩ := ha.2.2 (by omega)
          obtain ⟨b', o', rfl, hat'⟩ := hst.arrs.2.2 (by omega)
          have c0 := ((hat.keep (Same.of hbw hB)).2 k _ (List.getElem?_eq_getElem h1)).1
          obtain ⟨A3, c3, c1, hs3⟩ := (hat'.keep (Same.of hbw hB)).2 k _ (List.getElem?_eq_getElem h2)
          have hs := fitD_drop (List.getElem?_eq_getElem h1) (List.getElem?_eq_getElem h2) hd.out
          obtain ⟨n, hn⟩ : ∃ n, n = gs[k] := ⟨_, rfl⟩
          obtain ⟨m, hm2⟩ : ∃ n, n = ls[k].length := ⟨_, rfl⟩
          rw [← hn] at c0 hs
          rw [← hm2] at c1 hs
          clear hs3 hn hm2 hd h1 h2 hat hat' hst ha
          by_cases hmn : (m : Int) = n
          · have HR : Hid (fitD gs ls = fitD (gs.drop (k + 1)) (ls.drop (k + 1))) := by show _ = _; rw [hs, hmn]; simp
            have b3 : ((m : Int) != n) = false := by simpa using hmn
            clear hs hmn
            go_wp2_with fail
            go_quiet (fail)
            go_wp2_with fail
            go_roundw
            case rel => exact ⟨k + 1, by omega, by go_num, below_drewN hb _, HR⟩
            case measure => simp [intOf]; omega
          · have HR : Hid (fitsB vars gs nv ls = false) := by show _ = _; rw [HF.out, hs]; simp [hmn]
            have b3 : ((m : Int) != n) = true := by simpa using hmn
            clear hs hmn
            go_wp2_with fail
            go_quiet (fail)
            go_wp2_with fail
            go_ret
            exact ⟨by rw [HR.out]; rfl, below_drewN hbw _⟩
        · have HR : Hid (fitsB vars gs nv ls = true) := by show _ = _; rw [HF.out, fitD_end (by rw [← HNA.out]; omega) hd.out]
          clear hd
          go_wp2
          go_ret
          exact ⟨by rw [HR.out]; rfl, hbw⟩
    · have HF : Hid (fitsB vars gs nv ls = false) := by show _ = _; simp [fitsB, fitsA, ← hna, ← hnl, hn]
      have b2 : ((nl : Int) != (na : Int)) = true := by simp; omega
      clear hna hnl hnv hn hv ha hst
      go_enter Try.func47, Try.ntmps47
      go_wp2
      go_ret
      exact ⟨by rw [HF.out]; rfl, HBB.out _ _⟩
  · have HF : Hid (fitsB vars gs nv ls = false) := by show _ = _; simp [fitsB, hv]
    have b1 : ((nv : Int) != vars) = true := by simpa using hv
    clear hna hnl hnv hv ha hst
    go_enter Try.func47, Try.ntmps47
    go_wp2
    go_ret
    exact ⟨by rw [HF.out]; rfl, HBB.out _ _⟩

/-! sem.reads -/
def readsX : Exs → Bool
  | .nil => false
  | .cons k _ _ args _ rest => (k == 2 || readsX args) || readsX rest
theorem any_reads : ∀ xs : Exs, Exs.any (fun k _ _ args _ => k == 2 || readsX args) xs = readsX xs
  | .nil => rfl
  | .cons k nm n args at_ rest => by simp only [Exs.any, readsX, any_reads rest]
set_option maxHeartbeats 800000 in
theorem reads_one (k : Int) (nm : ByteArray) (n : Int) (at_ : Int) (A : Option Addr) (c l : Nat) (r : Bool) (w : World)
    (hc : ∀ W, Below w.heap.size w W → Calls Try.prog 73 #[.slice A l c, .func (.func 43) #[] #[]] W (BoolPost r W)) :
    Calls Try.prog 43 #[exV k nm n A l c at_] w (BoolPost (k == 2 || r) w) := by
  have HC := Lib.hid hc
  clear hc
  unfold exV
  have hbb : ∀ (c0 : Array Value), Below w.heap.size w (w.alloc (.cells c0 45)) := fun _ => (Below.refl _ _).alloc (Nat.le_refl _) _
  have HBB := Lib.hid hbb
  clear hbb
  cases hk : (k == 2)
  · go_enter Try.func43, Try.ntmps43
    go_wp2_with fail
    refine (HC.out _ (HBB.out _)).mono ?_
    rintro _ w1 ⟨rfl, hb1⟩
    go_wp2_with fail
    go_ret
    exact ⟨by simp, (HBB.out _).trans (hb1.mono (HBB.out _).size)⟩
  · go_enter Try.func43, Try.ntmps43
    go_wp2_with fail
    go_ret
    exact ⟨by simp, HBB.out _⟩
theorem reads_asks (B : Nat) : ∀ (xs : Exs) (w : World), B ≤ w.heap.size → AsksEx 43 #[] w B (fun k _ _ args _ => k == 2 || readsX args) xs
  | .nil, _, _ => fun i _ _ _ _ _ _ hd => by cases i <;> simp [Exs.drop] at hd
  | .cons k nm n args at_ rest, w, hB => fun i k' nm' n' args' at' rest' hd hk hn hat W A c hb hsl => by
    cases i with
    | zero =>
      simp only [Exs.drop] at hd
      injection hd with e1 e2 e3 e4 e5 e6
      subst e1 e2 e3 e4 e5 e6
      rw [Array.append_empty]
      refine reads_one k nm n at_ A c args.len _ W fun W2 hb2 => ?_
      have hB2 : B ≤ W2.heap.size := Nat.le_trans hB (Nat.le_trans hb.size hb2.size)
      have := containsEx (fun k _ _ args _ => k == 2 || readsX args) args A c 43 #[] W2 B hB2 (hsl.keep (Same.of hb2 (Nat.le_trans hB hb.size))) (enters_of Try.func43 (by kernel_rfl) rfl) (reads_asks B args W2 hB2)
      rw [any_reads] at this
      exact this
    | succ i =>
      simp only [Exs.drop] at hd
      exact reads_asks B rest w hB i k' nm' n' args' at' rest' hd hk hn hat W A c hb hsl
/-- THE CONTRACT of sem.reads -/
theorem reads_any (k : Int) (nm : ByteArray) (n : Int) (args : Exs) (at_ : Int) (A : Option Addr) (c B : Nat) (w : World) (hB : B ≤ w.heap.size) (hx : ExSl w B args A c) :
    Calls Try.prog 43 #[exV k nm n A args.len c at_] w (BoolPost (k == 2 || readsX args) w) := by
  refine reads_one k nm n at_ A c args.len _ w fun W2 hb2 => ?_
  have hB2 : B ≤ W2.heap.size := Nat.le_trans hB hb2.size
  have := containsEx (fun k _ _ args _ => k == 2 || readsX args) args A c 43 #[] W2 B hB2 (hx.keep (Same.of hb2 hB)) (enters_of Try.func43 (by kernel_rfl) rfl) (reads_asks B args W2 hB2)
  rw [any_reads] at this
  exact this
end Go.Proofs.Ytjeapacohgfpiaa
