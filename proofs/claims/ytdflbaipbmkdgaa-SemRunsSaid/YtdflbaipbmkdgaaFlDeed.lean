/-
  flow.deed: which deeds may be.
-/
import Derived.Test.YtdflbaipbmkdgaaJnFlE
import Derived.BigRegion
import Derived.Deep.DeepCutAuto
namespace Go.Proofs.Ytdflbaipbmkdgaa
open Go.RowKit Go.Shelf

/-- a deed as a value -/
def doV (k n cmp : Int) (A : Option Addr) (l c : Nat) : Value := .agg #[.int .u8 k, .int .i64 n, .int .u8 cmp, .slice A l c]
def argsD (k : Int) : Int := if k = 3 then 1 else if k = 4 then 2 else if k = 6 then 2 else 0
def mostD (vars arrs k : Int) : Int := if k = 3 then vars else if k = 5 then vars else if k = 4 then arrs else 1
def cmpD (k cmp : Int) : Bool := if k = 6 then decide (3 ≤ cmp) && decide (cmp ≤ 8) else cmp == 0
def headD (vars arrs k n : Int) (l : Nat) : Bool := decide (1 ≤ k) && decide (k ≤ 8) && (decide (0 ≤ n) && decide (n < mostD vars arrs k)) && ((l : Int) == argsD k)
def mayD (vars arrs k n cmp : Int) (args : Exs) : Bool := headD vars arrs k n args.len && cmpD k cmp && mayX vars arrs args

/-- what the two arrays hold -/
def ArrD (w : World) (P Q : Nat) (vars : Int) (na : Nat) : Prop :=
  P < w.heap.size ∧ Q < w.heap.size ∧ ∀ k : Nat, k ≤ 8 → w.cell? ⟨P, k, none⟩ = some (.int .i64 (argsD k)) ∧ w.cell? ⟨Q, k, none⟩ = some (.int .i64 (if k = 0 then 0 else mostD vars na k))

theorem mayD_head {vars arrs k n cmp : Int} {args : Exs} {l : Nat} (hl : l = args.len) (h : headD vars arrs k n l = false) : mayD vars arrs k n cmp args = false := by
  subst hl; simp [mayD, h]
theorem mayD_cmp {vars arrs k n cmp : Int} {args : Exs} (h : cmpD k cmp = false) : mayD vars arrs k n cmp args = false := by
  simp [mayD, h]
theorem mayD_good {vars arrs k n cmp : Int} {args : Exs} {l : Nat} (hl : l = args.len) (h1 : headD vars arrs k n l = true) (h2 : cmpD k cmp = true) : mayD vars arrs k n cmp args = mayX vars arrs args := by
  subst hl; simp [mayD, h1, h2]

set_option maxRecDepth 100000 in
set_option maxHeartbeats 600000 in
theorem deed_any (k : Nat) (n cmp : Int) (args : Exs) (A : Option Addr) (c : Nat) (vars : Int) (Aa : Option Addr) (na ca : Nat) (nodes start last : Int) (Ae : Option Addr) (ne ce B : Nat) (w : World)
    (hB : B ≤ w.heap.size) (hx : ExSl w B args A c) (hk : k ≤ 255) (hcm : in8 cmp) (hna : na ≤ 9223372036854775807) :
    Calls Try.prog 25 #[grV vars Aa na ca nodes start last Ae ne ce, doV k n cmp A args.len c] w (BoolPost (mayD vars na k n cmp args) w) := by
  unfold grV doV
  have hl : args.len ≤ 9223372036854775807 := Nat.le_trans hx.1 hx.2.1
  obtain ⟨l, hll⟩ : ∃ l, l = args.len := ⟨_, rfl⟩
  have HL := Lib.hid hll
  have HX := Lib.hid hx
  rw [← hll] at hl ⊢
  clear hll hx
  go_enter Try.func25, Try.ntmps25
  go_upto_region 1 with fail
  go_cut [5, 6] (fun s5 s6 wx => ∃ P Q : Nat, s5 = .pointer (some ⟨P, 0, none⟩) ∧ s6 = .pointer (some ⟨Q, 0, none⟩) ∧ ArrD wx P Q vars na ∧ Below w.heap.size w wx ∧ w.heap.size + 1 < wx.heap.size ∧
    wx.cell? ⟨w.heap.size, 0, none⟩ = some (.int .i64 vars) ∧ wx.cell? ⟨w.heap.size, 1, none⟩ = some (.slice Aa na ca) ∧ wx.cell? ⟨w.heap.size, 2, none⟩ = some (.int .i64 nodes) ∧ wx.cell? ⟨w.heap.size, 3, none⟩ = some (.int .i64 start) ∧
    wx.cell? ⟨w.heap.size, 4, none⟩ = some (.int .i64 last) ∧ wx.cell? ⟨w.heap.size, 5, none⟩ = some (.slice Ae ne ce) ∧
    wx.cell? ⟨w.heap.size + 1, 0, none⟩ = some (.int .u8 k) ∧ wx.cell? ⟨w.heap.size + 1, 1, none⟩ = some (.int .i64 n) ∧ wx.cell? ⟨w.heap.size + 1, 2, none⟩ = some (.int .u8 cmp) ∧ wx.cell? ⟨w.heap.size + 1, 3, none⟩ = some (.slice A l c))
  case first =>
    go_region
    all_goals
      go_wp2_with fail
      go_meet
      refine ⟨_, _, rfl, rfl, ⟨by simp <;> omega, by simp <;> omega, ?_⟩, ?_, by simp <;> omega, (cells4 w _ _ _ _ _ _ _ _ 0).1, (cells4 w _ _ _ _ _ _ _ _ 1).1, (cells4 w _ _ _ _ _ _ _ _ 2).1, (cells4 w _ _ _ _ _ _ _ _ 3).1, (cells4 w _ _ _ _ _ _ _ _ 4).1, (cells4 w _ _ _ _ _ _ _ _ 5).1, (cells4 w _ _ _ _ _ _ _ _ 0).2.1, (cells4 w _ _ _ _ _ _ _ _ 1).2.1, (cells4 w _ _ _ _ _ _ _ _ 2).2.1, (cells4 w _ _ _ _ _ _ _ _ 3).2.1⟩
      · intro j hj
        have hj' : j = 0 ∨ j = 1 ∨ j = 2 ∨ j = 3 ∨ j = 4 ∨ j = 5 ∨ j = 6 ∨ j = 7 ∨ j = 8 := by omega
        rcases hj' with rfl | rfl | rfl | rfl | rfl | rfl | rfl | rfl | rfl
        all_goals first | exact ⟨(cells4 w _ _ _ _ _ _ _ _ _).2.2.1, (cells4 w _ _ _ _ _ _ _ _ _).2.2.2⟩ | exact ⟨(cells4 w _ _ _ _ _ _ _ _ _).2.2.2, (cells4 w _ _ _ _ _ _ _ _ _).2.2.1⟩
      · exact (((((Below.refl _ _).alloc (Nat.le_refl _) _).alloc (by simp) _).alloc (by simp <;> omega) _).alloc (by simp <;> omega) _).drew
  case rest =>
    obtain ⟨P, Q, rfl, rfl, ⟨hP, hQ, hPQ⟩, hbw, hsz, g0, g1, g2, g3, g4, g5, d0, d1, d2, d3⟩ := hcut
    by_cases k0 : k = 0
    · have HF := Lib.hid (mayD_head (vars := vars) (arrs := na) (k := k) (n := n) (cmp := cmp) HL.out (by subst k0; simp [headD]))
      subst k0
      clear hPQ
      go_wp2_with fail
      go_quiet (fail)
      go_wp2_with fail
      go_ret
      exact ⟨by rw [HF.out]; rfl, below_drewN hbw _⟩
    by_cases k8 : 8 < k
    · have HF := Lib.hid (mayD_head (vars := vars) (arrs := na) (k := k) (n := n) (cmp := cmp) HL.out (by simp [headD, show ¬ (k : Int) ≤ 8 from by omega]))
      have k1 : decide ((k : Int) < 1) = false := by simp; omega
      have k8' : decide (8 < (k : Int)) = true := by simp; omega
      clear hPQ k0 k8
      go_wp2_with fail
      go_quiet (fail)
      go_wp2_with fail
      go_ret
      exact ⟨by rw [HF.out]; rfl, below_drewN hbw _⟩
    obtain ⟨p0, q0⟩ := hPQ k (by omega)
    rw [if_neg k0] at q0
    have k1' : decide ((k : Int) < 1) = false := by simp; omega
    have k8' : decide (8 < (k : Int)) = false := by simp; omega
    have hk1 : decide (1 ≤ (k : Int)) = true := by simp; omega
    have hk8 : decide ((k : Int) ≤ 8) = true := by simp; omega
    obtain ⟨mo, hmo⟩ : ∃ m, m = mostD vars na k := ⟨_, rfl⟩
    obtain ⟨ar, har⟩ : ∃ m, m = argsD k := ⟨_, rfl⟩
    rw [← hmo] at q0
    rw [← har] at p0
    have HHD : Hid (headD vars na k n l = ((decide (0 ≤ n) && decide (n < mo)) && ((l : Int) == ar))) := by show _ = _; rw [headD, hk1, hk8, ← hmo, ← har]; simp
    clear hmo har hk1 hk8 hPQ
    by_cases hb0 : (decide (0 ≤ n) && decide (n < mo)) = true
    · by_cases ha0 : ((l : Int) == ar) = true
      · have HH := Lib.hid (show headD vars na k n l = true from by rw [HHD.out, hb0, ha0]; rfl)
        go_wp2_with fail
        go_quiet ((go_at_call 20; exact quiet_left (below_any _ _ _)))
        by_cases k6 : k = 6
        · subst k6
          by_cases c3 : cmp < 3
          · have HF := Lib.hid (mayD_cmp (vars := vars) (arrs := na) (n := n) (args := args) (show cmpD ((6 : Nat) : Int) cmp = false from by simp [cmpD]; omega))
            have c3' : decide (cmp < 3) = true := by simp; omega
            clear c3
            go_wp2_with fail
            go_ret
            exact ⟨by rw [HF.out]; rfl, below_drewN hbw _⟩
          by_cases c8 : 8 < cmp
          · have HF := Lib.hid (mayD_cmp (vars := vars) (arrs := na) (n := n) (args := args) (show cmpD ((6 : Nat) : Int) cmp = false from by simp [cmpD]; omega))
            have c3' : decide (cmp < 3) = false := by simp; omega
            have c8' : decide (8 < cmp) = true := by simp; omega
            clear c3 c8
            go_wp2_with fail
            go_ret
            exact ⟨by rw [HF.out]; rfl, below_drewN hbw _⟩
          have HF := Lib.hid (mayD_good HL.out HH.out (show cmpD ((6 : Nat) : Int) cmp = true from by simp [cmpD]; omega))
          have c3' : decide (cmp < 3) = false := by simp; omega
          have c8' : decide (8 < cmp) = false := by simp; omega
          clear c3 c8
          go_wp2_with fail
          refine (expr_any vars Aa na ca nodes start last Ae ne ce _).mono ?_
          rintro e w1 ⟨G, M, rfl, hm, hb1⟩
          have hb2 : Below w.heap.size w w1 := (below_drewN hbw _).trans (hb1.mono hbw.size)
          have d3' : w1.cell? ⟨w.heap.size + 1, 3, none⟩ = some (.slice A l c) := (hb1.cell (p := ⟨w.heap.size + 1, 3, none⟩) hsz).trans d3
          have hsz1 : w.heap.size + 1 < w1.heap.size := Nat.lt_of_lt_of_le hsz hb1.size
          have HM := Lib.hid hm
          have HB2 := Lib.hid hb2
          clear hb1 hbw hm hb2 g0 g1 g2 g3 g4 g5 d0 d1 d2 d3 hP hQ p0 q0
          go_wp2_with fail
          rw [HL.out]
          have hbW : Below w1.heap.size w1 (w1.alloc (.cells #[.func (.func 56) #[] #[.pointer (some ⟨G, 0, none⟩), .pointer (some ⟨M, 0, none⟩)]] 91)) := (Below.refl _ _).alloc (Nat.le_refl _) _
          have hbT := HB2.out.trans (hbW.mono HB2.out.size)
          refine (containsEx (fun k _ n args _ => !(mayK vars na k n args.len && mayX vars na args)) args A c 46 #[.pointer (some ⟨w1.heap.size, 0, none⟩)] _ B (Nat.le_trans hB hbT.size) (HX.out.keep (Same.of hbT hB)) (enters_of Try.func46 (by kernel_rfl) rfl)
            (deednot_asks vars na Aa ca G M w1.heap.size B hna args _ (Nat.le_trans hB hbT.size) (HM.out.keep hbW) (newCell w1 _ _ 0) (by simp))).mono ?_
          rw [any_not_may]
          rintro e w2 ⟨rfl, hb3⟩
          go_wp2_with fail
          go_ret
          exact ⟨by rw [HF.out]; simp, hbT.trans (hb3.mono hbT.size)⟩
        · have b6 : ((k : Int) == 6) = false := by simp; omega
          have b6' : ((k : Int) != 6) = true := by simp; omega
          have k6' : ¬ (k : Int) = 6 := by omega
          by_cases c0 : cmp = 0
          · subst c0
            have HF := Lib.hid (mayD_good HL.out HH.out (show cmpD (k : Int) 0 = true from by simp [cmpD, k6']))
            clear k6 k6'
            go_wp2_with fail
            refine (expr_any vars Aa na ca nodes start last Ae ne ce _).mono ?_
            rintro e w1 ⟨G, M, rfl, hm, hb1⟩
            have hb2 : Below w.heap.size w w1 := (below_drewN hbw _).trans (hb1.mono hbw.size)
            have d3' : w1.cell? ⟨w.heap.size + 1, 3, none⟩ = some (.slice A l c) := (hb1.cell (p := ⟨w.heap.size + 1, 3, none⟩) hsz).trans d3
            have hsz1 : w.heap.size + 1 < w1.heap.size := Nat.lt_of_lt_of_le hsz hb1.size
            have HM := Lib.hid hm
            have HB2 := Lib.hid hb2
            clear hb1 hbw hm hb2 g0 g1 g2 g3 g4 g5 d0 d1 d2 d3 hP hQ p0 q0
            go_wp2_with fail
            rw [HL.out]
            have hbW : Below w1.heap.size w1 (w1.alloc (.cells #[.func (.func 56) #[] #[.pointer (some ⟨G, 0, none⟩), .pointer (some ⟨M, 0, none⟩)]] 91)) := (Below.refl _ _).alloc (Nat.le_refl _) _
            have hbT := HB2.out.trans (hbW.mono HB2.out.size)
            refine (containsEx (fun k _ n args _ => !(mayK vars na k n args.len && mayX vars na args)) args A c 46 #[.pointer (some ⟨w1.heap.size, 0, none⟩)] _ B (Nat.le_trans hB hbT.size) (HX.out.keep (Same.of hbT hB)) (enters_of Try.func46 (by kernel_rfl) rfl)
              (deednot_asks vars na Aa ca G M w1.heap.size B hna args _ (Nat.le_trans hB hbT.size) (HM.out.keep hbW) (newCell w1 _ _ 0) (by simp))).mono ?_
            rw [any_not_may]
            rintro e w2 ⟨rfl, hb3⟩
            go_wp2_with fail
            go_ret
            exact ⟨by rw [HF.out]; simp, hbT.trans (hb3.mono hbT.size)⟩
          · have HF := Lib.hid (mayD_cmp (vars := vars) (arrs := na) (n := n) (args := args) (show cmpD (k : Int) cmp = false from by simp [cmpD, k6', c0]))
            have c0' : (cmp == 0) = false := by simpa using c0
            have c1' : (cmp != 0) = true := by simpa using c0
            clear k6 k6' c0
            go_wp2_with fail
            go_ret
            exact ⟨by rw [HF.out]; rfl, below_drewN hbw _⟩
      · have ha : ((l : Int) == ar) = false := by simpa using ha0
        have HF := Lib.hid (mayD_head (cmp := cmp) HL.out (show headD vars na k n l = false from by rw [HHD.out, ha]; simp))
        clear ha0
        go_wp2_with fail
        go_quiet ((go_at_call 20; exact quiet_left (below_any _ _ _)))
        go_wp2_with fail
        go_ret
        exact ⟨by rw [HF.out]; rfl, below_drewN hbw _⟩
    · have hb1 : (decide (0 ≤ n) && decide (n < mo)) = false := by simpa using hb0
      have HF := Lib.hid (mayD_head (cmp := cmp) HL.out (show headD vars na k n l = false from by rw [HHD.out, hb1]; simp))
      clear hb0
      go_wp2_with fail
      go_quiet ((go_at_call 20; exact quiet_left (below_any _ _ _)))
      go_wp2_with fail
      go_ret
      exact ⟨by rw [HF.out]; rfl, below_drewN hbw _⟩
end Go.Proofs.Ytdflbaipbmkdgaa
