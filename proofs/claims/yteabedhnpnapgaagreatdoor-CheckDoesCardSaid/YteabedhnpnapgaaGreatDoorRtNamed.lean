/-
  ref11: named.
-/
import Derived.Test.YteabedhnpnapgaaGreatDoorJnRtX
import Derived.Deep.RegionHeld2
namespace Go.Proofs.YteabedhnpnapgaaGreatDoor
open Go.RowKit Go.Shelf
set_option linter.unusedVariables false
set_option linter.unusedSimpArgs false

def mnI (nm : ByteArray) (ws : Wl) : Int := ((fdW nm ws).getD (0, 0)).2
/-- what is wrong with a statement's name -/
def nmdI (ws : Wl) (k : Int) (nm : ByteArray) (na : Int) : Int :=
  if k = 2 ∨ k = 4 then isI nm 1 ws else if k = 3 then isI nm 2 ws else if k = 9 then (if isI nm 3 ws = 0 ∧ mnI nm ws ≠ na then 114 else isI nm 3 ws) else 0
set_option maxRecDepth 100000 in
set_option maxHeartbeats 3200000 in
theorem rnamed_no (ws : Wl) (k : Int) (hk : k ≠ 2 ∧ k ≠ 4 ∧ k ≠ 3 ∧ k ≠ 9) (nm : ByteArray) (A2 A3 A4 A5 : Option Addr) (l2 l3 l4 l5 q2 q3 q4 q5 : Nat) (at_ : Int) (w : World) (An Ak Am : Option Addr) (cn ck cm : Nat) (hl2 : l2 ≤ 9223372036854775807) (hw : WdR w ws An Ak Am cn ck cm) :
    Calls Tryz.prog 50 #[wdV ws An Ak Am cn ck cm, .agg #[.int .u8 k, .string nm, .slice A2 l2 q2, .slice A3 l3 q3, .slice A4 l4 q4, .slice A5 l5 q5, .int .i64 at_]] w (IntPost (nmdI ws k nm l2) w) := by
  have h1 := fun (W : World) (kind : Int) (hf : Fr NoT w W) => ris_any ws nm kind W An Ak Am cn ck cm (hw.keep hf)
  have h0 := fun (W : World) (hf : Fr NoT w W) => rat_any ws nm W An Ak Am cn ck cm (hw.keep hf)
  have hlw : ws.length ≤ 9223372036854775807 := by have := hw.names.1; have := hw.names.2.1; simp at *; omega
  obtain ⟨R, hR⟩ : ∃ R, R = nmdI ws k nm l2 := ⟨_, rfl⟩
  rw [← hR]
  unfold nmdI at hR
  unfold wdV at h0 h1 ⊢
  obtain ⟨m, hm⟩ : ∃ m, m = ws.length := ⟨_, rfl⟩
  rw [← hm] at h0 h1 hlw ⊢
  have HM := Lib.hid hm
  have HWD := Lib.hid hw
  obtain ⟨w1, hw1⟩ : ∃ w1, w1 = (w.alloc (.cells #[.slice An m cn, .slice Ak m ck, .slice Am m cm] 63)).alloc (.cells #[.int .u8 k, .string nm, .slice A2 l2 q2, .slice A3 l3 q3, .slice A4 l4 q4, .slice A5 l5 q5, .int .i64 at_] 72) := ⟨_, rfl⟩
  have HK1 := Lib.hid (show Bk w1 w.heap.size 63 #[.slice An m cn, .slice Ak m ck, .slice Am m cm] from by rw [hw1]; exact (Bk.new _ _ _).fr0 ((Fr.refl _ _).alloc _))
  have HK2 := Lib.hid (show Bk w1 (w.heap.size + 1) 72 #[.int .u8 k, .string nm, .slice A2 l2 q2, .slice A3 l3 q3, .slice A4 l4 q4, .slice A5 l5 q5, .int .i64 at_] from by rw [hw1]; have := Bk.new (w.alloc (.cells #[.slice An m cn, .slice Ak m ck, .slice Am m cm] 63)) 72 #[.int .u8 k, .string nm, .slice A2 l2 q2, .slice A3 l3 q3, .slice A4 l4 q4, .slice A5 l5 q5, .int .i64 at_]; simpa using this)
  have HF1 := Lib.hid (show Fr NoT w w1 from by rw [hw1]; exact ((Fr.refl _ _).alloc _).alloc _)
  have HW1 := Lib.hid hw1
  have H1 := Lib.hid h1
  have H0 := Lib.hid h0
  clear hw h1 h0 hm hw1
  have HR := Lib.hid (show R = 0 from by rw [hR, if_neg (by omega), if_neg hk.2.2.1, if_neg hk.2.2.2])
  have g2 : (k == 2) = false := by simpa using hk.1
  have g4 : (k == 4) = false := by simpa using hk.2.1
  have g3 : (k == 3) = false := by simpa using hk.2.2.1
  have g9 : (k == 9) = false := by simpa using hk.2.2.2
  clear hR hk
  go_enter Tryz.func50, Tryz.ntmps50
  go_wp2_with fail
  rw [← HW1.out]
  go_ret
  exact ⟨by rw [HR.out]; rfl, HF1.out⟩
set_option maxRecDepth 100000 in
set_option maxHeartbeats 3200000 in
theorem rnamed_k2 (ws : Wl) (k : Int) (hk : k = 2) (nm : ByteArray) (A2 A3 A4 A5 : Option Addr) (l2 l3 l4 l5 q2 q3 q4 q5 : Nat) (at_ : Int) (w : World) (An Ak Am : Option Addr) (cn ck cm : Nat) (hl2 : l2 ≤ 9223372036854775807) (hw : WdR w ws An Ak Am cn ck cm) :
    Calls Tryz.prog 50 #[wdV ws An Ak Am cn ck cm, .agg #[.int .u8 k, .string nm, .slice A2 l2 q2, .slice A3 l3 q3, .slice A4 l4 q4, .slice A5 l5 q5, .int .i64 at_]] w (IntPost (nmdI ws k nm l2) w) := by
  have h1 := fun (W : World) (kind : Int) (hf : Fr NoT w W) => ris_any ws nm kind W An Ak Am cn ck cm (hw.keep hf)
  have h0 := fun (W : World) (hf : Fr NoT w W) => rat_any ws nm W An Ak Am cn ck cm (hw.keep hf)
  have hlw : ws.length ≤ 9223372036854775807 := by have := hw.names.1; have := hw.names.2.1; simp at *; omega
  obtain ⟨R, hR⟩ : ∃ R, R = nmdI ws k nm l2 := ⟨_, rfl⟩
  rw [← hR]
  unfold nmdI at hR
  unfold wdV at h0 h1 ⊢
  obtain ⟨m, hm⟩ : ∃ m, m = ws.length := ⟨_, rfl⟩
  rw [← hm] at h0 h1 hlw ⊢
  have HM := Lib.hid hm
  have HWD := Lib.hid hw
  obtain ⟨w1, hw1⟩ : ∃ w1, w1 = (w.alloc (.cells #[.slice An m cn, .slice Ak m ck, .slice Am m cm] 63)).alloc (.cells #[.int .u8 k, .string nm, .slice A2 l2 q2, .slice A3 l3 q3, .slice A4 l4 q4, .slice A5 l5 q5, .int .i64 at_] 72) := ⟨_, rfl⟩
  have HK1 := Lib.hid (show Bk w1 w.heap.size 63 #[.slice An m cn, .slice Ak m ck, .slice Am m cm] from by rw [hw1]; exact (Bk.new _ _ _).fr0 ((Fr.refl _ _).alloc _))
  have HK2 := Lib.hid (show Bk w1 (w.heap.size + 1) 72 #[.int .u8 k, .string nm, .slice A2 l2 q2, .slice A3 l3 q3, .slice A4 l4 q4, .slice A5 l5 q5, .int .i64 at_] from by rw [hw1]; have := Bk.new (w.alloc (.cells #[.slice An m cn, .slice Ak m ck, .slice Am m cm] 63)) 72 #[.int .u8 k, .string nm, .slice A2 l2 q2, .slice A3 l3 q3, .slice A4 l4 q4, .slice A5 l5 q5, .int .i64 at_]; simpa using this)
  have HF1 := Lib.hid (show Fr NoT w w1 from by rw [hw1]; exact ((Fr.refl _ _).alloc _).alloc _)
  have HW1 := Lib.hid hw1
  have H1 := Lib.hid h1
  have H0 := Lib.hid h0
  clear hw h1 h0 hm hw1
  subst hk
  rw [if_pos (.inl rfl)] at hR
  obtain ⟨v, hv⟩ : ∃ v, v = isI nm 1 ws := ⟨_, rfl⟩
  have h := fun W (hf : Fr NoT w W) => H1.out W 1 hf
  rw [← hv] at h hR
  have HI := Lib.hid h
  have HR := Lib.hid hR
  clear h hv H1 hR
  go_enter Tryz.func50, Tryz.ntmps50
  go_wp2_with fail
  rw [← HW1.out]
  refine (HI.out _ HF1.out).mono ?_
  rintro _ w2 ⟨rfl, hb⟩
  have HF2 := Lib.hid (HF1.out.trans hb)
  clear hb
  go_wp2_with fail
  go_ret
  exact ⟨by rw [HR.out]; rfl, HF2.out⟩
set_option maxRecDepth 100000 in
set_option maxHeartbeats 3200000 in
theorem rnamed_k4 (ws : Wl) (k : Int) (hk : k = 4) (nm : ByteArray) (A2 A3 A4 A5 : Option Addr) (l2 l3 l4 l5 q2 q3 q4 q5 : Nat) (at_ : Int) (w : World) (An Ak Am : Option Addr) (cn ck cm : Nat) (hl2 : l2 ≤ 9223372036854775807) (hw : WdR w ws An Ak Am cn ck cm) :
    Calls Tryz.prog 50 #[wdV ws An Ak Am cn ck cm, .agg #[.int .u8 k, .string nm, .slice A2 l2 q2, .slice A3 l3 q3, .slice A4 l4 q4, .slice A5 l5 q5, .int .i64 at_]] w (IntPost (nmdI ws k nm l2) w) := by
  have h1 := fun (W : World) (kind : Int) (hf : Fr NoT w W) => ris_any ws nm kind W An Ak Am cn ck cm (hw.keep hf)
  have h0 := fun (W : World) (hf : Fr NoT w W) => rat_any ws nm W An Ak Am cn ck cm (hw.keep hf)
  have hlw : ws.length ≤ 9223372036854775807 := by have := hw.names.1; have := hw.names.2.1; simp at *; omega
  obtain ⟨R, hR⟩ : ∃ R, R = nmdI ws k nm l2 := ⟨_, rfl⟩
  rw [← hR]
  unfold nmdI at hR
  unfold wdV at h0 h1 ⊢
  obtain ⟨m, hm⟩ : ∃ m, m = ws.length := ⟨_, rfl⟩
  rw [← hm] at h0 h1 hlw ⊢
  have HM := Lib.hid hm
  have HWD := Lib.hid hw
  obtain ⟨w1, hw1⟩ : ∃ w1, w1 = (w.alloc (.cells #[.slice An m cn, .slice Ak m ck, .slice Am m cm] 63)).alloc (.cells #[.int .u8 k, .string nm, .slice A2 l2 q2, .slice A3 l3 q3, .slice A4 l4 q4, .slice A5 l5 q5, .int .i64 at_] 72) := ⟨_, rfl⟩
  have HK1 := Lib.hid (show Bk w1 w.heap.size 63 #[.slice An m cn, .slice Ak m ck, .slice Am m cm] from by rw [hw1]; exact (Bk.new _ _ _).fr0 ((Fr.refl _ _).alloc _))
  have HK2 := Lib.hid (show Bk w1 (w.heap.size + 1) 72 #[.int .u8 k, .string nm, .slice A2 l2 q2, .slice A3 l3 q3, .slice A4 l4 q4, .slice A5 l5 q5, .int .i64 at_] from by rw [hw1]; have := Bk.new (w.alloc (.cells #[.slice An m cn, .slice Ak m ck, .slice Am m cm] 63)) 72 #[.int .u8 k, .string nm, .slice A2 l2 q2, .slice A3 l3 q3, .slice A4 l4 q4, .slice A5 l5 q5, .int .i64 at_]; simpa using this)
  have HF1 := Lib.hid (show Fr NoT w w1 from by rw [hw1]; exact ((Fr.refl _ _).alloc _).alloc _)
  have HW1 := Lib.hid hw1
  have H1 := Lib.hid h1
  have H0 := Lib.hid h0
  clear hw h1 h0 hm hw1
  subst hk
  rw [if_pos (.inr rfl)] at hR
  obtain ⟨v, hv⟩ : ∃ v, v = isI nm 1 ws := ⟨_, rfl⟩
  have h := fun W (hf : Fr NoT w W) => H1.out W 1 hf
  rw [← hv] at h hR
  have HI := Lib.hid h
  have HR := Lib.hid hR
  clear h hv H1 hR
  go_enter Tryz.func50, Tryz.ntmps50
  go_wp2_with fail
  rw [← HW1.out]
  refine (HI.out _ HF1.out).mono ?_
  rintro _ w2 ⟨rfl, hb⟩
  have HF2 := Lib.hid (HF1.out.trans hb)
  clear hb
  go_wp2_with fail
  go_ret
  exact ⟨by rw [HR.out]; rfl, HF2.out⟩
set_option maxRecDepth 100000 in
set_option maxHeartbeats 3200000 in
theorem rnamed_k3 (ws : Wl) (k : Int) (hk : k = 3) (nm : ByteArray) (A2 A3 A4 A5 : Option Addr) (l2 l3 l4 l5 q2 q3 q4 q5 : Nat) (at_ : Int) (w : World) (An Ak Am : Option Addr) (cn ck cm : Nat) (hl2 : l2 ≤ 9223372036854775807) (hw : WdR w ws An Ak Am cn ck cm) :
    Calls Tryz.prog 50 #[wdV ws An Ak Am cn ck cm, .agg #[.int .u8 k, .string nm, .slice A2 l2 q2, .slice A3 l3 q3, .slice A4 l4 q4, .slice A5 l5 q5, .int .i64 at_]] w (IntPost (nmdI ws k nm l2) w) := by
  have h1 := fun (W : World) (kind : Int) (hf : Fr NoT w W) => ris_any ws nm kind W An Ak Am cn ck cm (hw.keep hf)
  have h0 := fun (W : World) (hf : Fr NoT w W) => rat_any ws nm W An Ak Am cn ck cm (hw.keep hf)
  have hlw : ws.length ≤ 9223372036854775807 := by have := hw.names.1; have := hw.names.2.1; simp at *; omega
  obtain ⟨R, hR⟩ : ∃ R, R = nmdI ws k nm l2 := ⟨_, rfl⟩
  rw [← hR]
  unfold nmdI at hR
  unfold wdV at h0 h1 ⊢
  obtain ⟨m, hm⟩ : ∃ m, m = ws.length := ⟨_, rfl⟩
  rw [← hm] at h0 h1 hlw ⊢
  have HM := Lib.hid hm
  have HWD := Lib.hid hw
  obtain ⟨w1, hw1⟩ : ∃ w1, w1 = (w.alloc (.cells #[.slice An m cn, .slice Ak m ck, .slice Am m cm] 63)).alloc (.cells #[.int .u8 k, .string nm, .slice A2 l2 q2, .slice A3 l3 q3, .slice A4 l4 q4, .slice A5 l5 q5, .int .i64 at_] 72) := ⟨_, rfl⟩
  have HK1 := Lib.hid (show Bk w1 w.heap.size 63 #[.slice An m cn, .slice Ak m ck, .slice Am m cm] from by rw [hw1]; exact (Bk.new _ _ _).fr0 ((Fr.refl _ _).alloc _))
  have HK2 := Lib.hid (show Bk w1 (w.heap.size + 1) 72 #[.int .u8 k, .string nm, .slice A2 l2 q2, .slice A3 l3 q3, .slice A4 l4 q4, .slice A5 l5 q5, .int .i64 at_] from by rw [hw1]; have := Bk.new (w.alloc (.cells #[.slice An m cn, .slice Ak m ck, .slice Am m cm] 63)) 72 #[.int .u8 k, .string nm, .slice A2 l2 q2, .slice A3 l3 q3, .slice A4 l4 q4, .slice A5 l5 q5, .int .i64 at_]; simpa using this)
  have HF1 := Lib.hid (show Fr NoT w w1 from by rw [hw1]; exact ((Fr.refl _ _).alloc _).alloc _)
  have HW1 := Lib.hid hw1
  have H1 := Lib.hid h1
  have H0 := Lib.hid h0
  clear hw h1 h0 hm hw1
  subst hk
  rw [if_neg (by decide), if_pos rfl] at hR
  obtain ⟨v, hv⟩ : ∃ v, v = isI nm 2 ws := ⟨_, rfl⟩
  have h := fun W (hf : Fr NoT w W) => H1.out W 2 hf
  rw [← hv] at h hR
  have HI := Lib.hid h
  have HR := Lib.hid hR
  clear h hv H1 hR
  go_enter Tryz.func50, Tryz.ntmps50
  go_wp2_with fail
  rw [← HW1.out]
  refine (HI.out _ HF1.out).mono ?_
  rintro _ w2 ⟨rfl, hb⟩
  have HF2 := Lib.hid (HF1.out.trans hb)
  clear hb
  go_wp2_with fail
  go_ret
  exact ⟨by rw [HR.out]; rfl, HF2.out⟩
set_option maxRecDepth 100000 in
set_option maxHeartbeats 3200000 in
theorem rnamed_k9 (ws : Wl) (k : Int) (hk : k = 9) (nm : ByteArray) (A2 A3 A4 A5 : Option Addr) (l2 l3 l4 l5 q2 q3 q4 q5 : Nat) (at_ : Int) (w : World) (An Ak Am : Option Addr) (cn ck cm : Nat) (hl2 : l2 ≤ 9223372036854775807) (hw : WdR w ws An Ak Am cn ck cm) :
    Calls Tryz.prog 50 #[wdV ws An Ak Am cn ck cm, .agg #[.int .u8 k, .string nm, .slice A2 l2 q2, .slice A3 l3 q3, .slice A4 l4 q4, .slice A5 l5 q5, .int .i64 at_]] w (IntPost (nmdI ws k nm l2) w) := by
  have h1 := fun (W : World) (kind : Int) (hf : Fr NoT w W) => ris_any ws nm kind W An Ak Am cn ck cm (hw.keep hf)
  have h0 := fun (W : World) (hf : Fr NoT w W) => rat_any ws nm W An Ak Am cn ck cm (hw.keep hf)
  have hlw : ws.length ≤ 9223372036854775807 := by have := hw.names.1; have := hw.names.2.1; simp at *; omega
  obtain ⟨R, hR⟩ : ∃ R, R = nmdI ws k nm l2 := ⟨_, rfl⟩
  rw [← hR]
  unfold nmdI at hR
  unfold wdV at h0 h1 ⊢
  obtain ⟨m, hm⟩ : ∃ m, m = ws.length := ⟨_, rfl⟩
  rw [← hm] at h0 h1 hlw ⊢
  have HM := Lib.hid hm
  have HWD := Lib.hid hw
  obtain ⟨w1, hw1⟩ : ∃ w1, w1 = (w.alloc (.cells #[.slice An m cn, .slice Ak m ck, .slice Am m cm] 63)).alloc (.cells #[.int .u8 k, .string nm, .slice A2 l2 q2, .slice A3 l3 q3, .slice A4 l4 q4, .slice A5 l5 q5, .int .i64 at_] 72) := ⟨_, rfl⟩
  have HK1 := Lib.hid (show Bk w1 w.heap.size 63 #[.slice An m cn, .slice Ak m ck, .slice Am m cm] from by rw [hw1]; exact (Bk.new _ _ _).fr0 ((Fr.refl _ _).alloc _))
  have HK2 := Lib.hid (show Bk w1 (w.heap.size + 1) 72 #[.int .u8 k, .string nm, .slice A2 l2 q2, .slice A3 l3 q3, .slice A4 l4 q4, .slice A5 l5 q5, .int .i64 at_] from by rw [hw1]; have := Bk.new (w.alloc (.cells #[.slice An m cn, .slice Ak m ck, .slice Am m cm] 63)) 72 #[.int .u8 k, .string nm, .slice A2 l2 q2, .slice A3 l3 q3, .slice A4 l4 q4, .slice A5 l5 q5, .int .i64 at_]; simpa using this)
  have HF1 := Lib.hid (show Fr NoT w w1 from by rw [hw1]; exact ((Fr.refl _ _).alloc _).alloc _)
  have HW1 := Lib.hid hw1
  have H1 := Lib.hid h1
  have H0 := Lib.hid h0
  clear hw h1 h0 hm hw1
  subst hk
  rw [if_neg (by decide), if_neg (by decide), if_pos rfl] at hR
  obtain ⟨v, hv⟩ : ∃ v, v = isI nm 3 ws := ⟨_, rfl⟩
  have h := fun W (hf : Fr NoT w W) => H1.out W 3 hf
  rw [← hv] at h hR
  have HI := Lib.hid h
  clear h H1
  by_cases hv0 : v = 0
  rotate_left
  · rw [if_neg (fun h => hv0 h.1)] at hR
    have HR := Lib.hid hR
    have e1 : (v == 0) = false := by simpa using hv0
    clear hR hv0 hv
    go_enter Tryz.func50, Tryz.ntmps50
    go_wp2_with fail
    rw [← HW1.out]
    refine (HI.out _ HF1.out).mono ?_
    rintro _ w2 ⟨rfl, hb⟩
    have hk1 := HK1.out.fr0 hb
    have hk2 := HK2.out.fr0 hb
    have HF2 := Lib.hid (HF1.out.trans hb)
    have a0 := hk1.cell 0
    have a1 := hk1.cell 1
    have a2 := hk1.cell 2
    have b0 := hk2.cell 0
    have b1 := hk2.cell 1
    have b2 := hk2.cell 2
    have y1 := hk1.lt
    have y2 := hk2.lt
    simp only [List.getElem?_toArray, List.getElem?_cons_succ, List.getElem?_cons_zero] at a0 a1 a2 b0 b1 b2
    have HK3 := Lib.hid hk1
    have HK4 := Lib.hid hk2
    clear hb hk1 hk2
    go_wp2_with fail
    go_quiet (fail)
    go_wp2_with fail
    go_ret
    exact ⟨by rw [HR.out]; rfl, HF2.out.drewN _⟩
  · subst hv0
    have hs := at_split nm ws 0
    rcases hs with ⟨e1, e2⟩ | ⟨i, x, e1, e2, e3⟩
    · exfalso
      unfold isI at hv
      rw [e1] at hv
      exact absurd hv (by decide)
    rw [Nat.zero_add] at e1
    have h0 := H0.out
    rw [e1] at h0
    have H0' := Lib.hid h0
    have hmn : mnI nm ws = x.2.2 := by unfold mnI; rw [e3]; rfl
    rw [hmn] at hR
    have hi : i < m := by rw [HM.out]; exact (List.getElem?_eq_some_iff.1 e2).1
    obtain ⟨b, hAm, hbs, hat⟩ := HWD.out.many.2.2 (by simp; rw [← HM.out]; omega)
    have c1 := hat i (.int .i64 x.2.2) (by rw [List.getElem?_map, e2]; rfl)
    subst hAm
    obtain ⟨x0, x1, x2⟩ := x
    simp only at c1 hR
    have HC := Lib.hid (And.intro hbs c1)
    have hi' : (i : Int) < (m : Int) := by omega
    have hge : (0 : Int) ≤ (i : Int) := by omega
    have hcase : (x2 = l2 ∧ R = 0) ∨ (x2 ≠ l2 ∧ R = 114) := by
      by_cases h : x2 = l2
      · exact .inl ⟨h, by rw [hR, if_neg (fun h2 => h2.2 h)]⟩
      · exact .inr ⟨h, by rw [hR, if_pos (by simp [h])]⟩
    clear hR hv e1 e2 e3 hmn hbs hat c1 h0 H0
    rcases hcase with ⟨h, hR⟩ | ⟨h, hR⟩
    case' inl => have g1 : (x2 != (l2 : Int)) = false := by simpa using h
    case' inr => have g1 : (x2 != (l2 : Int)) = true := by simpa using h
    all_goals
      have HR := Lib.hid hR
      clear hR h
      go_enter Tryz.func50, Tryz.ntmps50
      go_wp2_with fail
      rw [← HW1.out]
      refine (HI.out _ HF1.out).mono ?_
      rintro _ w2 ⟨rfl, hb⟩
      have hk1 := HK1.out.fr0 hb
      have hk2 := HK2.out.fr0 hb
      have HF2 := Lib.hid (HF1.out.trans hb)
      have a0 := hk1.cell 0
      have a1 := hk1.cell 1
      have a2 := hk1.cell 2
      have b0 := hk2.cell 0
      have b1 := hk2.cell 1
      have b2 := hk2.cell 2
      have y1 := hk1.lt
      have y2 := hk2.lt
      simp only [List.getElem?_toArray, List.getElem?_cons_succ, List.getElem?_cons_zero] at a0 a1 a2 b0 b1 b2
      have HK3 := Lib.hid hk1
      have HK4 := Lib.hid hk2
      clear hb hk1 hk2
      have d1 := (HF2.out.cell (p := ⟨b, i, none⟩) HC.out.1 id).trans HC.out.2
      have dx := Nat.lt_of_lt_of_le HC.out.1 HF2.out.size
      go_wp2_with fail
      go_region_held2 (fun W' => W'.cell? ⟨w.heap.size, 0, none⟩ = some (.slice An m cn) ∧ W'.cell? ⟨w.heap.size, 1, none⟩ = some (.slice Ak m ck) ∧ W'.cell? ⟨w.heap.size, 2, none⟩ = some (.slice (some ⟨b, 0, none⟩) m cm) ∧ W'.cell? ⟨w.heap.size + 1, 1, none⟩ = some (.string nm) ∧ W'.cell? ⟨w.heap.size + 1, 2, none⟩ = some (.slice A2 l2 q2) ∧ W'.cell? ⟨b, i, none⟩ = some (.int .i64 x2))
        (first
          | (refine ⟨?_, ?_, ?_, ?_, ?_, ?_⟩ <;> with_reducible assumption)
          | (with_reducible refine ⟨(Fr.cell (T := NoT) (w := w5) (Fr.drew (Fr.refl _ _)) y1' id).trans a0', (Fr.cell (T := NoT) (w := w5) (Fr.drew (Fr.refl _ _)) y1' id).trans a1', (Fr.cell (T := NoT) (w := w5) (Fr.drew (Fr.refl _ _)) y1' id).trans a2', (Fr.cell (T := NoT) (w := w5) (Fr.drew (Fr.refl _ _)) y2' id).trans b1', (Fr.cell (T := NoT) (w := w5) (Fr.drew (Fr.refl _ _)) y2' id).trans b2', (Fr.cell (T := NoT) (w := w5) (Fr.drew (Fr.refl _ _)) dx' id).trans d1'⟩)
          | (with_reducible refine ⟨(Fr.cell (T := NoT) (w := w2) (Fr.drew (Fr.refl _ _)) y1 id).trans a0, (Fr.cell (T := NoT) (w := w2) (Fr.drew (Fr.refl _ _)) y1 id).trans a1, (Fr.cell (T := NoT) (w := w2) (Fr.drew (Fr.refl _ _)) y1 id).trans a2, (Fr.cell (T := NoT) (w := w2) (Fr.drew (Fr.refl _ _)) y2 id).trans b1, (Fr.cell (T := NoT) (w := w2) (Fr.drew (Fr.refl _ _)) y2 id).trans b2, (Fr.cell (T := NoT) (w := w2) (Fr.drew (Fr.refl _ _)) dx id).trans d1⟩))
        (first
          | (go_at_call 47
             with_reducible refine (H0'.out _ (by exact HF2.out.drew)).mono ?_
             rintro _ w5 ⟨rfl, hb⟩
             have HF5 := Lib.hid (HF2.out.drew.trans hb)
             have hf5 := (Fr.refl NoT w2).drew.trans hb
             have a0' := (HK3.out.fr0 hf5).cell 0
             have a1' := (HK3.out.fr0 hf5).cell 1
             have a2' := (HK3.out.fr0 hf5).cell 2
             have b1' := (HK4.out.fr0 hf5).cell 1
             have b2' := (HK4.out.fr0 hf5).cell 2
             have y1' := (HK3.out.fr0 hf5).lt
             have y2' := (HK4.out.fr0 hf5).lt
             have d1' := (HF5.out.cell (p := ⟨b, i, none⟩) HC.out.1 id).trans HC.out.2
             have dx' := Nat.lt_of_lt_of_le HC.out.1 HF5.out.size
             simp only [List.getElem?_toArray, List.getElem?_cons_succ, List.getElem?_cons_zero] at a0' a1' a2' b1' b2'
             clear hb hf5
             dsimp only))
      all_goals
        go_wp2_with fail
        go_ret
        exact ⟨by rw [HR.out]; rfl, HF5.out⟩
/-- THE CONTRACT of ref11's named -/
theorem rnamed_any (ws : Wl) (k : Int) (nm : ByteArray) (A2 A3 A4 A5 : Option Addr) (l2 l3 l4 l5 q2 q3 q4 q5 : Nat) (at_ : Int) (w : World) (An Ak Am : Option Addr) (cn ck cm : Nat) (hl2 : l2 ≤ 9223372036854775807) (hw : WdR w ws An Ak Am cn ck cm) :
    Calls Tryz.prog 50 #[wdV ws An Ak Am cn ck cm, .agg #[.int .u8 k, .string nm, .slice A2 l2 q2, .slice A3 l3 q3, .slice A4 l4 q4, .slice A5 l5 q5, .int .i64 at_]] w (IntPost (nmdI ws k nm l2) w) := by
  by_cases h2 : k = 2
  · exact rnamed_k2 ws k h2 nm A2 A3 A4 A5 l2 l3 l4 l5 q2 q3 q4 q5 at_ w An Ak Am cn ck cm hl2 hw
  by_cases h4 : k = 4
  · exact rnamed_k4 ws k h4 nm A2 A3 A4 A5 l2 l3 l4 l5 q2 q3 q4 q5 at_ w An Ak Am cn ck cm hl2 hw
  by_cases h3 : k = 3
  · exact rnamed_k3 ws k h3 nm A2 A3 A4 A5 l2 l3 l4 l5 q2 q3 q4 q5 at_ w An Ak Am cn ck cm hl2 hw
  by_cases h9 : k = 9
  · exact rnamed_k9 ws k h9 nm A2 A3 A4 A5 l2 l3 l4 l5 q2 q3 q4 q5 at_ w An Ak Am cn ck cm hl2 hw
  exact rnamed_no ws k ⟨h2, h4, h3, h9⟩ nm A2 A3 A4 A5 l2 l3 l4 l5 q2 q3 q4 q5 at_ w An Ak Am cn ck cm hl2 hw
end Go.Proofs.YteabedhnpnapgaaGreatDoor
