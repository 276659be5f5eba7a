/-
  ref11: what is declared, as three rows; at, is.
-/
import Derived.Test.YteabedhnpnapgaaGreatDoorJnRmT
namespace Go.Proofs.YteabedhnpnapgaaGreatDoor
open Go.RowKit Go.Shelf
set_option linter.unusedVariables false
set_option linter.unusedSimpArgs false


theorem get_drop0 {α : Type} {l : List α} {i : Nat} {x : α} {r : List α} (h : l.drop i = x :: r) : l[i]? = some x := by
  have := congrArg List.head? h
  simpa using this
abbrev Wl := List (ByteArray × Int × Int)
/-- a row of one-cell values -/
def RwR (w : World) (xs : List Value) (A : Option Addr) (c : Nat) : Prop := xs.length ≤ c ∧ c ≤ 9223372036854775807 ∧ (0 < xs.length → ∃ b, A = some ⟨b, 0, none⟩ ∧ b < w.heap.size ∧ ∀ i u, xs[i]? = some u → w.cell? ⟨b, i, none⟩ = some u)
theorem RwR.keep {w w' : World} {xs : List Value} {A : Option Addr} {c : Nat} (h : RwR w xs A c) (hf : Fr NoT w w') : RwR w' xs A c :=
  ⟨h.1, h.2.1, fun h0 => by
    obtain ⟨b, e, hb, hc⟩ := h.2.2 h0
    exact ⟨b, e, Nat.lt_of_lt_of_le hb hf.size, fun i u hi => (hf.cell (p := ⟨b, i, none⟩) hb id).trans (hc i u hi)⟩⟩
structure WdR (w : World) (ws : Wl) (An Ak Am : Option Addr) (cn ck cm : Nat) : Prop where
  names : RwR w (ws.map fun x => .string x.1) An cn
  kinds : RwR w (ws.map fun x => .int .i64 x.2.1) Ak ck
  many : RwR w (ws.map fun x => .int .i64 x.2.2) Am cm
theorem WdR.keep {w w' : World} {ws : Wl} {An Ak Am : Option Addr} {cn ck cm : Nat} (h : WdR w ws An Ak Am cn ck cm) (hf : Fr NoT w w') : WdR w' ws An Ak Am cn ck cm := ⟨h.names.keep hf, h.kinds.keep hf, h.many.keep hf⟩
theorem WdR.nil (w : World) : WdR w [] none none none 0 0 0 := ⟨⟨Nat.le_refl _, by omega, fun h => absurd h (by simp)⟩, ⟨Nat.le_refl _, by omega, fun h => absurd h (by simp)⟩, ⟨Nat.le_refl _, by omega, fun h => absurd h (by simp)⟩⟩
def wdV (ws : Wl) (An Ak Am : Option Addr) (cn ck cm : Nat) : Value := .agg #[.slice An ws.length cn, .slice Ak ws.length ck, .slice Am ws.length cm]
/-- where a name is -/
def atI (nm : ByteArray) : Wl → Nat → Int
  | [], _ => -1
  | x :: r, i => if x.1.toList == nm.toList then i else atI nm r (i + 1)
def IntPost (n : Int) (W : World) (e : Ending) (w' : World) : Prop := e = .returned (.int .i64 n) ∧ Fr NoT W w'
set_option maxRecDepth 100000 in
set_option maxHeartbeats 1600000 in
theorem rat_any (ws : Wl) (nm : ByteArray) (w : World) (An Ak Am : Option Addr) (cn ck cm : Nat) (hx : WdR w ws An Ak Am cn ck cm) :
    Calls Tryz.prog 47 #[wdV ws An Ak Am cn ck cm, .string nm] w (IntPost (atI nm ws 0) w) := by
  have hl : ws.length ≤ 9223372036854775807 := by have := hx.names.1; have := hx.names.2.1; simp at *; omega
  unfold wdV
  have HX := Lib.hid hx
  obtain ⟨m, hm⟩ : ∃ m, m = ws.length := ⟨_, rfl⟩
  rw [← hm] at hl ⊢
  have HM := Lib.hid hm
  obtain ⟨F, hF⟩ : ∃ F, F = atI nm ws 0 := ⟨_, rfl⟩
  rw [← hF]
  have HF := Lib.hid hF
  have HF1 := Lib.hid (show Fr NoT w (w.alloc (.cells #[.slice An m cn, .slice Ak m ck, .slice Am m cm] 63)) from (Fr.refl _ _).alloc _)
  have HK1 := Lib.hid (Bk.new w 63 #[.slice An m cn, .slice Ak m ck, .slice Am m cm])
  obtain ⟨w1, hw1⟩ : ∃ w1, w1 = w.alloc (.cells #[.slice An m cn, .slice Ak m ck, .slice Am m cm] 63) := ⟨_, rfl⟩
  rw [← hw1] at HF1 HK1
  have HW1 := Lib.hid hw1
  clear hx hm hF hw1
  go_enter Tryz.func47, Tryz.ntmps47
  go_wp2_with fail
  rw [← HW1.out]
  have k0 := HK1.out.cell 0
  have hl1 := HK1.out.lt
  simp only [List.getElem?_toArray, List.getElem?_cons_succ, List.getElem?_cons_zero] at k0
  go_loop [5] (fun i => ∃ k : Nat, k ≤ m ∧ i = .int .i64 k ∧ Hid (F = atI nm (ws.drop k) k)) (fun i => m - (intOf i).toNat)
  case atStart => exact ⟨0, Nat.zero_le _, rfl, HF.out⟩
  case round =>
    clear HF
    obtain ⟨k, hk, rfl, hall⟩ := hrel
    by_cases hlt : k < m
    · obtain ⟨⟨a0, a1, a2⟩, ar, hd⟩ := drop_head1 (show k < ws.length from by rw [← HM.out]; exact hlt)
      obtain ⟨b, rfl, hb, hat⟩ := (HX.out.names.keep HF1.out).2.2 (by simp; rw [← HM.out]; omega)
      have c0 := hat k (.string a0) (by rw [List.getElem?_map, get_drop0 hd.1]; rfl)
      have hlt' : (k : Int) < (m : Int) := by omega
      have hge : (0 : Int) ≤ (k : Int) := by omega
      have hst := hall.out
      rw [hd.1] at hst
      unfold atI at hst
      simp only at hst
      obtain ⟨v, hv⟩ : ∃ v, v = (a0.toList == nm.toList) := ⟨_, rfl⟩
      have e1 := hv.symm
      rw [← hv, ← hd.2] at hst
      have HST := Lib.hid hst
      clear hd hall hat hst hv
      cases v
      · have HN := Lib.hid (show F = atI nm (ws.drop (k + 1)) (k + 1) from by rw [HST.out]; rfl)
        clear HST
        go_wp2_with fail
        go_round
        case rel => exact ⟨k + 1, by omega, by go_num, HN.out⟩
        case measure => simp [intOf]; omega
      · have HN := Lib.hid (show F = k from by rw [HST.out]; rfl)
        clear HST
        go_wp2_with fail
        go_ret
        exact ⟨by rw [HN.out]; rfl, HF1.out⟩
    · have HN := Lib.hid (show F = -1 from by rw [hall.out, List.drop_eq_nil_of_le (by rw [← HM.out]; omega)]; rfl)
      have hlt' : ¬ (k : Int) < (m : Int) := by omega
      clear hall
      go_wp2_with fail
      go_ret
      exact ⟨by rw [HN.out]; rfl, HF1.out⟩
end Go.Proofs.YteabedhnpnapgaaGreatDoor

/-
  ref11: is.
-/
namespace Go.Proofs.YteabedhnpnapgaaGreatDoor
open Go.RowKit Go.Shelf
set_option linter.unusedVariables false
set_option linter.unusedSimpArgs false

/-- what a name is -/
def fdW (nm : ByteArray) : Wl → Option (Int × Int)
  | [] => none
  | x :: r => if x.1.toList == nm.toList then some x.2 else fdW nm r
def isI (nm : ByteArray) (kind : Int) (ws : Wl) : Int := match fdW nm ws with
  | none => 110
  | some v => if v.1 = kind then 0 else 112
theorem at_split (nm : ByteArray) : ∀ (ws : Wl) (k : Nat), (fdW nm ws = none ∧ atI nm ws k = -1) ∨ ∃ (i : Nat) (x : ByteArray × Int × Int), atI nm ws k = ((k + i : Nat) : Int) ∧ ws[i]? = some x ∧ fdW nm ws = some x.2
  | [], k => .inl ⟨rfl, rfl⟩
  | y :: r, k => by
    unfold fdW atI
    by_cases h : (y.1.toList == nm.toList) = true
    · rw [if_pos h, if_pos h]
      exact .inr ⟨0, y, rfl, rfl, rfl⟩
    · rw [if_neg h, if_neg h]
      rcases at_split nm r (k + 1) with ⟨h1, h2⟩ | ⟨i, x, h1, h2, h3⟩
      · exact .inl ⟨h1, h2⟩
      · exact .inr ⟨i + 1, x, by rw [h1]; congr 1; omega, by simpa using h2, h3⟩
set_option maxRecDepth 100000 in
set_option maxHeartbeats 1600000 in
theorem ris_any (ws : Wl) (nm : ByteArray) (kind : Int) (w : World) (An Ak Am : Option Addr) (cn ck cm : Nat) (hx : WdR w ws An Ak Am cn ck cm) :
    Calls Tryz.prog 77 #[wdV ws An Ak Am cn ck cm, .string nm, .int .i64 kind] w (IntPost (isI nm kind ws) w) := by
  have hf1 : Fr NoT w (w.alloc (.cells #[.slice An ws.length cn, .slice Ak ws.length ck, .slice Am ws.length cm] 63)) := (Fr.refl _ _).alloc _
  have h1 := rat_any ws nm _ An Ak Am cn ck cm (hx.keep hf1)
  have hl : ws.length ≤ 9223372036854775807 := by have := hx.names.1; have := hx.names.2.1; simp at *; omega
  obtain ⟨F, hF⟩ : ∃ F, F = isI nm kind ws := ⟨_, rfl⟩
  rw [← hF]
  unfold isI at hF
  have hs := at_split nm ws 0
  unfold wdV at h1 ⊢
  have HX := Lib.hid hx
  obtain ⟨m, hm⟩ : ∃ m, m = ws.length := ⟨_, rfl⟩
  rw [← hm] at hl h1 hf1 ⊢
  have HM := Lib.hid hm
  have HF1 := Lib.hid hf1
  have HK1 := Lib.hid (Bk.new w 63 #[.slice An m cn, .slice Ak m ck, .slice Am m cm])
  rcases hs with ⟨e1, e2⟩ | ⟨i, x, e1, e2, e3⟩
  · rw [e2] at h1
    rw [e1] at hF
    have H1 := Lib.hid h1
    have HF := Lib.hid (show F = 110 from hF)
    clear hx hm hF hf1 h1 e1 e2
    go_enter Tryz.func77, Tryz.ntmps77
    go_wp2_with fail
    refine H1.out.mono ?_
    rintro _ w2 ⟨rfl, hb⟩
    have HF2 := Lib.hid (HF1.out.trans hb)
    clear hb
    go_wp2_with fail
    go_ret
    exact ⟨by rw [HF.out]; rfl, HF2.out⟩
  · rw [e1, Nat.zero_add] at h1
    rw [e3] at hF
    have hi : i < m := by rw [hm]; exact (List.getElem?_eq_some_iff.1 e2).1
    obtain ⟨b, rfl, hb, hat⟩ := hx.kinds.2.2 (by simp; omega)
    have c1 := hat i (.int .i64 x.2.1) (by rw [List.getElem?_map, e2]; rfl)
    obtain ⟨a0, a1, a2⟩ := x
    simp only at c1 hF
    have H1 := Lib.hid h1
    have HC := Lib.hid (And.intro hb c1)
    clear hx hm hf1 h1 e1 e2 e3 hat c1 hb
    have hi' : (i : Int) < (m : Int) := by omega
    have hge : (0 : Int) ≤ (i : Int) := by omega
    have hneg : decide ((i : Int) < 0) = false := by simp
    have hcase : (a1 = kind ∧ F = 0) ∨ (a1 ≠ kind ∧ F = 112) := by
      by_cases h : a1 = kind
      · exact .inl ⟨h, by rw [hF, if_pos h]⟩
      · exact .inr ⟨h, by rw [hF, if_neg h]⟩
    clear hF
    rcases hcase with ⟨h, hF⟩ | ⟨h, hF⟩
    · have HF := Lib.hid hF
      have e1 : (a1 != kind) = false := by simpa using h
      clear hF h
      go_enter Tryz.func77, Tryz.ntmps77
      go_wp2_with fail
      refine H1.out.mono ?_
      rintro _ w2 ⟨rfl, hf⟩
      have HF2 := Lib.hid (HF1.out.trans hf)
      have hk := HK1.out.fr0 hf
      have k1 := hk.cell 1
      have hl1 := hk.lt
      have d1 := (HF2.out.cell (p := ⟨b, i, none⟩) HC.out.1 id).trans HC.out.2
      have hxr := Nat.lt_of_lt_of_le HC.out.1 HF2.out.size
      simp only [List.getElem?_toArray, List.getElem?_cons_succ, List.getElem?_cons_zero] at k1
      clear hf hk
      go_wp2_with fail
      go_ret
      exact ⟨by rw [HF.out]; rfl, HF2.out⟩
    · have HF := Lib.hid hF
      have e1 : (a1 != kind) = true := by simpa using h
      clear hF h
      go_enter Tryz.func77, Tryz.ntmps77
      go_wp2_with fail
      refine H1.out.mono ?_
      rintro _ w2 ⟨rfl, hf⟩
      have HF2 := Lib.hid (HF1.out.trans hf)
      have hk := HK1.out.fr0 hf
      have k1 := hk.cell 1
      have hl1 := hk.lt
      have d1 := (HF2.out.cell (p := ⟨b, i, none⟩) HC.out.1 id).trans HC.out.2
      have hxr := Nat.lt_of_lt_of_le HC.out.1 HF2.out.size
      simp only [List.getElem?_toArray, List.getElem?_cons_succ, List.getElem?_cons_zero] at k1
      clear hf hk
      go_wp2_with fail
      go_ret
      exact ⟨by rw [HF.out]; rfl, HF2.out⟩
end Go.Proofs.YteabedhnpnapgaaGreatDoor
