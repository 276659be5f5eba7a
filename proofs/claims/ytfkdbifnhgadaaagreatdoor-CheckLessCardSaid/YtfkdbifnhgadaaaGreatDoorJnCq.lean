/-
  ref10.sizeExprs, sizeConds, sizeStmts, sizeVars, Great: they answer, whatever they answer.
-/
import Derived.Test.YtfkdbifnhgadaaaGreatDoorJnCkA
import Derived.BigQuiet
import Derived.Test.YtfkdbifnhgadaaaGreatDoorCqTold
namespace Go.Proofs.YtfkdbifnhgadaaaGreatDoor
open Go.RowKit Go.Shelf
set_option linter.unusedVariables false
set_option linter.unusedSimpArgs false

/-- draws alone -/
def Dr (w w' : World) : Prop := ∃ q, w' = w.drewN q
theorem Dr.refl (w : World) : Dr w w := ⟨0, rfl⟩
theorem Dr.trans {a b c : World} (h : Dr a b) (k : Dr b c) : Dr a c := by
  obtain ⟨n, rfl⟩ := h
  obtain ⟨m, rfl⟩ := k
  exact ⟨n + m, by rw [World.drewN_drewN]⟩
theorem Dr.more (w : World) (n : Nat) : Dr w (w.drewN n) := ⟨n, rfl⟩
theorem Dr.same {S : Nat → Prop} {w w' : World} (h : Dr w w') : SameS S w w' := by
  obtain ⟨n, rfl⟩ := h
  exact fun _ _ => ⟨rfl, rfl⟩
theorem Dr.fr {w w' : World} (h : Dr w w') : Fr NoT w w' := by
  obtain ⟨n, rfl⟩ := h
  exact (Fr.refl _ _).drewN _
/-- how a function ends that answers a number, and draws -/
def IntD (n : Int) (W : World) (e : Ending) (w' : World) : Prop := e = .returned (.int .i64 n) ∧ Dr W w'
theorem quiet_d {P : Program} {f : FuncId} {args : Array Value} {w : World} {n : Nat} {v : Int} (h : Calls P f args (w.drewN n) (IntD v (w.drewN n))) :
    Calls P f args (w.drewN n) fun e w'' => e = .returned (.int .i64 v) ∧ ∃ m, w'' = w.drewN m :=
  h.mono fun _ _ ⟨he, m, hm⟩ => ⟨he, n + m, by rw [hm, World.drewN_drewN]⟩
def szXF : Exs → Int → Int → Int
  | .nil, n, _ => n
  | .cons _ nm _ args _ r, n, most => if n ≤ most then szXF r (wrap64 (wrap64 (wrap64 (n + 1) + (nm.size : Int)) + szXF args 0 (wrap64 (most - n)))) most else n
theorem szXF_stop {xs : Exs} {n most : Int} (h : ¬ n ≤ most) : szXF xs n most = n := by
  cases xs with
  | nil => rfl
  | cons k nm m args at_ r => show (if n ≤ most then _ else n) = n; rw [if_neg h]
theorem szXF_step {xs : Exs} {i : Nat} {n most : Int} {k nm m args at_ r} (hd : Exs.drop i xs = .cons k nm m args at_ r) (h : n ≤ most) :
    szXF (Exs.drop i xs) n most = szXF (Exs.drop (i + 1) xs) (wrap64 (wrap64 (wrap64 (n + 1) + (nm.size : Int)) + szXF args 0 (wrap64 (most - n)))) most := by
  rw [Exs.drop_succ i xs hd, hd]
  show (if n ≤ most then _ else n) = _
  rw [if_pos h]
def SzX (xs : Exs) : Prop := ∀ (most : Int) (W : World) (S : Nat → Prop) (Z : Prop) (A : Option Addr) (c : Nat), (∀ x, S x → x < W.heap.size) → SlR (fun b o => ExR W S Z xs b o) xs.len 64 A c →
  Calls Tryz.prog 33 #[.slice A xs.len c, .int .i64 most] W (IntD (szXF xs 0 most) W)
def SzXI (xs : Exs) : Prop := ∀ (i : Nat) (a0 : Int) (a1 : ByteArray) (a2 : Int) (a3 : Exs) (a4 : Int) (ar : Exs), Exs.drop i xs = .cons a0 a1 a2 a3 a4 ar → SzX a3
set_option maxRecDepth 100000 in
set_option maxHeartbeats 1600000 in
theorem szx_one (xs : Exs) (hall0 : SzXI xs) : SzX xs := by
  intro most w S Z A c hS hx
  have hl : xs.len ≤ 9223372036854775807 := Nat.le_trans hx.1 hx.2.1.1
  have HA := Lib.hid hall0
  have HX := Lib.hid hx
  have HS := Lib.hid hS
  obtain ⟨m, hm⟩ : ∃ m, m = xs.len := ⟨_, rfl⟩
  rw [← hm] at hl ⊢
  have HM := Lib.hid hm
  obtain ⟨F, hF⟩ : ∃ F, F = szXF xs 0 most := ⟨_, rfl⟩
  rw [← hF]
  have HF := Lib.hid hF
  clear hall0 hx hS hm hF
  go_enter Tryz.func33, Tryz.ntmps33
  go_wp2_with fail
  go_loopw [5, 6] (fun n i wr => ∃ (k : Nat) (v : Int), k ≤ m ∧ i = .int .i64 k ∧ n = .int .i64 v ∧ Hid (Dr w wr) ∧ Hid (F = szXF (Exs.drop k xs) v most)) (fun _ i _ => m - (intOf i).toNat)
  case atStart => exact ⟨0, 0, Nat.zero_le _, rfl, rfl, Dr.refl _, HF.out⟩
  case round =>
    obtain ⟨k, v, hk, rfl, rfl, hb, hall⟩ := hrel
    by_cases hlt : k < m
    · by_cases hv : v ≤ most
      · have hv1 : decide (v ≤ most) = true := by simpa using hv
        obtain ⟨a0, a1, a2, a3, a4, ar, hd⟩ := Exs.drop_cons (show k < xs.len from by rw [← HM.out]; exact hlt)
        obtain ⟨B, o, rfl, hat⟩ := HX.out.2.2 (by rw [← HM.out]; omega)
        have hat1 := (ExR.keep hb.out.same hat).drop k
        rw [hd] at hat1
        obtain ⟨⟨hbS, _, r0, r1, r2, c0, c1, c2, c4⟩, ⟨A3, q3, c3, s3⟩, _⟩ := hat1
        have hxr : B < wr.heap.size := Nat.lt_of_lt_of_le (HS.out _ hbS) hb.out.fr.size
        have hlt' : (k : Int) < (m : Int) := by omega
        have hge : (0 : Int) ≤ (k : Int) := by omega
        have hrec := HA.out k a0 a1 a2 a3 a4 ar hd
        have HR := Lib.hid (fun (mo : Int) (n : Nat) => hrec mo (wr.drewN n) S Z A3 q3 (fun x hx => Nat.lt_of_lt_of_le (HS.out x hx) hb.out.fr.size) (s3.imp fun _ _ hx => ExR.keep (Dr.same ⟨n, rfl⟩) hx))
        have HST := Lib.hid (hall.out.trans (szXF_step hd hv))
        have HB := Lib.hid hb.out
        clear hd hat hall hb hbS s3 r0 r1 r2 hrec hv
        go_wp2_with fail
        go_quiet ((go_at_call 33; exact quiet_d (HR.out _ _)))
        go_wp2_with fail
        go_roundw
        case rel => exact ⟨k + 1, _, by omega, by go_num, rfl, HB.out.trans (Dr.more _ _), HST.out⟩
        case measure => simp [intOf]; omega
      · have hv1 : decide (v ≤ most) = false := by simpa using hv
        have HE := Lib.hid (show F = v from by rw [hall.out, szXF_stop hv])
        have HB := Lib.hid hb.out
        have hlt' : (k : Int) < (m : Int) := by omega
        clear hall hb hv
        go_wp2_with fail
        go_ret
        exact ⟨by rw [HE.out]; rfl, HB.out⟩
    · have HE := Lib.hid (show F = v from by rw [hall.out, Exs.drop_nil (by rw [← HM.out]; omega)]; rfl)
      have HB := Lib.hid hb.out
      have hlt' : ¬ (k : Int) < (m : Int) := by omega
      clear hall hb
      go_wp2_with fail
      go_ret
      exact ⟨by rw [HE.out]; rfl, HB.out⟩
theorem szxi_all : ∀ xs : Exs, SzXI xs
  | .nil => fun i _ _ _ _ _ _ hd => by cases i <;> simp [Exs.drop] at hd
  | .cons k0 k1 k2 k3 k4 kr => fun i _ _ _ _ _ _ hd => by
    cases i with
    | zero =>
      simp only [Exs.drop] at hd
      injection hd with e0 e1 e2 e3 e4 e5
      subst e0 e1 e2 e3 e4 e5
      exact szx_one k3 (szxi_all k3)
    | succ i =>
      simp only [Exs.drop] at hd
      exact szxi_all kr i _ _ _ _ _ _ hd
theorem szx_any (xs : Exs) : SzX xs := szx_one xs (szxi_all xs)


/-- so much more -/
def szAdd (v most : Int) (f : Int → Int) : Int := wrap64 (v + f (wrap64 (most - v)))
def szCF : Cds → Int → Int → Int
  | .nil, n, _ => n
  | .cons _ args of_ _ r, n, most => if n ≤ most then szCF r (szAdd (wrap64 (wrap64 (n + 1) + szXF args 0 (wrap64 (most - n)))) most (szCF of_ 0)) most else n
theorem szCF_stop {xs : Cds} {n most : Int} (h : ¬ n ≤ most) : szCF xs n most = n := by
  cases xs with
  | nil => rfl
  | cons k args of_ at_ r => show (if n ≤ most then _ else n) = n; rw [if_neg h]
theorem szCF_step {xs : Cds} {i : Nat} {n most : Int} {k args of_ at_ r} (hd : Cds.drop i xs = .cons k args of_ at_ r) (h : n ≤ most) :
    szCF (Cds.drop i xs) n most = szCF (Cds.drop (i + 1) xs) (szAdd (wrap64 (wrap64 (n + 1) + szXF args 0 (wrap64 (most - n)))) most (szCF of_ 0)) most := by
  rw [Cds.drop_succ i xs hd, hd]
  show (if n ≤ most then _ else n) = _
  rw [if_pos h]
def SzC (xs : Cds) : Prop := ∀ (most : Int) (W : World) (S : Nat → Prop) (Z : Prop) (A : Option Addr) (c : Nat), (∀ x, S x → x < W.heap.size) → SlR (fun b o => CdR W S Z xs b o) xs.len 64 A c →
  Calls Tryz.prog 34 #[.slice A xs.len c, .int .i64 most] W (IntD (szCF xs 0 most) W)
def SzCI (xs : Cds) : Prop := ∀ (i : Nat) (a0 : Int) (a1 : Exs) (a2 : Cds) (a3 : Int) (ar : Cds), Cds.drop i xs = .cons a0 a1 a2 a3 ar → SzC a2
set_option maxRecDepth 100000 in
set_option maxHeartbeats 1600000 in
theorem szc_one (xs : Cds) (hall0 : SzCI xs) : SzC xs := by
  intro most w S Z A c hS hx
  have hl : xs.len ≤ 9223372036854775807 := Nat.le_trans hx.1 hx.2.1.1
  have HA := Lib.hid hall0
  have HX := Lib.hid hx
  have HS := Lib.hid hS
  obtain ⟨m, hm⟩ : ∃ m, m = xs.len := ⟨_, rfl⟩
  rw [← hm] at hl ⊢
  have HM := Lib.hid hm
  obtain ⟨F, hF⟩ : ∃ F, F = szCF xs 0 most := ⟨_, rfl⟩
  rw [← hF]
  have HF := Lib.hid hF
  clear hall0 hx hS hm hF
  go_enter Tryz.func34, Tryz.ntmps34
  go_wp2_with fail
  go_loopw [5, 6] (fun n i wr => ∃ (k : Nat) (v : Int), k ≤ m ∧ i = .int .i64 k ∧ n = .int .i64 v ∧ Hid (Dr w wr) ∧ Hid (F = szCF (Cds.drop k xs) v most)) (fun _ i _ => m - (intOf i).toNat)
  case atStart => exact ⟨0, 0, Nat.zero_le _, rfl, rfl, Dr.refl _, HF.out⟩
  case round =>
    obtain ⟨k, v, hk, rfl, rfl, hb, hall⟩ := hrel
    by_cases hlt : k < m
    · by_cases hv : v ≤ most
      · have hv1 : decide (v ≤ most) = true := by simpa using hv
        obtain ⟨a0, a1, a2, a3, ar, hd⟩ := Cds.drop_cons (show k < xs.len from by rw [← HM.out]; exact hlt)
        obtain ⟨B, o, rfl, hat⟩ := HX.out.2.2 (by rw [← HM.out]; omega)
        have hat1 := (CdR.keep hb.out.same hat).drop k
        rw [hd] at hat1
        obtain ⟨⟨hbS, _, r0, r1, c0, c3⟩, ⟨A1, q1, c1, s1⟩, ⟨A2, q2, c2, s2⟩, _⟩ := hat1
        have hxr : B < wr.heap.size := Nat.lt_of_lt_of_le (HS.out _ hbS) hb.out.fr.size
        have hlt' : (k : Int) < (m : Int) := by omega
        have hge : (0 : Int) ≤ (k : Int) := by omega
        have hrec := HA.out k a0 a1 a2 a3 ar hd
        have HR1 := Lib.hid (fun (mo : Int) => szx_any a1 mo wr S Z A1 q1 (fun x hx => Nat.lt_of_lt_of_le (HS.out x hx) hb.out.fr.size) s1)
        have HR2 := Lib.hid (fun (mo : Int) (W : World) (h : Dr wr W) => hrec mo W S Z A2 q2 (fun x hx => Nat.lt_of_lt_of_le (HS.out x hx) (hb.out.trans h).fr.size) (s2.imp fun _ _ hx => CdR.keep h.same hx))
        have HST := Lib.hid (hall.out.trans (szCF_step hd hv))
        have HB := Lib.hid hb.out
        clear hd hat hall hb hbS s1 s2 r0 r1 hrec hv
        go_wp2_with fail
        refine (HR1.out _).mono ?_
        rintro _ w1 ⟨rfl, hd1⟩
        have c2' := (hd1.fr.cell (p := ⟨B, o + k * 4 + 2, none⟩) hxr id).trans c2
        have hx1 := Nat.lt_of_lt_of_le hxr hd1.fr.size
        have HD1 := Lib.hid hd1
        clear hd1 c0 c1 c2 c3 hxr
        go_wp2_with fail
        refine (HR2.out _ _ HD1.out).mono ?_
        rintro _ w2 ⟨rfl, hd2⟩
        have HD2 := Lib.hid ((HB.out.trans HD1.out).trans hd2)
        clear hd2 c2' hx1
        go_wp2_with fail
        go_roundw
        case rel => exact ⟨k + 1, _, by omega, by go_num, rfl, HD2.out, HST.out⟩
        case measure => simp [intOf]; omega
      · have hv1 : decide (v ≤ most) = false := by simpa using hv
        have HE := Lib.hid (show F = v from by rw [hall.out, szCF_stop hv])
        have HB := Lib.hid hb.out
        have hlt' : (k : Int) < (m : Int) := by omega
        clear hall hb hv
        go_wp2_with fail
        go_ret
        exact ⟨by rw [HE.out]; rfl, HB.out⟩
    · have HE := Lib.hid (show F = v from by rw [hall.out, Cds.drop_nil (by rw [← HM.out]; omega)]; rfl)
      have HB := Lib.hid hb.out
      have hlt' : ¬ (k : Int) < (m : Int) := by omega
      clear hall hb
      go_wp2_with fail
      go_ret
      exact ⟨by rw [HE.out]; rfl, HB.out⟩
theorem szci_all : ∀ xs : Cds, SzCI xs
  | .nil => fun i _ _ _ _ _ hd => by cases i <;> simp [Cds.drop] at hd
  | .cons k0 k1 k2 k3 kr => fun i _ _ _ _ _ hd => by
    cases i with
    | zero =>
      simp only [Cds.drop] at hd
      injection hd with e0 e1 e2 e3 e4
      subst e0 e1 e2 e3 e4
      exact szc_one k2 (szci_all k2)
    | succ i =>
      simp only [Cds.drop] at hd
      exact szci_all kr i _ _ _ _ _ hd
theorem szc_any (xs : Cds) : SzC xs := szc_one xs (szci_all xs)

def szS1 (v most : Int) (n : Nat) (args : Exs) : Int := wrap64 (wrap64 (wrap64 (v + 1) + (n : Int)) + szXF args 0 (wrap64 (most - v)))
def szSF : Sts → Int → Int → Int
  | .nil, n, _ => n
  | .cons _ nm args cond body els _ r, n, most => if n ≤ most then szSF r (szAdd (szAdd (szAdd (szS1 n most nm.size args) most (szCF cond 0)) most (szSF body 0)) most (szSF els 0)) most else n
theorem szSF_stop {xs : Sts} {n most : Int} (h : ¬ n ≤ most) : szSF xs n most = n := by
  cases xs with
  | nil => rfl
  | cons k nm args cond body els at_ r => show (if n ≤ most then _ else n) = n; rw [if_neg h]
theorem szSF_step {xs : Sts} {i : Nat} {n most : Int} {k nm args cond body els at_ r} (hd : Sts.drop i xs = .cons k nm args cond body els at_ r) (h : n ≤ most) :
    szSF (Sts.drop i xs) n most = szSF (Sts.drop (i + 1) xs) (szAdd (szAdd (szAdd (szS1 n most nm.size args) most (szCF cond 0)) most (szSF body 0)) most (szSF els 0)) most := by
  rw [Sts.drop_succ i xs hd, hd]
  show (if n ≤ most then _ else n) = _
  rw [if_pos h]
def SzS (xs : Sts) : Prop := ∀ (most : Int) (W : World) (S : Nat → Prop) (Z : Prop) (A : Option Addr) (c : Nat), (∀ x, S x → x < W.heap.size) → SlR (fun b o => StR W S Z xs b o) xs.len 128 A c →
  Calls Tryz.prog 16 #[.slice A xs.len c, .int .i64 most] W (IntD (szSF xs 0 most) W)
def SzSI (xs : Sts) : Prop := ∀ (i : Nat) (a0 : Int) (a1 : ByteArray) (a2 : Exs) (a3 : Cds) (a4 a5 : Sts) (a6 : Int) (ar : Sts), Sts.drop i xs = .cons a0 a1 a2 a3 a4 a5 a6 ar → SzS a4 ∧ SzS a5
set_option maxRecDepth 100000 in
set_option maxHeartbeats 3200000 in
theorem szs_one (xs : Sts) (hall0 : SzSI xs) : SzS xs := by
  intro most w S Z A c hS hx
  have hl : xs.len ≤ 9223372036854775807 := Nat.le_trans hx.1 hx.2.1.1
  have HA := Lib.hid hall0
  have HX := Lib.hid hx
  have HS := Lib.hid hS
  obtain ⟨m, hm⟩ : ∃ m, m = xs.len := ⟨_, rfl⟩
  rw [← hm] at hl ⊢
  have HM := Lib.hid hm
  obtain ⟨F, hF⟩ : ∃ F, F = szSF xs 0 most := ⟨_, rfl⟩
  rw [← hF]
  have HF := Lib.hid hF
  clear hall0 hx hS hm hF
  go_enter Tryz.func16, Tryz.ntmps16
  go_wp2_with fail
  go_loopw [5, 6] (fun n i wr => ∃ (k : Nat) (v : Int), k ≤ m ∧ i = .int .i64 k ∧ n = .int .i64 v ∧ Hid (Dr w wr) ∧ Hid (F = szSF (Sts.drop k xs) v most)) (fun _ i _ => m - (intOf i).toNat)
  case atStart => exact ⟨0, 0, Nat.zero_le _, rfl, rfl, Dr.refl _, HF.out⟩
  case round =>
    obtain ⟨k, v, hk, rfl, rfl, hb, hall⟩ := hrel
    by_cases hlt : k < m
    · by_cases hv : v ≤ most
      · have hv1 : decide (v ≤ most) = true := by simpa using hv
        obtain ⟨a0, a1, a2, a3, a4, a5, a6, ar, hd⟩ := Sts.drop_cons (show k < xs.len from by rw [← HM.out]; exact hlt)
        obtain ⟨B, o, rfl, hat⟩ := HX.out.2.2 (by rw [← HM.out]; omega)
        have hat1 := (StR.keep hb.out.same hat).drop k
        rw [hd] at hat1
        obtain ⟨⟨hbS, _, r0, r1, c0, c1, c6⟩, ⟨A2, q2, c2, s2⟩, ⟨A3, q3, c3, s3⟩, ⟨A4, q4, c4, s4⟩, ⟨A5, q5, c5, s5⟩, _⟩ := hat1
        have hxr : B < wr.heap.size := Nat.lt_of_lt_of_le (HS.out _ hbS) hb.out.fr.size
        have hlt' : (k : Int) < (m : Int) := by omega
        have hge : (0 : Int) ≤ (k : Int) := by omega
        obtain ⟨hr4, hr5⟩ := HA.out k a0 a1 a2 a3 a4 a5 a6 ar hd
        have hsw : ∀ W, Dr wr W → ∀ x, S x → x < W.heap.size := fun W h x hx => Nat.lt_of_lt_of_le (HS.out x hx) (hb.out.trans h).fr.size
        have HR1 := Lib.hid (fun (mo : Int) (n : Nat) => szx_any a2 mo (wr.drewN n) S Z A2 q2 (hsw _ ⟨n, rfl⟩) (s2.imp fun _ _ hx => ExR.keep (Dr.same ⟨n, rfl⟩) hx))
        have HR2 := Lib.hid (fun (mo : Int) (W : World) (h : Dr wr W) => szc_any a3 mo W S Z A3 q3 (hsw W h) (s3.imp fun _ _ hx => CdR.keep h.same hx))
        have HR3 := Lib.hid (fun (mo : Int) (W : World) (h : Dr wr W) => hr4 mo W S Z A4 q4 (hsw W h) (s4.imp fun _ _ hx => StR.keep h.same hx))
        have HR4 := Lib.hid (fun (mo : Int) (W : World) (h : Dr wr W) => hr5 mo W S Z A5 q5 (hsw W h) (s5.imp fun _ _ hx => StR.keep h.same hx))
        have HST := Lib.hid (hall.out.trans (szSF_step hd hv))
        have HB := Lib.hid hb.out
        clear hd hat hall hb hbS s2 s3 s4 s5 r0 r1 hr4 hr5 hv hsw
        go_wp2_with fail
        go_quiet ((go_at_call 33; exact quiet_d (HR1.out _ _)))
        obtain ⟨w1, hw1⟩ : ∃ y, y = wr.drewN nq := ⟨_, rfl⟩
        rw [← hw1]
        have hd1 : Dr wr w1 := ⟨nq, hw1⟩
        have d3 := (hd1.fr.cell (p := ⟨B, o + k * 7 + 3, none⟩) hxr id).trans c3
        have d4 := (hd1.fr.cell (p := ⟨B, o + k * 7 + 4, none⟩) hxr id).trans c4
        have d5 := (hd1.fr.cell (p := ⟨B, o + k * 7 + 5, none⟩) hxr id).trans c5
        have hx1 := Nat.lt_of_lt_of_le hxr hd1.fr.size
        have HD1 := Lib.hid hd1
        clear hd1 c0 c1 c2 c3 c4 c5 c6 hxr hw1
        go_wp2_with fail
        refine (HR2.out _ _ HD1.out).mono ?_
        rintro _ w2 ⟨rfl, hd2⟩
        have e4 := (hd2.fr.cell (p := ⟨B, o + k * 7 + 4, none⟩) hx1 id).trans d4
        have e5 := (hd2.fr.cell (p := ⟨B, o + k * 7 + 5, none⟩) hx1 id).trans d5
        have hx2 := Nat.lt_of_lt_of_le hx1 hd2.fr.size
        have HD2 := Lib.hid (HD1.out.trans hd2)
        clear hd2 d3 d4 d5 hx1
        go_wp2_with fail
        refine (HR3.out _ _ HD2.out).mono ?_
        rintro _ w3 ⟨rfl, hd3⟩
        have g5 := (hd3.fr.cell (p := ⟨B, o + k * 7 + 5, none⟩) hx2 id).trans e5
        have hx3 := Nat.lt_of_lt_of_le hx2 hd3.fr.size
        have HD3 := Lib.hid (HD2.out.trans hd3)
        clear hd3 e4 e5 hx2
        go_wp2_with fail
        refine (HR4.out _ _ HD3.out).mono ?_
        rintro _ w4 ⟨rfl, hd4⟩
        have HD4 := Lib.hid (HB.out.trans (HD3.out.trans hd4))
        clear hd4 g5 hx3
        go_wp2_with fail
        go_roundw
        case rel => exact ⟨k + 1, _, by omega, by go_num, rfl, HD4.out, HST.out⟩
        case measure => simp [intOf]; omega
      · have hv1 : decide (v ≤ most) = false := by simpa using hv
        have HE := Lib.hid (show F = v from by rw [hall.out, szSF_stop hv])
        have HB := Lib.hid hb.out
        have hlt' : (k : Int) < (m : Int) := by omega
        clear hall hb hv
        go_wp2_with fail
        go_ret
        exact ⟨by rw [HE.out]; rfl, HB.out⟩
    · have HE := Lib.hid (show F = v from by rw [hall.out, Sts.drop_nil (by rw [← HM.out]; omega)]; rfl)
      have HB := Lib.hid hb.out
      have hlt' : ¬ (k : Int) < (m : Int) := by omega
      clear hall hb
      go_wp2_with fail
      go_ret
      exact ⟨by rw [HE.out]; rfl, HB.out⟩
theorem szsi_all : ∀ xs : Sts, SzSI xs
  | .nil => fun i _ _ _ _ _ _ _ _ hd => by cases i <;> simp [Sts.drop] at hd
  | .cons k0 k1 k2 k3 k4 k5 k6 kr => fun i _ _ _ _ _ _ _ _ hd => by
    cases i with
    | zero =>
      simp only [Sts.drop] at hd
      injection hd with e0 e1 e2 e3 e4 e5 e6 e7
      subst e0 e1 e2 e3 e4 e5 e6 e7
      exact ⟨szs_one k4 (szsi_all k4), szs_one k5 (szsi_all k5)⟩
    | succ i =>
      simp only [Sts.drop] at hd
      exact szsi_all kr i _ _ _ _ _ _ _ _ hd
theorem szs_any (xs : Sts) : SzS xs := szs_one xs (szsi_all xs)

def szVF : List Va → Int → Int → Int
  | [], n, _ => n
  | x :: r, n, most => if n ≤ most then szVF r (wrap64 (wrap64 (n + 1) + (x.nm.size : Int))) most else n
theorem szVF_stop {xs : List Va} {n most : Int} (h : ¬ n ≤ most) : szVF xs n most = n := by
  cases xs with
  | nil => rfl
  | cons x r => show (if n ≤ most then _ else n) = n; rw [if_neg h]
theorem szVF_step {xs : List Va} {i : Nat} {n most : Int} {a0 a1 ar} (hd : xs.drop i = (⟨a0, a1⟩ : Va) :: ar ∧ xs.drop (i + 1) = ar) (h : n ≤ most) :
    szVF (xs.drop i) n most = szVF (xs.drop (i + 1)) (wrap64 (wrap64 (n + 1) + (a0.size : Int))) most := by
  rw [hd.1, hd.2]
  show (if n ≤ most then _ else n) = _
  rw [if_pos h]
set_option maxRecDepth 100000 in
set_option maxHeartbeats 1600000 in
theorem szv_any (xs : List Va) (most : Int) (w : World) (S : Nat → Prop) (Z : Prop) (A : Option Addr) (c : Nat) (hS : ∀ x, S x → x < w.heap.size) (hx : SlR (fun b o => VaR w S Z xs b o) xs.length 24 A c) :
    Calls Tryz.prog 17 #[.slice A xs.length c, .int .i64 most] w (IntD (szVF xs 0 most) w) := by
  have hl : xs.length ≤ 9223372036854775807 := Nat.le_trans hx.1 hx.2.1.1
  have HX := Lib.hid hx
  have HS := Lib.hid hS
  obtain ⟨m, hm⟩ : ∃ m, m = xs.length := ⟨_, rfl⟩
  rw [← hm] at hl ⊢
  have HM := Lib.hid hm
  obtain ⟨F, hF⟩ : ∃ F, F = szVF xs 0 most := ⟨_, rfl⟩
  rw [← hF]
  have HF := Lib.hid hF
  clear hx hS hm hF
  go_enter Tryz.func17, Tryz.ntmps17
  go_wp2_with fail
  go_loop [5, 6] (fun n i => ∃ (k : Nat) (v : Int), k ≤ m ∧ i = .int .i64 k ∧ n = .int .i64 v ∧ Hid (F = szVF (xs.drop k) v most)) (fun _ i => m - (intOf i).toNat)
  case atStart => exact ⟨0, 0, Nat.zero_le _, rfl, rfl, HF.out⟩
  case round =>
    obtain ⟨k, v, hk, rfl, rfl, hall⟩ := hrel
    by_cases hlt : k < m
    · by_cases hv : v ≤ most
      · have hv1 : decide (v ≤ most) = true := by simpa using hv
        obtain ⟨⟨a0, a1⟩, ar, hd⟩ := drop_head1 (show k < xs.length from by rw [← HM.out]; exact hlt)
        obtain ⟨B, o, rfl, hat⟩ := HX.out.2.2 (by rw [← HM.out]; omega)
        have hat1 := hat.drop k
        rw [hd.1] at hat1
        obtain ⟨⟨hbS, _, r1, c0, c1⟩, _⟩ := hat1
        have hxr : B < w.heap.size := HS.out _ hbS
        have hlt' : (k : Int) < (m : Int) := by omega
        have hge : (0 : Int) ≤ (k : Int) := by omega
        simp only at c0 c1
        have HST := Lib.hid (hall.out.trans (szVF_step hd hv))
        clear hd hat hall hbS r1 hv
        go_wp2_with fail
        go_round
        case rel => exact ⟨k + 1, _, by omega, by go_num, rfl, HST.out⟩
        case measure => simp [intOf]; omega
      · have hv1 : decide (v ≤ most) = false := by simpa using hv
        have HE := Lib.hid (show F = v from by rw [hall.out, szVF_stop hv])
        have hlt' : (k : Int) < (m : Int) := by omega
        clear hall hv
        go_wp2_with fail
        go_ret
        exact ⟨by rw [HE.out]; rfl, Dr.refl _⟩
    · have HE := Lib.hid (show F = v from by rw [hall.out, List.drop_eq_nil_of_le (by rw [← HM.out]; omega)]; rfl)
      have hlt' : ¬ (k : Int) < (m : Int) := by omega
      clear hall
      go_wp2_with fail
      go_ret
      exact ⟨by rw [HE.out]; rfl, Dr.refl _⟩
/-- how a function ends that answers whatever it answers -/
def AnyB (W : World) (e : Ending) (w' : World) : Prop := ∃ b : Bool, e = .returned (.bool b) ∧ Fr NoT W w'
set_option maxRecDepth 100000 in
set_option maxHeartbeats 3200000 in
/-- THE CONTRACT of ref10.Great -/
theorem tgreat_any (t : Tre) (w : World) (S : Nat → Prop) (Z : Prop) (Av Aa Ap Am : Option Addr) (cv ca cp cm : Nat) (hS : ∀ b, S b → b < w.heap.size) (hx : TrR w S Z t Av Aa Ap Am cv ca cp cm) :
    Calls Tryz.prog 8 #[trV t Av Aa Ap Am cv ca cp cm] w (AnyB w) := by
  have l1 : t.vars.length ≤ 9223372036854775807 := Nat.le_trans hx.vars.1 hx.vars.2.1.1
  have l2 : t.arrays.length ≤ 9223372036854775807 := Nat.le_trans hx.arrays.1 hx.arrays.2.1.1
  have l3 : t.procs.length ≤ 9223372036854775807 := Nat.le_trans hx.procs.1 hx.procs.2.1.1
  obtain ⟨n1, hn1⟩ : ∃ n, n = t.vars.length := ⟨_, rfl⟩
  obtain ⟨n2, hn2⟩ : ∃ n, n = t.arrays.length := ⟨_, rfl⟩
  obtain ⟨n3, hn3⟩ : ∃ n, n = t.procs.length := ⟨_, rfl⟩
  obtain ⟨n4, hn4⟩ : ∃ n, n = t.main.len := ⟨_, rfl⟩
  obtain ⟨w1, hw1⟩ : ∃ w1, w1 = w.alloc (.cells #[.slice Av n1 cv, .slice Aa n2 ca, .slice Ap n3 cp, .slice Am n4 cm] 27) := ⟨_, rfl⟩
  have hf1 : Fr NoT w w1 := by rw [hw1]; exact (Fr.refl _ _).alloc _
  have hk1 : Bk w1 w.heap.size 27 #[.slice Av n1 cv, .slice Aa n2 ca, .slice Ap n3 cp, .slice Am n4 cm] := by rw [hw1]; exact Bk.new _ _ _
  have hS1 : ∀ x, S x → x < w1.heap.size := fun x hx => Nat.lt_of_lt_of_le (hS x hx) hf1.size
  have hx1 : TrR w1 S Z t Av Aa Ap Am cv ca cp cm := hx.keep (hf1.same fun b hb => ⟨hS b hb, id⟩)
  have HR1 := Lib.hid (fun (mo : Int) (n : Nat) => szs_any t.main mo (w1.drewN n) S Z Am cm (fun x hx => hS1 x hx) (hx1.main.imp fun _ _ hx => StR.keep (Dr.same ⟨n, rfl⟩) hx))
  have HR2 := Lib.hid (fun (mo : Int) (n : Nat) => szv_any t.vars mo (w1.drewN n) S Z Av cv (fun x hx => hS1 x hx) (hx1.vars.imp fun _ _ hx => VaR.keep (Dr.same ⟨n, rfl⟩) hx))
  rw [← hn1] at HR2
  rw [← hn4] at HR1
  obtain ⟨x0, x1, x2, x3, hl1⟩ := bk4 hk1
  unfold trV
  rw [← hn1, ← hn2, ← hn3, ← hn4]
  rw [← hn1] at l1
  rw [← hn2] at l2
  rw [← hn3] at l3
  have HX1 := Lib.hid hx1
  have HS1 := Lib.hid hS1
  have HF1 := Lib.hid hf1
  have HK1 := Lib.hid hk1
  have HW1 := Lib.hid hw1
  have HN2 := Lib.hid hn2
  have HN3 := Lib.hid hn3
  clear hf1 hk1 hS1 hx1 hx hS hw1 hn1 hn2 hn3 hn4
  go_enter Tryz.func8, Tryz.ntmps8
  go_wp2_with fail
  rw [← HW1.out]
  go_quiet ((first | (go_at_call 16; exact quiet_d (HR1.out _ _)) | (go_at_call 17; exact quiet_d (HR2.out _ _))))
  obtain ⟨w2, hw2⟩ : ∃ y, y = w1.drewN nq := ⟨_, rfl⟩
  rw [← hw2]
  have hd2 : Dr w1 w2 := ⟨nq, hw2⟩
  have HD2 := Lib.hid hd2.fr
  clear hd2 hw2 x0 x1 x2 x3 HR1 HR2
  go_wp2_with fail
  go_loopw [3, 4] (fun n i wr => ∃ (k : Nat) (v : Int), k ≤ n2 ∧ i = .int .i64 k ∧ n = .int .i64 v ∧ Hid (Fr NoT w1 wr)) (fun _ i _ => n2 - (intOf i).toNat)
  case atStart => exact ⟨0, _, Nat.zero_le _, rfl, rfl, HD2.out⟩
  case round =>
    obtain ⟨k, v, hk, rfl, rfl, hb⟩ := hrel
    obtain ⟨x0, x1, x2, x3, hl1⟩ := bk4 (HK1.out.fr0 hb.out)
    by_cases hgo : k < n2 ∧ v ≤ 5000
    · obtain ⟨hlt, hv⟩ := hgo
      have hv1 : decide (v ≤ 5000) = true := by simpa using hv
      obtain ⟨⟨a0, a1, a2⟩, ar, hd⟩ := drop_head1 (show k < t.arrays.length from by rw [← HN2.out]; exact hlt)
      obtain ⟨B, o, rfl, hat⟩ := HX1.out.arrays.2.2 (by rw [← HN2.out]; omega)
      have hat1 := (ArR.keep (hb.out.same fun x hx => ⟨HS1.out x hx, id⟩) hat).drop k
      rw [hd.1] at hat1
      obtain ⟨⟨hbS, _, r1, r2, c0, c1, c2⟩, _⟩ := hat1
      have hxr : B < wr.heap.size := Nat.lt_of_lt_of_le (HS1.out _ hbS) hb.out.size
      have hlt' : (k : Int) < (n2 : Int) := by omega
      have hge : (0 : Int) ≤ (k : Int) := by omega
      simp only at c0 c1 c2
      have HB := Lib.hid hb.out
      clear hd hat hb hbS r1 r2 hv
      go_wp2_with fail
      go_roundw
      case rel => exact ⟨k + 1, _, by omega, by go_num, rfl, HB.out⟩
      case measure => simp [intOf]; omega
    · have hcase : (¬ (k : Int) < (n2 : Int)) ∨ ((k : Int) < (n2 : Int) ∧ decide (v ≤ 5000) = false) := by
        simp only [decide_eq_false_iff_not]
        omega
      have HB := Lib.hid hb.out
      clear hb hgo
      rcases hcase with hlt' | ⟨hlt', hv1⟩
      all_goals
        go_wp2_with fail
        clear x0 x1 x2 x3 hl1 hlt'
        obtain ⟨wo, rfl⟩ : ∃ wo : World, wo = wr := ⟨_, rfl⟩
        go_loopw [3, 5] (fun n i wr => ∃ (k : Nat) (v : Int), k ≤ n3 ∧ i = .int .i64 k ∧ n = .int .i64 v ∧ Hid (Fr NoT w1 wr)) (fun _ i _ => n3 - (intOf i).toNat)
        case atStart => exact ⟨0, _, Nat.zero_le _, rfl, rfl, HB.out⟩
        case round =>
          clear HB
          obtain ⟨j, u, hj, rfl, rfl, hb⟩ := hrel
          obtain ⟨x0, x1, x2, x3, hl1⟩ := bk4 (HK1.out.fr0 hb.out)
          by_cases hgo : j < n3 ∧ u ≤ 5000
          · obtain ⟨hlt, hv⟩ := hgo
            have hv2 : decide (u ≤ 5000) = true := by simpa using hv
            obtain ⟨⟨a0, a1, a2, a3⟩, ar, hd⟩ := drop_head1 (show j < t.procs.length from by rw [← HN3.out]; exact hlt)
            obtain ⟨B, o, rfl, hat⟩ := HX1.out.procs.2.2 (by rw [← HN3.out]; omega)
            have hat1 := (PrR.keep (hb.out.same fun x hx => ⟨HS1.out x hx, id⟩) hat).drop j
            rw [hd.1] at hat1
            obtain ⟨⟨hbS, _, r1, c0, c3⟩, ⟨A1, q1, c1, s1⟩, ⟨A2, q2, c2, s2⟩, _⟩ := hat1
            have hxr : B < wr.heap.size := Nat.lt_of_lt_of_le (HS1.out _ hbS) hb.out.size
            have hltj : (j : Int) < (n3 : Int) := by omega
            have hgej : (0 : Int) ≤ (j : Int) := by omega
            simp only at c0 c1 c2 c3 s1 s2
            obtain ⟨wa, hwa⟩ : ∃ y, y = wr.alloc (.cells #[.string a0, .slice A1 a1.length q1, .slice A2 a2.len q2, .int .i64 a3] 40) := ⟨_, rfl⟩
            have hfa : Fr NoT wr wa := by rw [hwa]; exact (Fr.refl _ _).alloc _
            have hka : Bk wa wr.heap.size 40 #[.string a0, .slice A1 a1.length q1, .slice A2 a2.len q2, .int .i64 a3] := by rw [hwa]; exact Bk.new _ _ _
            have hsw : ∀ W, Fr NoT wr W → ∀ x, S x → x < W.heap.size := fun W h x hx => Nat.lt_of_lt_of_le (HS1.out x hx) (hb.out.trans h).size
            have hsm : ∀ W, Fr NoT wr W → SameS S wr W := fun W h => h.same fun x hx => ⟨Nat.lt_of_lt_of_le (HS1.out x hx) hb.out.size, id⟩
            have HR1 := Lib.hid (fun (mo : Int) (n : Nat) => szv_any a1 mo (wa.drewN n) S Z A1 q1 (hsw _ (hfa.drewN n)) (s1.imp fun _ _ hx => VaR.keep (hsm _ (hfa.drewN n)) hx))
            have HR2 := Lib.hid (fun (mo : Int) (W : World) (h : Fr NoT wr W) => szs_any a2 mo W S Z A2 q2 (hsw _ h) (s2.imp fun _ _ hx => StR.keep (hsm _ h) hx))
            obtain ⟨z0, z1, z2, z3, zl⟩ := bk4 hka
            have HB := Lib.hid hb.out
            have HFA := Lib.hid hfa
            have HKA := Lib.hid hka
            have HWA := Lib.hid hwa
            clear hd hat hb hbS r1 hv s1 s2 hsw hsm hfa hka hwa
            go_wp2_with fail
            rw [← HWA.out]
            clear c0 c1 c2 c3 hxr x0 x1 x2 x3 hl1
            go_quiet ((go_at_call 17; exact quiet_d (HR1.out _ _)))
            obtain ⟨wb, hwb⟩ : ∃ y, y = wa.drewN nq := ⟨_, rfl⟩
            rw [← hwb]
            have hdb : Dr wa wb := ⟨nq, hwb⟩
            have hkb := HKA.out.fr0 hdb.fr
            clear z0 z1 z2 z3 zl
            obtain ⟨z0, z1, z2, z3, zl⟩ := bk4 hkb
            have HDB := Lib.hid (HFA.out.trans hdb.fr)
            clear hdb hwb hkb
            go_wp2_with fail
            refine (HR2.out _ _ HDB.out).mono ?_
            rintro _ wc ⟨rfl, hdc⟩
            have HDC := Lib.hid (HB.out.trans (HDB.out.trans hdc.fr))
            clear hdc z0 z1 z2 z3
            go_wp2_with fail
            go_roundw
            case rel => exact ⟨j + 1, _, by omega, by go_num, rfl, HDC.out⟩
            case measure => simp [intOf]; omega
          · have hcase : (¬ (j : Int) < (n3 : Int)) ∨ ((j : Int) < (n3 : Int) ∧ decide (u ≤ 5000) = false) := by
              simp only [decide_eq_false_iff_not]
              omega
            have HB := Lib.hid hb.out
            clear hb hgo
            rcases hcase with hltj | ⟨hltj, hv2⟩
            all_goals
              go_wp2_with fail
              go_ret
              exact ⟨_, rfl, HF1.out.trans HB.out⟩
end Go.Proofs.YtfkdbifnhgadaaaGreatDoor

/-
  law11: calls; CheckCalls.
-/
namespace Go.Proofs.YtfkdbifnhgadaaaGreatDoor
open Go.RowKit Go.Shelf
set_option linter.unusedVariables false
set_option linter.unusedSimpArgs false

theorem callsB_step {nm : ByteArray} {xs : Sts} {i : Nat} {a0 a1 a2 a3 a4 a5 a6 ar} (hd : Sts.drop i xs = .cons a0 a1 a2 a3 a4 a5 a6 ar) :
    callsB nm (Sts.drop i xs) = ((a0 == 9 && a1.toList == nm.toList) || callsB nm a4 || callsB nm a5 || callsB nm (Sts.drop (i + 1) xs)) := by
  rw [Sts.drop_succ i xs hd, hd]
  simp only [callsB]
def CaP (b : Bool) (W : World) (e : Ending) (w' : World) : Prop := e = .returned (.bool b) ∧ W = w'
def CaC (nm : ByteArray) (xs : Sts) : Prop := ∀ (W : World) (S : Nat → Prop) (Z : Prop) (A : Option Addr) (c : Nat), (∀ x, S x → x < W.heap.size) → SlR (fun b o => StR W S Z xs b o) xs.len 128 A c →
  Calls Tryz.prog 15 #[.slice A xs.len c, .string nm] W (CaP (callsB nm xs) W)
def CaI (nm : ByteArray) (xs : Sts) : Prop := ∀ (i : Nat) (a0 : Int) (a1 : ByteArray) (a2 : Exs) (a3 : Cds) (a4 a5 : Sts) (a6 : Int) (ar : Sts), Sts.drop i xs = .cons a0 a1 a2 a3 a4 a5 a6 ar → CaC nm a4 ∧ CaC nm a5
set_option maxRecDepth 100000 in
set_option maxHeartbeats 1600000 in
theorem ca_one (nm : ByteArray) (xs : Sts) (hall0 : CaI nm xs) : CaC nm xs := by
  intro w S Z A c hS hx
  have hl : xs.len ≤ 9223372036854775807 := Nat.le_trans hx.1 hx.2.1.1
  have HA := Lib.hid hall0
  have HX := Lib.hid hx
  have HS := Lib.hid hS
  obtain ⟨m, hm⟩ : ∃ m, m = xs.len := ⟨_, rfl⟩
  rw [← hm] at hl ⊢
  have HM := Lib.hid hm
  obtain ⟨F, hF⟩ : ∃ F, F = callsB nm xs := ⟨_, rfl⟩
  rw [← hF]
  have HF := Lib.hid hF
  clear hall0 hx hS hm hF
  go_enter Tryz.func15, Tryz.ntmps15
  go_wp2_with fail
  go_loop [5] (fun i => ∃ k : Nat, k ≤ m ∧ i = .int .i64 k ∧ Hid (F = callsB nm (Sts.drop k xs))) (fun i => m - (intOf i).toNat)
  case atStart => exact ⟨0, Nat.zero_le _, rfl, HF.out⟩
  case round =>
    obtain ⟨k, hk, rfl, hall⟩ := hrel
    by_cases hlt : k < m
    · obtain ⟨a0, a1, a2, a3, a4, a5, a6, ar, hd⟩ := Sts.drop_cons (show k < xs.len from by rw [← HM.out]; exact hlt)
      obtain ⟨B, o, rfl, hat⟩ := HX.out.2.2 (by rw [← HM.out]; omega)
      have hat1 := hat.drop k
      rw [hd] at hat1
      obtain ⟨⟨hbS, _, r0, r1, c0, c1, c6⟩, ⟨A2, q2, c2, s2⟩, ⟨A3, q3, c3, s3⟩, ⟨A4, q4, c4, s4⟩, ⟨A5, q5, c5, s5⟩, _⟩ := hat1
      have hxr : B < w.heap.size := HS.out _ hbS
      have hlt' : (k : Int) < (m : Int) := by omega
      have hge : (0 : Int) ≤ (k : Int) := by omega
      obtain ⟨hr4, hr5⟩ := HA.out k a0 a1 a2 a3 a4 a5 a6 ar hd
      have H4 := hr4 w S Z A4 q4 HS.out s4
      have H5 := hr5 w S Z A5 q5 HS.out s5
      have hst := hall.out.trans (callsB_step hd)
      obtain ⟨v4, hv4⟩ : ∃ v, v = callsB nm a4 := ⟨_, rfl⟩
      obtain ⟨v5, hv5⟩ : ∃ v, v = callsB nm a5 := ⟨_, rfl⟩
      obtain ⟨p, hp⟩ : ∃ v, v = (a0 == 9) := ⟨_, rfl⟩
      obtain ⟨q, hq⟩ : ∃ v, v = (a1.toList == nm.toList) := ⟨_, rfl⟩
      rw [← hv4, ← hv5, ← hp, ← hq] at hst
      rw [← hv4] at H4
      rw [← hv5] at H5
      have HST := Lib.hid hst
      have H4 := Lib.hid H4
      have H5 := Lib.hid H5
      have e1 := hp.symm
      have e2 := hq.symm
      clear hd hat hall hbS s2 s3 s4 s5 r0 r1 hr4 hr5 hst hv4 hv5 hp hq c2 c3 c6
      have hcase : (p = true ∧ q = true) ∨ (p = true ∧ q = false) ∨ p = false := by cases p <;> cases q <;> simp
      rcases hcase with ⟨rfl, rfl⟩ | ⟨rfl, rfl⟩ | rfl
      · have HE := Lib.hid (show F = true from by rw [HST.out]; rfl)
        clear HST
        go_wp2_with fail
        go_ret
        exact ⟨by rw [HE.out]; rfl, rfl⟩
      all_goals
        go_wp2_with fail
        refine H4.out.mono ?_
        rintro _ _ ⟨rfl, rfl⟩
        cases v4
        rotate_left
        · have HE := Lib.hid (show F = true from by rw [HST.out]; simp)
          clear HST
          go_wp2_with fail
          go_ret
          exact ⟨by rw [HE.out]; rfl, rfl⟩
        go_wp2_with fail
        refine H5.out.mono ?_
        rintro _ _ ⟨rfl, rfl⟩
        cases v5
        rotate_left
        · have HE := Lib.hid (show F = true from by rw [HST.out]; simp)
          clear HST
          go_wp2_with fail
          go_ret
          exact ⟨by rw [HE.out]; rfl, rfl⟩
        have HN := Lib.hid (show F = callsB nm (Sts.drop (k + 1) xs) from by rw [HST.out]; simp)
        clear HST
        go_wp2_with fail
        go_round
        case rel => exact ⟨k + 1, by omega, by go_num, HN.out⟩
        case measure => simp [intOf]; omega
    · have HE := Lib.hid (show F = false from by rw [hall.out, Sts.drop_nil (by rw [← HM.out]; omega)]; rfl)
      have hlt' : ¬ (k : Int) < (m : Int) := by omega
      clear hall
      go_wp2_with fail
      go_ret
      exact ⟨by rw [HE.out]; rfl, rfl⟩
theorem cai_all (nm : ByteArray) : ∀ xs : Sts, CaI nm xs
  | .nil => fun i _ _ _ _ _ _ _ _ hd => by cases i <;> simp [Sts.drop] at hd
  | .cons k0 k1 k2 k3 k4 k5 k6 kr => fun i _ _ _ _ _ _ _ _ hd => by
    cases i with
    | zero =>
      simp only [Sts.drop] at hd
      injection hd with e0 e1 e2 e3 e4 e5 e6 e7
      subst e0 e1 e2 e3 e4 e5 e6 e7
      exact ⟨ca_one nm k4 (cai_all nm k4), ca_one nm k5 (cai_all nm k5)⟩
    | succ i =>
      simp only [Sts.drop] at hd
      exact cai_all nm kr i _ _ _ _ _ _ _ _ hd
/-- THE CONTRACT of law11.calls -/
theorem calls_any (nm : ByteArray) (xs : Sts) : CaC nm xs := ca_one nm xs (cai_all nm xs)
theorem get_drop {α : Type} {l : List α} {i : Nat} {x : α} {r : List α} (h : l.drop i = x :: r) : l[i]? = some x := by
  have := congrArg List.head? h
  simpa using this
set_option maxRecDepth 100000 in
set_option maxHeartbeats 1600000 in
/-- a tree that is great, or wrong -/
theorem ccalls_else (t : Tre) (w : World) (S : Nat → Prop) (Z : Prop) (Av Aa Ap Am : Option Addr) (cv ca cp cm : Nat) (he : NameEnv w) (hS : ∀ b, S b → b < w.heap.size) (hsz : SzT t) (hx : TrR w S Z t Av Aa Ap Am cv ca cp cm) (ht : (treeC t).2 ≠ 0) :
    Calls Tryz.prog 5 #[trV t Av Aa Ap Am cv ca cp cm] w (TruePost w) := by
  have hsw : ∀ W, Fr NoT w W → ∀ b, S b → b < W.heap.size := fun W h b hb => Nat.lt_of_lt_of_le (hS b hb) h.size
  have hxw : ∀ W, Fr NoT w W → TrR W S Z t Av Aa Ap Am cv ca cp cm := fun W h => hx.keep (h.same fun b hb => ⟨hS b hb, id⟩)
  have H1 := Lib.hid (fun W (h : Fr NoT w W) => calive_any W (he.keep h.plain))
  have H2 := Lib.hid (fun W (h : Fr NoT w W) => tgreat_any t W S Z Av Aa Ap Am cv ca cp cm (hsw W h) (hxw W h))
  have h3 := fun W (h : Fr NoT w W) => ctree_any t W S Z Av Aa Ap Am cv ca cp cm (he.keep h.plain) (hsw W h) hsz (hxw W h)
  obtain ⟨⟨a, e⟩, hp⟩ : ∃ q, q = treeC t := ⟨_, rfl⟩
  rw [← hp] at ht h3
  have e1 : (e != 0) = true := by simpa using ht
  have H3 := Lib.hid h3
  unfold trV at H2 H3 ⊢
  have hf1 : Fr NoT w (w.alloc (.cells #[.slice Av t.vars.length cv, .slice Aa t.arrays.length ca, .slice Ap t.procs.length cp, .slice Am t.main.len cm] 27)) := (Fr.refl _ _).alloc _
  have HF1 := Lib.hid hf1
  have HK1 := Lib.hid (Bk.new w 27 #[.slice Av t.vars.length cv, .slice Aa t.arrays.length ca, .slice Ap t.procs.length cp, .slice Am t.main.len cm])
  clear hsw hxw h3 hp ht hf1 hx hsz hS he
  go_enter Tryz.func5, Tryz.ntmps5
  go_wp2_with fail
  refine (H1.out _ HF1.out).mono ?_
  rintro _ w1 ⟨rfl, hb1⟩
  have hk1 := HK1.out.fr0 (Fr.below hb1)
  obtain ⟨x0, x1, x2, x3, hl1⟩ := bk4 hk1
  have HF2 := Lib.hid (HF1.out.trans (Fr.below hb1))
  have HK2 := Lib.hid hk1
  clear hb1 hk1 H1
  go_wp2_with fail
  refine (H2.out _ HF2.out).mono ?_
  rintro _ w2 ⟨g, rfl, hf2⟩
  have HF3 := Lib.hid (HF2.out.trans hf2)
  have hk2 := HK2.out.fr0 hf2
  clear x0 x1 x2 x3 hl1
  obtain ⟨x0, x1, x2, x3, hl1⟩ := bk4 hk2
  clear hf2 hk2 H2
  cases g
  · go_wp2_with fail
    refine (H3.out _ HF3.out).mono ?_
    rintro _ w3 ⟨rfl, hf3⟩
    have HF4 := Lib.hid (HF3.out.trans hf3)
    clear hf3
    go_wp2_with fail
    go_ret
    exact ⟨rfl, HF4.out.plain⟩
  · go_wp2_with fail
    go_ret
    exact ⟨rfl, HF3.out.plain⟩
set_option maxRecDepth 100000 in
set_option maxHeartbeats 1600000 in
/-- a tree that is right -/
theorem ccalls_right (t : Tre) (w : World) (S : Nat → Prop) (Z : Prop) (Av Aa Ap Am : Option Addr) (cv ca cp cm : Nat) (he : NameEnv w) (hS : ∀ b, S b → b < w.heap.size) (hsz : SzT t) (hx : TrR w S Z t Av Aa Ap Am cv ca cp cm) (ht : OkT t) :
    Calls Tryz.prog 5 #[trV t Av Aa Ap Am cv ca cp cm] w (TruePost w) := by
  have hsw : ∀ W, Fr NoT w W → ∀ b, S b → b < W.heap.size := fun W h b hb => Nat.lt_of_lt_of_le (hS b hb) h.size
  have hxw : ∀ W, Fr NoT w W → TrR W S Z t Av Aa Ap Am cv ca cp cm := fun W h => hx.keep (h.same fun b hb => ⟨hS b hb, id⟩)
  have H1 := Lib.hid (fun W (h : Fr NoT w W) => calive_any W (he.keep h.plain))
  have H2 := Lib.hid (fun W (h : Fr NoT w W) => tgreat_any t W S Z Av Aa Ap Am cv ca cp cm (hsw W h) (hxw W h))
  have h3 := fun W (h : Fr NoT w W) => ctree_any t W S Z Av Aa Ap Am cv ca cp cm (he.keep h.plain) (hsw W h) hsz (hxw W h)
  rw [treeC_ok ht] at h3
  obtain ⟨q1, q2, q3, q4, q5⟩ := law_calls ht
  have Q1 := Lib.hid q1
  have Q2 := Lib.hid q2
  have Q3 := Lib.hid q3
  have H3 := Lib.hid h3
  have HSW := Lib.hid hsw
  have HXW := Lib.hid hxw
  unfold trV at H2 H3 ⊢
  obtain ⟨n1, hn1⟩ : ∃ n, n = t.vars.length := ⟨_, rfl⟩
  obtain ⟨n2, hn2⟩ : ∃ n, n = t.arrays.length := ⟨_, rfl⟩
  obtain ⟨n3, hn3⟩ : ∃ n, n = t.procs.length := ⟨_, rfl⟩
  obtain ⟨n4, hn4⟩ : ∃ n, n = t.main.len := ⟨_, rfl⟩
  rw [← hn1, ← hn2, ← hn3, ← hn4] at H2 H3 ⊢
  rw [← hn1] at q4
  rw [← hn3] at q5
  have HN1 := Lib.hid hn1
  have HN3 := Lib.hid hn3
  have hf1 : Fr NoT w (w.alloc (.cells #[.slice Av n1 cv, .slice Aa n2 ca, .slice Ap n3 cp, .slice Am n4 cm] 27)) := (Fr.refl _ _).alloc _
  have HF1 := Lib.hid hf1
  have HK1 := Lib.hid (Bk.new w 27 #[.slice Av n1 cv, .slice Aa n2 ca, .slice Ap n3 cp, .slice Am n4 cm])
  have r1 : decide ((n3 : Int) ≤ 8) = true := by simp; omega
  have r2 : decide ((n1 : Int) ≤ 12) = true := by simp; omega
  clear hsw hxw h3 ht hf1 hx hsz hS he q1 q2 q3 hn1 hn2 hn3 hn4
  go_enter Tryz.func5, Tryz.ntmps5
  go_wp2_with fail
  refine (H1.out _ HF1.out).mono ?_
  rintro _ w1 ⟨rfl, hb1⟩
  have hk1 := HK1.out.fr0 (Fr.below hb1)
  obtain ⟨x0, x1, x2, x3, hl1⟩ := bk4 hk1
  have HF2 := Lib.hid (HF1.out.trans (Fr.below hb1))
  have HK2 := Lib.hid hk1
  clear hb1 hk1 H1
  go_wp2_with fail
  refine (H2.out _ HF2.out).mono ?_
  rintro _ w2 ⟨g, rfl, hf2⟩
  have HF3 := Lib.hid (HF2.out.trans hf2)
  have hk2 := HK2.out.fr0 hf2
  clear x0 x1 x2 x3 hl1
  obtain ⟨x0, x1, x2, x3, hl1⟩ := bk4 hk2
  have HK3 := Lib.hid hk2
  clear hf2 hk2 H2
  cases g
  rotate_left
  · go_wp2_with fail
    go_ret
    exact ⟨rfl, HF3.out.plain⟩
  go_wp2_with fail
  refine (H3.out _ HF3.out).mono ?_
  rintro _ w3 ⟨rfl, hf3⟩
  have HF4 := Lib.hid (HF3.out.trans hf3)
  have hk4 := HK3.out.fr0 hf3
  have HK4 := Lib.hid hk4
  clear x0 x1 x2 x3 hl1 hf3 hk4 H3
  go_wp2_with fail
  go_loopw [6] (fun i wr => ∃ k : Nat, k ≤ n3 ∧ i = .int .i64 k ∧ Hid (Fr NoT w3 wr)) (fun i _ => n3 - (intOf i).toNat)
  case atStart => exact ⟨0, Nat.zero_le _, rfl, Fr.refl _ _⟩
  case round =>
    obtain ⟨k, hk, rfl, hb⟩ := hrel
    have hkk := HK4.out.fr0 hb.out
    obtain ⟨x0, x1, x2, x3, hl1⟩ := bk4 hkk
    have HB := Lib.hid hb.out
    clear hb hkk
    by_cases hlt : k < n3
    rotate_left
    · have hlt' : ¬ (k : Int) < (n3 : Int) := by omega
      go_wp2_with fail
      go_ret
      exact ⟨rfl, (HF4.out.trans HB.out).plain⟩
    have hlt' : (k : Int) < (n3 : Int) := by omega
    have hge : (0 : Int) ≤ (k : Int) := by omega
    obtain ⟨⟨a0, a1, a2, a3⟩, ar, hd⟩ := drop_head1 (show k < t.procs.length from by rw [← HN3.out]; exact hlt)
    have HG := Lib.hid (get_drop hd.1)
    have HD := Lib.hid hd
    clear hd
    go_wp2_with fail
    clear x0 x1 x2 x3 hl1
    obtain ⟨wo, rfl⟩ : ∃ wo : World, wo = wr := ⟨_, rfl⟩
    go_loopw [7] (fun i wr => ∃ j : Nat, k ≤ j ∧ j ≤ n3 ∧ i = .int .i64 j ∧ Hid (Fr NoT w3 wr)) (fun i _ => n3 - (intOf i).toNat)
    case atStart => exact ⟨k, Nat.le_refl _, hk, rfl, HB.out⟩
    case round =>
      clear HB
      obtain ⟨j, hkj, hj, rfl, hb⟩ := hrel
      have hkk := HK4.out.fr0 hb.out
      obtain ⟨x0, x1, x2, x3, hl1⟩ := bk4 hkk
      have HB := Lib.hid hb.out
      clear hkk
      by_cases hltj : j < n3
      · have hltj' : (j : Int) < (n3 : Int) := by omega
        have hgej : (0 : Int) ≤ (j : Int) := by omega
        have hT := HXW.out _ (HF4.out.trans hb.out)
        obtain ⟨B, o, hAp, hat⟩ := hT.procs.2.2 (by rw [← HN3.out]; omega)
        subst hAp
        have hat1 := hat.drop k
        rw [HD.out.1] at hat1
        obtain ⟨⟨hbS, _, _, c0, c3⟩, ⟨A1, q1, c1, _⟩, ⟨A2, q2, c2, s2⟩, _⟩ := hat1
        have hxr : B < wr.heap.size := HSW.out _ (HF4.out.trans hb.out) _ hbS
        simp only at c0 c1 c2 c3 s2
        have hca := fun (nm : ByteArray) (n : Nat) => calls_any nm a2 (wr.drewN n) S Z A2 q2 (HSW.out _ ((HF4.out.trans hb.out).drewN n)) (s2.imp fun _ _ hx => StR.keep (Dr.same ⟨n, rfl⟩) hx)
        have hcase : k < j ∨ k = j := by omega
        rcases hcase with hkj2 | hkj2
        · obtain ⟨⟨b0, b1, b2, b3⟩, br, hd2⟩ := drop_head1 (show j < t.procs.length from by rw [← HN3.out]; exact hltj)
          have hat2 := hat.drop j
          rw [hd2.1] at hat2
          obtain ⟨⟨_, _, _, d0, d3⟩, _, _, _⟩ := hat2
          simp only at d0 d3
          have hcf := Q1.out k j _ _ hkj HG.out (get_drop hd2.1)
          simp only at hcf
          have hca2 := hca b0
          rw [hcf] at hca2
          have HCA := Lib.hid hca2
          have hn := Q2.out k j ⟨a0, a1, a2, a3⟩ ⟨b0, b1, b2, b3⟩ hkj2 HG.out (get_drop hd2.1)
          simp only at hn
          have g1 : (a0.toList == b0.toList) = false := by
            have h2 : ¬ a0.toList = b0.toList := fun e => hn ((toList_data _ _).1 e)
            simpa using h2
          have g2 : decide ((k : Int) < (j : Int)) = true := by simp; omega
          have g3 : decide (k < j) = true := by simpa using hkj2
          clear hd2 hT hat hbS s2 hca hca2 hcf hn hb hkj hkj2 c1 c3 d3
          go_wp2_with fail
          go_quiet ((go_at_call 15; exact quiet_left (HCA.out _)))
          go_wp2_with fail
          go_roundw
          case rel => exact ⟨j + 1, by have := of_decide_eq_true g3; omega, by omega, by go_num, HB.out.drewN _⟩
          case measure => simp [intOf]; omega
        · subst hkj2
          have hcf := Q1.out k k _ _ (Nat.le_refl _) HG.out HG.out
          simp only at hcf
          have hca2 := hca a0
          rw [hcf] at hca2
          have HCA := Lib.hid hca2
          have g2 : decide ((k : Int) < (k : Int)) = false := by simp
          have g3 : decide (k < k) = false := by simp
          clear hT hat hbS s2 hca hca2 hcf hb c1 c3
          go_wp2_with fail
          go_quiet ((go_at_call 15; exact quiet_left (HCA.out _)))
          go_wp2_with fail
          go_roundw
          case rel => exact ⟨k + 1, by omega, by omega, by go_num, HB.out.drewN _⟩
          case measure => simp [intOf]; omega
      · have hltj' : ¬ (j : Int) < (n3 : Int) := by omega
        clear hb
        go_wp2_with fail
        clear x0 x1 x2 x3 hl1
        obtain ⟨wq, rfl⟩ : ∃ wq : World, wq = wr := ⟨_, rfl⟩
        go_loopw [8] (fun i wr => ∃ l : Nat, l ≤ n1 ∧ i = .int .i64 l ∧ Hid (Fr NoT w3 wr)) (fun i _ => n1 - (intOf i).toNat)
        case atStart => exact ⟨0, Nat.zero_le _, rfl, HB.out⟩
        case round =>
          clear HB
          obtain ⟨l, hl, rfl, hb⟩ := hrel
          have hkk := HK4.out.fr0 hb.out
          obtain ⟨x0, x1, x2, x3, hl1⟩ := bk4 hkk
          have HB := Lib.hid hb.out
          clear hkk
          by_cases hltl : l < n1
          · have hltl' : (l : Int) < (n1 : Int) := by omega
            have hgel : (0 : Int) ≤ (l : Int) := by omega
            obtain ⟨⟨b0, b1⟩, br, hd2⟩ := drop_head1 (show l < t.vars.length from by rw [← HN1.out]; exact hltl)
            have hT := HXW.out _ (HF4.out.trans hb.out)
            obtain ⟨B, o, hAp, hat⟩ := hT.procs.2.2 (by rw [← HN3.out]; omega)
            obtain ⟨B', o', hAv, hat'⟩ := hT.vars.2.2 (by rw [← HN1.out]; omega)
            subst hAp hAv
            have hat1 := hat.drop k
            have hat2 := hat'.drop l
            rw [HD.out.1] at hat1
            rw [hd2.1] at hat2
            obtain ⟨⟨hbS, _, _, c0, c3⟩, ⟨A1, q1, c1, _⟩, ⟨A2, q2, c2, _⟩, _⟩ := hat1
            obtain ⟨⟨hbS', _, _, d0, d1⟩, _⟩ := hat2
            have hxr : B < wr.heap.size := HSW.out _ (HF4.out.trans hb.out) _ hbS
            have hxr' : B' < wr.heap.size := HSW.out _ (HF4.out.trans hb.out) _ hbS'
            simp only at c0 c1 c2 c3 d0 d1
            have g1 : (b0.toList == a0.toList) = false := by
              have := Q3.out ⟨b0, b1⟩ ⟨a0, a1, a2, a3⟩ (mem_drop1 hd2.1) (mem_drop1 HD.out.1)
              simp only at this
              have h2 : ¬ b0.toList = a0.toList := fun e => this ((toList_data _ _).1 e)
              simpa using h2
            clear hd2 hT hat hat' hbS hbS' hb
            go_wp2_with fail
            go_quiet (fail)
            go_wp2_with fail
            go_roundw
            case rel => exact ⟨l + 1, by omega, by go_num, HB.out.drewN _⟩
            case measure => simp [intOf]; omega
          · have hltl' : ¬ (l : Int) < (n1 : Int) := by omega
            clear hb
            go_wp2_with fail
            go_roundw
            case rel => exact ⟨k + 1, by omega, by go_num, HB.out⟩
            case measure => simp [intOf]; omega
/-- CheckCalls is true -/
theorem ccalls_any (t : Tre) (w : World) (S : Nat → Prop) (Z : Prop) (Av Aa Ap Am : Option Addr) (cv ca cp cm : Nat) (he : NameEnv w) (hS : ∀ b, S b → b < w.heap.size) (hsz : SzT t) (hx : TrR w S Z t Av Aa Ap Am cv ca cp cm) :
    Calls Tryz.prog 5 #[trV t Av Aa Ap Am cv ca cp cm] w (TruePost w) := by
  by_cases h : (treeC t).2 = 0
  · exact ccalls_right t w S Z Av Aa Ap Am cv ca cp cm he hS hsz hx (treeC_no h)
  · exact ccalls_else t w S Z Av Aa Ap Am cv ca cp cm he hS hsz hx h
end Go.Proofs.YtfkdbifnhgadaaaGreatDoor
