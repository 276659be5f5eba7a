/-
  parse: times, sum and expr: chains within chains.
-/
import Derived.Test.YtfkdbifnhgadaaaGreatDoorPaChain
import Derived.Deep.RegionHeld2
namespace Go.Proofs.YtfkdbifnhgadaaaGreatDoor
open Go.RowKit Go.Shelf
set_option linter.unusedVariables false
set_option linter.unusedSimpArgs false

/-- how what parses an expression ends, as two ways -/
theorem ExP.ways {C : Pcx} {d : Nat} {r : PR Ex} {W w' : World} {e : Ending} (h : ExP C d r W e w') :
    (∃ (x : Ex) (l : List Tk) (A : Option Addr) (c : Nat), r = .ok x l ∧ e = .returned (.agg #[.int .u8 x.k, .string x.nm, .int .i64 x.n, .slice A x.args.len c, .int .i64 x.at_]) ∧ ExV w' W.heap.size (exV x.k x.nm x.n A x.args.len c x.at_) x ∧ PaAt C w' l d ∧ Fr C.T W w') ∨
      ∃ c a, r = .err c a ∧ e = .panicked [{ v := .iface 109 (.agg #[.int .i64 c, .int .i64 a]), recovered := false }] ∧ Fr C.T W w' := by
  unfold ExP at h
  cases r with
  | err c a => exact .inr ⟨c, a, rfl, h⟩
  | ok x l =>
    obtain ⟨v, rfl, hv, hp, hf⟩ := h
    obtain ⟨A, c, rfl⟩ := ExVS.parts hv
    exact .inl ⟨x, l, A, c, rfl, rfl, hv, hp, hf⟩
/-- a result is laid into its box -/
theorem exP_box {C : Pcx} {w WA w7 w9 : World} {d rb : Nat} {x : Ex} {l : List Tk} {A : Option Addr} {c : Nat} (hL : C.P < w.heap.size ∧ C.TB < w.heap.size ∧ C.W0.heap.size ≤ w.heap.size) (hA : Fr NoT w WA) (hr : w.heap.size ≤ rb) (hr2 : rb < WA.heap.size)
    (hv : ExV w7 WA.heap.size (exV x.k x.nm x.n A x.args.len c x.at_) x) (hp : PaAt C w7 l d) (hf : Fr C.T WA w7)
    (h9 : w9 = ((((w7.setCell ⟨rb, 0, none⟩ (.int .u8 x.k)).setCell ⟨rb, 1, none⟩ (.string x.nm)).setCell ⟨rb, 2, none⟩ (.int .i64 x.n)).setCell ⟨rb, 3, none⟩ (.slice A x.args.len c)).setCell ⟨rb, 4, none⟩ (.int .i64 x.at_)) :
    ExP C d (.ok x l) w (.returned (exV x.k x.nm x.n A x.args.len c x.at_)) w9 := by
  have hf9 : Fr (fun b => b = rb) w7 w9 := by rw [h9]; exact Fr.own (Fr.own (Fr.own (Fr.own (Fr.own (Fr.refl _ _) _ _) _ _) _ _) _ _) _ _
  have h1 := hA.size
  unfold ExP
  refine ⟨_, rfl, (ExV.fr hv hf9 fun b h2 h3 e => ?_).low (by omega), hp.fr hf9 (fun e => ?_) (fun e => ?_) (fun i hi e => ?_), ?_⟩
  · have e : b = rb := e
    omega
  · have e : C.P = rb := e
    omega
  · have e : C.TB = rb := e
    omega
  · have e : i = rb := e
    omega
  · rw [h9]
    have := hA.any.trans hf
    exact Fr.high (Fr.high (Fr.high (Fr.high (Fr.high this (by omega) _ _) (by omega) _ _) (by omega) _ _) (by omega) _ _) (by omega) _ _
def strA (signs : List (List UInt8)) : Array Value := (signs.map fun s => Value.string ⟨s.toArray⟩).toArray
theorem ordA (w : World) (cs ss : Array Value) (W : World) (hW : W = ((w.alloc (.cells cs 5)).alloc (.cells ss 9)).drew) : Bk W w.heap.size 5 cs ∧ Bk W (w.heap.size + 1) 9 ss ∧ Fr NoT w W := by
  subst hW
  exact ⟨(Bk.new w _ _).alloc _, Bk.new_at _ _ _ (by simp), Fr.drew (((Fr.refl NoT w).alloc _).alloc _)⟩
theorem ordB (w : World) (cs ss : Array Value) (W : World) (hW : W = ((w.alloc (.cells ss 9)).alloc (.cells cs 5)).drew) : Bk W (w.heap.size + 1) 5 cs ∧ Bk W w.heap.size 9 ss ∧ Fr NoT w W := by
  subst hW
  exact ⟨Bk.new_at _ _ _ (by simp), (Bk.new w _ _).alloc _, Fr.drew (((Fr.refl NoT w).alloc _).alloc _)⟩
theorem chain_of (C : Pcx) (one : List Tk → PR Ex) (first : Int) (signs : List (List UInt8)) (g : Nat) (fst cap : Array Value) (bt b m : Nat) (l : List Tk) (d : Nat) (w : World) (hk : C.Ok) (h : PaAt C w l d) (hshr : Shr one)
    (hm : m = signs.length) (hsg : ∀ s ∈ signs, s ≠ []) (hsl : signs.length ≤ 3) (hss : Bk w b 9 (strA signs)) (hbP : b ≠ C.P)
    (hbt : Bk w bt 5 #[.int .u8 first]) (hbtP : bt ≠ C.P) (hf0 : 0 ≤ first) (hf1 : first ≤ 20)
    (hent : Enters Tryz.prog g) (hone : ∀ W, Fr C.T w W → ∀ l', PaAt C W l' d → Calls Tryz.prog g (fst ++ cap) W (ExP C d (one l') W)) :
    Calls Tryz.prog 161 #[.pointer (some ⟨C.P, 0, none⟩), .func (.func g) fst cap, .func (.func 181) #[] #[.pointer (some ⟨bt, 0, none⟩)], .slice (some ⟨b, 0, none⟩) m m] w (ExP C d (chainP one (twoX first) signs l) w) := by
  subst hm
  exact chainE_any C one first signs g fst cap bt b _ l d w hk h hshr hsg hsl (fun j hj => by rw [hss.cell j]; simp [strA, hj]) hss.lt hbP hbt hbtP hf0 hf1 hent hone

/-- what stands between signs, at a level -/
def SignC (C : Pcx) (n : Nat) : Prop := ∀ (l : List Tk) (d : Nat) (w : World), d + n = 24 → PaAt C w l d → Calls Tryz.prog 162 #[.pointer (some ⟨C.P, 0, none⟩)] w (ExP C d (signP n l) w)
def timesP (n : Nat) (l : List Tk) : PR Ex := chainP (signP n) (twoX 7) mulS l
def sumP (n : Nat) (l : List Tk) : PR Ex := chainP (timesP n) (twoX 5) addS l
theorem timesP_shr (n : Nat) : Shr (timesP n) := chainP_shr (signP_shr n)
theorem sumP_shr (n : Nat) : Shr (sumP n) := chainP_shr (timesP_shr n)
theorem exprP_sum (n : Nat) (l : List Tk) : exprP n l = chainP (sumP n) (twoX 10) shS l := rfl

set_option maxRecDepth 100000 in
set_option maxHeartbeats 3200000 in
theorem times_any (C : Pcx) (n : Nat) (hs : SignC C n) (l : List Tk) (d pb : Nat) (w : World) (hdn : d + n = 24) (hk : C.Ok) (h : PaAt C w l d) (hpb : Bk w pb 110 #[.pointer (some ⟨C.P, 0, none⟩)]) (hne : pb ≠ C.P) :
    Calls Tryz.prog 160 #[.pointer (some ⟨pb, 0, none⟩)] w (ExP C d (timesP n l) w) := by
  have hmf : ∀ (fn : Fn) (first cap : Array Value) (w : World), (Instr.makeFunc fn first cap).run Tryz.prog w = .ok (.func fn first cap) w := fun _ _ _ _ => rfl
  have hL := h.lts
  have hpl := hpb.lt
  have hpP : pb ≠ C.P := hne
  have hp0 := hpb.cell 0
  simp only [List.getElem?_toArray, List.getElem?_cons_zero] at hp0
  obtain ⟨w1, hw1⟩ : ∃ w1, w1 = w.alloc (.cells #[.int .u8 0, .string ⟨#[]⟩, .int .i64 0, .slice none 0 0, .int .i64 0] 117) := ⟨_, rfl⟩
  have hz1 : w1.heap.size = w.heap.size + 1 := by rw [hw1]; simp
  have hf1 : Fr NoT w w1 := by rw [hw1]; exact (Fr.refl _ _).alloc _
  have hbx : Bk w1 w.heap.size 117 #[.int .u8 0, .string ⟨#[]⟩, .int .i64 0, .slice none 0 0, .int .i64 0] := by rw [hw1]; exact Bk.new _ _ _
  obtain ⟨a1, a2, a3⟩ := ordA w1 #[.int .u8 7] (strA mulS) _ rfl
  obtain ⟨b1, b2, b3⟩ := ordB w1 #[.int .u8 7] (strA mulS) _ rfl
  rw [hz1] at a1 a2 b1 b2
  have key : ∀ (W : World) (bt b : Nat), Fr NoT w1 W → Bk W bt 5 #[.int .u8 7] → Bk W b 9 (strA mulS) → w.heap.size < bt → w.heap.size < b → Calls Tryz.prog 161 #[.pointer (some ⟨C.P, 0, none⟩), .func (.func 162) #[.pointer (some ⟨C.P, 0, none⟩)] #[], .func (.func 181) #[] #[.pointer (some ⟨bt, 0, none⟩)], .slice (some ⟨b, 0, none⟩) 3 3] W (ExP C d (timesP n l) W) := fun W bt b hf h1 h2 h3 h4 =>
    chain_of C (signP n) 7 mulS 162 _ _ bt b 3 l d W hk (h.fr (hf1.trans hf) id id fun _ _ => id) (signP_shr n) rfl (by decide) (by decide) h2 (by omega) h1 (by omega) (by decide) (by decide) (enters_of Tryz.func162 (by kernel_rfl) rfl) fun W' _ l' hp' => by
      simpa using hs l' d W' hdn hp'
  have fin : ∀ (WA w7 : World) (e : Ending), Fr NoT w1 WA → ExP C d (timesP n l) WA e w7 → Fr NoT w WA ∧ Bk WA w.heap.size 117 #[.int .u8 0, .string ⟨#[]⟩, .int .i64 0, .slice none 0 0, .int .i64 0] := fun WA w7 e hf _ => ⟨hf1.trans hf, hbx.fr0 hf⟩
  have HA := Lib.hid (key _ _ _ a3 a1 a2 (by omega) (by omega))
  have HB := Lib.hid (key _ _ _ b3 b1 b2 (by omega) (by omega))
  have HFA := Lib.hid (And.intro (hf1.trans a3) (hbx.fr0 a3))
  have HFB := Lib.hid (And.intro (hf1.trans b3) (hbx.fr0 b3))
  rw [hw1] at HA HB HFA HFB
  have HL := Lib.hid hL
  have hne2 : ¬ w.heap.size = C.P := by omega
  have HNE := Lib.hid hne2
  clear key fin hw1 hz1 hf1 hbx a1 a2 a3 b1 b2 b3 hL h hk hs hpb hne hne2
  unfold strA mulS at HA HB HFA HFB
  simp only [List.map_cons, List.map_nil] at HA HB HFA HFB
  go_enter Tryz.func160, Tryz.ntmps160
  go_wp2_with fail
  go_region_held2 (fun W' => W'.cell? ⟨pb, 0, none⟩ = some (.pointer (some ⟨C.P, 0, none⟩)))
    (first
      | (with_reducible assumption)
      | (with_reducible refine (Fr.cell (T := fun b => b = w.heap.size) (w := w7) (Fr.own (Fr.own (Fr.own (Fr.own (Fr.own (Fr.refl _ _) _ _) _ _) _ _) _ _) _ _) hpl7.1 hpl7.2).trans hp7)
      | (refine (Fr.cell (T := NoT) (w := w) ?_ hpl id).trans hp0
         repeat (first | exact Fr.refl _ _ | refine Fr.alloc ?_ _ | refine Fr.drew ?_)))
    (first
      | (go_at_call 163
         refine (two_any _ _).mono ?_
         rintro _ wa ⟨rfl, rfl⟩)
      | (go_at_call 161
         with_reducible refine HA.out.mono ?_
         intro e w7 hE
         rcases hE.ways with ⟨x, r, A, c, hR, rfl, hv, hp, hf⟩ | ⟨c, a, hR, rfl, hf⟩
         rotate_left
         · exact ⟨rfl, by rw [hR]; exact ⟨rfl, (HFA.out.1.any).trans hf⟩⟩
         have hb7 := HFA.out.2.fr hf HNE.out
         have q0 := hb7.cell 0
         have q1 := hb7.cell 1
         have q2 := hb7.cell 2
         have q3 := hb7.cell 3
         have q4 := hb7.cell 4
         have g0 := hb7.frozen 0
         have g1 := hb7.frozen 1
         have g2 := hb7.frozen 2
         have g3 := hb7.frozen 3
         have g4 := hb7.frozen 4
         have hlt7 := hb7.lt
         have hp7 := (hp0.symm.trans ((HFA.out.1.cell (p := ⟨pb, 0, none⟩) hpl id).symm.trans (hf.cell (p := ⟨pb, 0, none⟩) (Nat.lt_of_lt_of_le hpl HFA.out.1.size) hpP).symm)).symm
         have hpl7 : pb < w7.heap.size ∧ ¬ pb = w.heap.size := ⟨Nat.lt_of_lt_of_le hpl (Nat.le_trans HFA.out.1.size hf.size), by omega⟩
         simp only [List.getElem?_toArray, List.getElem?_cons_succ, List.getElem?_cons_zero] at q0 q1 q2 q3 q4
         have HE := Lib.hid (show ∀ w9, w9 = ((((w7.setCell ⟨w.heap.size, 0, none⟩ (.int .u8 x.k)).setCell ⟨w.heap.size, 1, none⟩ (.string x.nm)).setCell ⟨w.heap.size, 2, none⟩ (.int .i64 x.n)).setCell ⟨w.heap.size, 3, none⟩ (.slice A x.args.len c)).setCell ⟨w.heap.size, 4, none⟩ (.int .i64 x.at_) → ExP C d (timesP n l) w (.returned (exV x.k x.nm x.n A x.args.len c x.at_)) w9 from fun w9 h9 => by
           rw [hR]
           exact exP_box HL.out HFA.out.1 (Nat.le_refl _) HFA.out.2.lt hv hp hf h9)
         clear hR hv hp hf hb7)
      | (go_at_call 161
         with_reducible refine HB.out.mono ?_
         intro e w7 hE
         rcases hE.ways with ⟨x, r, A, c, hR, rfl, hv, hp, hf⟩ | ⟨c, a, hR, rfl, hf⟩
         rotate_left
         · exact ⟨rfl, by rw [hR]; exact ⟨rfl, (HFB.out.1.any).trans hf⟩⟩
         have hb7 := HFB.out.2.fr hf HNE.out
         have q0 := hb7.cell 0
         have q1 := hb7.cell 1
         have q2 := hb7.cell 2
         have q3 := hb7.cell 3
         have q4 := hb7.cell 4
         have g0 := hb7.frozen 0
         have g1 := hb7.frozen 1
         have g2 := hb7.frozen 2
         have g3 := hb7.frozen 3
         have g4 := hb7.frozen 4
         have hlt7 := hb7.lt
         have hp7 := (hp0.symm.trans ((HFB.out.1.cell (p := ⟨pb, 0, none⟩) hpl id).symm.trans (hf.cell (p := ⟨pb, 0, none⟩) (Nat.lt_of_lt_of_le hpl HFB.out.1.size) hpP).symm)).symm
         have hpl7 : pb < w7.heap.size ∧ ¬ pb = w.heap.size := ⟨Nat.lt_of_lt_of_le hpl (Nat.le_trans HFB.out.1.size hf.size), by omega⟩
         simp only [List.getElem?_toArray, List.getElem?_cons_succ, List.getElem?_cons_zero] at q0 q1 q2 q3 q4
         have HE := Lib.hid (show ∀ w9, w9 = ((((w7.setCell ⟨w.heap.size, 0, none⟩ (.int .u8 x.k)).setCell ⟨w.heap.size, 1, none⟩ (.string x.nm)).setCell ⟨w.heap.size, 2, none⟩ (.int .i64 x.n)).setCell ⟨w.heap.size, 3, none⟩ (.slice A x.args.len c)).setCell ⟨w.heap.size, 4, none⟩ (.int .i64 x.at_) → ExP C d (timesP n l) w (.returned (exV x.k x.nm x.n A x.args.len c x.at_)) w9 from fun w9 h9 => by
           rw [hR]
           exact exP_box HL.out HFB.out.1 (Nat.le_refl _) HFB.out.2.lt hv hp hf h9)
         clear hR hv hp hf hb7))
  all_goals
    go_wp2_with fail
    exact bodyPost_ret (v := exV x.k x.nm x.n A x.args.len c x.at_) (by simp [results, Tryz.results160, go_sem, exV, q0, q1, q2, q3, q4, hlt7]) rfl (HE.out _ rfl)
-- sum
set_option maxRecDepth 100000 in
set_option maxHeartbeats 3200000 in
theorem sum_any (C : Pcx) (n : Nat) (hs : SignC C n) (l : List Tk) (d pb fb : Nat) (w : World) (hdn : d + n = 24) (hk : C.Ok) (h : PaAt C w l d) (hpb : Bk w pb 110 #[.pointer (some ⟨C.P, 0, none⟩)]) (hne : pb ≠ C.P) (hfb : Bk w fb 182 #[.func (.func 160) #[] #[.pointer (some ⟨pb, 0, none⟩)]]) (hneF : fb ≠ C.P) :
    Calls Tryz.prog 164 #[.pointer (some ⟨pb, 0, none⟩), .pointer (some ⟨fb, 0, none⟩)] w (ExP C d (sumP n l) w) := by
  have hmf : ∀ (fn : Fn) (first cap : Array Value) (w : World), (Instr.makeFunc fn first cap).run Tryz.prog w = .ok (.func fn first cap) w := fun _ _ _ _ => rfl
  have hL := h.lts
  have hpl := hpb.lt
  have hfl := hfb.lt
  have hfP : fb ≠ C.P := hneF
  have hc0 := hfb.cell 0
  have hpP : pb ≠ C.P := hne
  have hp0 := hpb.cell 0
  simp only [List.getElem?_toArray, List.getElem?_cons_zero] at hp0 hc0
  obtain ⟨w1, hw1⟩ : ∃ w1, w1 = w.alloc (.cells #[.int .u8 0, .string ⟨#[]⟩, .int .i64 0, .slice none 0 0, .int .i64 0] 117) := ⟨_, rfl⟩
  have hz1 : w1.heap.size = w.heap.size + 1 := by rw [hw1]; simp
  have hf1 : Fr NoT w w1 := by rw [hw1]; exact (Fr.refl _ _).alloc _
  have hbx : Bk w1 w.heap.size 117 #[.int .u8 0, .string ⟨#[]⟩, .int .i64 0, .slice none 0 0, .int .i64 0] := by rw [hw1]; exact Bk.new _ _ _
  obtain ⟨a1, a2, a3⟩ := ordA w1 #[.int .u8 5] (strA addS) _ rfl
  obtain ⟨b1, b2, b3⟩ := ordB w1 #[.int .u8 5] (strA addS) _ rfl
  rw [hz1] at a1 a2 b1 b2
  have key : ∀ (W : World) (bt b : Nat), Fr NoT w1 W → Bk W bt 5 #[.int .u8 5] → Bk W b 9 (strA addS) → w.heap.size < bt → w.heap.size < b → Calls Tryz.prog 161 #[.pointer (some ⟨C.P, 0, none⟩), .func (.func 160) #[] #[.pointer (some ⟨pb, 0, none⟩)], .func (.func 181) #[] #[.pointer (some ⟨bt, 0, none⟩)], .slice (some ⟨b, 0, none⟩) 2 2] W (ExP C d (sumP n l) W) := fun W bt b hf h1 h2 h3 h4 =>
    chain_of C (timesP n) 5 addS 160 _ _ bt b 2 l d W hk (h.fr (hf1.trans hf) id id fun _ _ => id) (timesP_shr n) rfl (by decide) (by decide) h2 (by omega) h1 (by omega) (by decide) (by decide) (enters_of Tryz.func160 (by kernel_rfl) rfl) fun W' hfw l' hp' => by
      simpa using times_any C n hs l' d pb W' hdn hk hp' (((hpb.fr0 (hf1.trans hf)).fr hfw hne)) hne
  have fin : ∀ (WA w7 : World) (e : Ending), Fr NoT w1 WA → ExP C d (sumP n l) WA e w7 → Fr NoT w WA ∧ Bk WA w.heap.size 117 #[.int .u8 0, .string ⟨#[]⟩, .int .i64 0, .slice none 0 0, .int .i64 0] := fun WA w7 e hf _ => ⟨hf1.trans hf, hbx.fr0 hf⟩
  have HA := Lib.hid (key _ _ _ a3 a1 a2 (by omega) (by omega))
  have HB := Lib.hid (key _ _ _ b3 b1 b2 (by omega) (by omega))
  have HFA := Lib.hid (And.intro (hf1.trans a3) (hbx.fr0 a3))
  have HFB := Lib.hid (And.intro (hf1.trans b3) (hbx.fr0 b3))
  rw [hw1] at HA HB HFA HFB
  have HL := Lib.hid hL
  have hne2 : ¬ w.heap.size = C.P := by omega
  have HNE := Lib.hid hne2
  clear key fin hw1 hz1 hf1 hbx a1 a2 a3 b1 b2 b3 hL h hk hs hpb hne hne2 hfb hneF
  unfold strA addS at HA HB HFA HFB
  simp only [List.map_cons, List.map_nil] at HA HB HFA HFB
  go_enter Tryz.func164, Tryz.ntmps164
  go_wp2_with fail
  go_region_held2 (fun W' => W'.cell? ⟨pb, 0, none⟩ = some (.pointer (some ⟨C.P, 0, none⟩)) ∧ W'.cell? ⟨fb, 0, none⟩ = some (.func (.func 160) #[] #[.pointer (some ⟨pb, 0, none⟩)]))
    (first
      | (refine ⟨?_, ?_⟩ <;> with_reducible assumption)
      | (with_reducible refine ⟨(Fr.cell (T := fun b => b = w.heap.size) (w := w7) (Fr.own (Fr.own (Fr.own (Fr.own (Fr.own (Fr.refl _ _) _ _) _ _) _ _) _ _) _ _) hpl7.1 hpl7.2).trans hp7, (Fr.cell (T := fun b => b = w.heap.size) (w := w7) (Fr.own (Fr.own (Fr.own (Fr.own (Fr.own (Fr.refl _ _) _ _) _ _) _ _) _ _) _ _) hfl7.1 hfl7.2).trans hc7⟩)
      | (refine ⟨(Fr.cell (T := NoT) (w := w) ?_ hpl id).trans hp0, (Fr.cell (T := NoT) (w := w) ?_ hfl id).trans hc0⟩ <;>
         repeat (first | exact Fr.refl _ _ | refine Fr.alloc ?_ _ | refine Fr.drew ?_)))
    (first
      | (go_at_call 163
         refine (two_any _ _).mono ?_
         rintro _ wa ⟨rfl, rfl⟩)
      | (go_at_call 161
         with_reducible refine HA.out.mono ?_
         intro e w7 hE
         rcases hE.ways with ⟨x, r, A, c, hR, rfl, hv, hp, hf⟩ | ⟨c, a, hR, rfl, hf⟩
         rotate_left
         · exact ⟨rfl, by rw [hR]; exact ⟨rfl, (HFA.out.1.any).trans hf⟩⟩
         have hb7 := HFA.out.2.fr hf HNE.out
         have q0 := hb7.cell 0
         have q1 := hb7.cell 1
         have q2 := hb7.cell 2
         have q3 := hb7.cell 3
         have q4 := hb7.cell 4
         have g0 := hb7.frozen 0
         have g1 := hb7.frozen 1
         have g2 := hb7.frozen 2
         have g3 := hb7.frozen 3
         have g4 := hb7.frozen 4
         have hlt7 := hb7.lt
         have hp7 := (hp0.symm.trans ((HFA.out.1.cell (p := ⟨pb, 0, none⟩) hpl id).symm.trans (hf.cell (p := ⟨pb, 0, none⟩) (Nat.lt_of_lt_of_le hpl HFA.out.1.size) hpP).symm)).symm
         have hc7 := (hc0.symm.trans ((HFA.out.1.cell (p := ⟨fb, 0, none⟩) hfl id).symm.trans (hf.cell (p := ⟨fb, 0, none⟩) (Nat.lt_of_lt_of_le hfl HFA.out.1.size) hfP).symm)).symm
         have hpl7 : pb < w7.heap.size ∧ ¬ pb = w.heap.size := ⟨Nat.lt_of_lt_of_le hpl (Nat.le_trans HFA.out.1.size hf.size), by omega⟩
         have hfl7 : fb < w7.heap.size ∧ ¬ fb = w.heap.size := ⟨Nat.lt_of_lt_of_le hfl (Nat.le_trans HFA.out.1.size hf.size), by omega⟩
         simp only [List.getElem?_toArray, List.getElem?_cons_succ, List.getElem?_cons_zero] at q0 q1 q2 q3 q4
         have HE := Lib.hid (show ∀ w9, w9 = ((((w7.setCell ⟨w.heap.size, 0, none⟩ (.int .u8 x.k)).setCell ⟨w.heap.size, 1, none⟩ (.string x.nm)).setCell ⟨w.heap.size, 2, none⟩ (.int .i64 x.n)).setCell ⟨w.heap.size, 3, none⟩ (.slice A x.args.len c)).setCell ⟨w.heap.size, 4, none⟩ (.int .i64 x.at_) → ExP C d (sumP n l) w (.returned (exV x.k x.nm x.n A x.args.len c x.at_)) w9 from fun w9 h9 => by
           rw [hR]
           exact exP_box HL.out HFA.out.1 (Nat.le_refl _) HFA.out.2.lt hv hp hf h9)
         clear hR hv hp hf hb7)
      | (go_at_call 161
         with_reducible refine HB.out.mono ?_
         intro e w7 hE
         rcases hE.ways with ⟨x, r, A, c, hR, rfl, hv, hp, hf⟩ | ⟨c, a, hR, rfl, hf⟩
         rotate_left
         · exact ⟨rfl, by rw [hR]; exact ⟨rfl, (HFB.out.1.any).trans hf⟩⟩
         have hb7 := HFB.out.2.fr hf HNE.out
         have q0 := hb7.cell 0
         have q1 := hb7.cell 1
         have q2 := hb7.cell 2
         have q3 := hb7.cell 3
         have q4 := hb7.cell 4
         have g0 := hb7.frozen 0
         have g1 := hb7.frozen 1
         have g2 := hb7.frozen 2
         have g3 := hb7.frozen 3
         have g4 := hb7.frozen 4
         have hlt7 := hb7.lt
         have hp7 := (hp0.symm.trans ((HFB.out.1.cell (p := ⟨pb, 0, none⟩) hpl id).symm.trans (hf.cell (p := ⟨pb, 0, none⟩) (Nat.lt_of_lt_of_le hpl HFB.out.1.size) hpP).symm)).symm
         have hc7 := (hc0.symm.trans ((HFB.out.1.cell (p := ⟨fb, 0, none⟩) hfl id).symm.trans (hf.cell (p := ⟨fb, 0, none⟩) (Nat.lt_of_lt_of_le hfl HFB.out.1.size) hfP).symm)).symm
         have hpl7 : pb < w7.heap.size ∧ ¬ pb = w.heap.size := ⟨Nat.lt_of_lt_of_le hpl (Nat.le_trans HFB.out.1.size hf.size), by omega⟩
         have hfl7 : fb < w7.heap.size ∧ ¬ fb = w.heap.size := ⟨Nat.lt_of_lt_of_le hfl (Nat.le_trans HFB.out.1.size hf.size), by omega⟩
         simp only [List.getElem?_toArray, List.getElem?_cons_succ, List.getElem?_cons_zero] at q0 q1 q2 q3 q4
         have HE := Lib.hid (show ∀ w9, w9 = ((((w7.setCell ⟨w.heap.size, 0, none⟩ (.int .u8 x.k)).setCell ⟨w.heap.size, 1, none⟩ (.string x.nm)).setCell ⟨w.heap.size, 2, none⟩ (.int .i64 x.n)).setCell ⟨w.heap.size, 3, none⟩ (.slice A x.args.len c)).setCell ⟨w.heap.size, 4, none⟩ (.int .i64 x.at_) → ExP C d (sumP n l) w (.returned (exV x.k x.nm x.n A x.args.len c x.at_)) w9 from fun w9 h9 => by
           rw [hR]
           exact exP_box HL.out HFB.out.1 (Nat.le_refl _) HFB.out.2.lt hv hp hf h9)
         clear hR hv hp hf hb7))
  all_goals
    go_wp2_with fail
    exact bodyPost_ret (v := exV x.k x.nm x.n A x.args.len c x.at_) (by simp [results, Tryz.results164, go_sem, exV, q0, q1, q2, q3, q4, hlt7]) rfl (HE.out _ rfl)
-- expr
set_option maxRecDepth 100000 in
set_option maxHeartbeats 3200000 in
theorem expr_any (C : Pcx) (n : Nat) (hs : SignC C n) (l : List Tk) (d : Nat) (w : World) (hdn : d + n = 24) (hk : C.Ok) (h : PaAt C w l d) :
    Calls Tryz.prog 141 #[.pointer (some ⟨C.P, 0, none⟩)] w (ExP C d (exprP n l) w) := by
  have hmf : ∀ (fn : Fn) (first cap : Array Value) (w : World), (Instr.makeFunc fn first cap).run Tryz.prog w = .ok (.func fn first cap) w := fun _ _ _ _ => rfl
  have hL := h.lts
  obtain ⟨w1, hw1⟩ : ∃ w1, w1 = ((w.alloc (.cells #[.pointer (some ⟨C.P, 0, none⟩)] 110)).alloc (.cells #[.int .u8 0, .string ⟨#[]⟩, .int .i64 0, .slice none 0 0, .int .i64 0] 117)).alloc (.cells #[.func (.func 160) #[] #[.pointer (some ⟨w.heap.size, 0, none⟩)]] 182) := ⟨_, rfl⟩
  have hz1 : w1.heap.size = w.heap.size + 3 := by rw [hw1]; simp
  have hf1 : Fr NoT w w1 := by rw [hw1]; exact (((Fr.refl _ _).alloc _).alloc _).alloc _
  have hpx : Bk w1 w.heap.size 110 #[.pointer (some ⟨C.P, 0, none⟩)] := by rw [hw1]; exact ((Bk.new _ _ _).alloc _).alloc _
  have hbx : Bk w1 (w.heap.size + 1) 117 #[.int .u8 0, .string ⟨#[]⟩, .int .i64 0, .slice none 0 0, .int .i64 0] := by rw [hw1]; exact (Bk.new_at _ _ _ (by simp)).alloc _
  have hfx : Bk w1 (w.heap.size + 2) 182 #[.func (.func 160) #[] #[.pointer (some ⟨w.heap.size, 0, none⟩)]] := by rw [hw1]; exact Bk.new_at _ _ _ (by simp)
  obtain ⟨a1, a2, a3⟩ := ordA w1 #[.int .u8 10] (strA shS) _ rfl
  obtain ⟨b1, b2, b3⟩ := ordB w1 #[.int .u8 10] (strA shS) _ rfl
  rw [hz1] at a1 a2 b1 b2
  have key : ∀ (W : World) (bt b : Nat), Fr NoT w1 W → Bk W bt 5 #[.int .u8 10] → Bk W b 9 (strA shS) → w.heap.size < bt → w.heap.size < b → Calls Tryz.prog 161 #[.pointer (some ⟨C.P, 0, none⟩), .func (.func 164) #[] #[.pointer (some ⟨w.heap.size, 0, none⟩), .pointer (some ⟨w.heap.size + 1 + 1, 0, none⟩)], .func (.func 181) #[] #[.pointer (some ⟨bt, 0, none⟩)], .slice (some ⟨b, 0, none⟩) 2 2] W (ExP C d (exprP n l) W) := fun W bt b hf h1 h2 h3 h4 =>
    chain_of C (sumP n) 10 shS 164 _ _ bt b 2 l d W hk (h.fr (hf1.trans hf) id id fun _ _ => id) (sumP_shr n) rfl (by decide) (by decide) h2 (by omega) h1 (by omega) (by decide) (by decide) (enters_of Tryz.func164 (by kernel_rfl) rfl) fun W' hfw l' hp' => by
      simpa using sum_any C n hs l' d w.heap.size (w.heap.size + 2) W' hdn hk hp' ((hpx.fr0 hf).fr hfw (fun e => by have e : w.heap.size = C.P := e; omega)) (by omega) ((hfx.fr0 hf).fr hfw (fun e => by have e : w.heap.size + 2 = C.P := e; omega)) (by omega)
  have HA := Lib.hid (key _ _ _ a3 a1 a2 (by omega) (by omega))
  have HB := Lib.hid (key _ _ _ b3 b1 b2 (by omega) (by omega))
  have HFA := Lib.hid (And.intro (hf1.trans a3) (And.intro (hbx.fr0 a3) (hpx.fr0 a3)))
  have HFB := Lib.hid (And.intro (hf1.trans b3) (And.intro (hbx.fr0 b3) (hpx.fr0 b3)))
  have hp0 := hpx.cell 0
  have hpl := hpx.lt
  simp only [List.getElem?_toArray, List.getElem?_cons_zero] at hp0
  rw [hw1] at HA HB HFA HFB hp0 hpl
  have HL := Lib.hid hL
  have hne2 : ¬ w.heap.size + 1 = C.P := by omega
  have HNE := Lib.hid hne2
  have hpP : ¬ w.heap.size = C.P := by omega
  clear key hw1 hz1 hf1 hbx hpx hfx a1 a2 a3 b1 b2 b3 hL h hk hs hne2
  unfold strA shS at HA HB HFA HFB
  simp only [List.map_cons, List.map_nil] at HA HB HFA HFB
  go_enter Tryz.func141, Tryz.ntmps141
  go_wp2_with fail
  go_region_held2 (fun W' => W'.cell? ⟨w.heap.size, 0, none⟩ = some (.pointer (some ⟨C.P, 0, none⟩)))
    (first
      | (with_reducible assumption)
      | (with_reducible refine (Fr.cell (T := fun b => b = w.heap.size + 1) (w := w7) (Fr.own (Fr.own (Fr.own (Fr.own (Fr.own (Fr.refl _ _) _ _) _ _) _ _) _ _) _ _) hpl7.1 hpl7.2).trans hp7)
      | (refine (Fr.cell (T := NoT) ?_ hpl id).trans hp0
         repeat (first | exact Fr.refl _ _ | refine Fr.alloc ?_ _ | refine Fr.drew ?_)))
    (first
      | (go_at_call 163
         refine (two_any _ _).mono ?_
         rintro _ wa ⟨rfl, rfl⟩)
      | (go_at_call 161
         with_reducible refine HA.out.mono ?_
         intro e w7 hE
         rcases hE.ways with ⟨x, r, A, c, hR, rfl, hv, hp, hf⟩ | ⟨c, a, hR, rfl, hf⟩
         rotate_left
         · exact ⟨rfl, by rw [hR]; exact ⟨rfl, (HFA.out.1.any).trans hf⟩⟩
         have hb7 := HFA.out.2.1.fr hf HNE.out
         have q0 := hb7.cell 0
         have q1 := hb7.cell 1
         have q2 := hb7.cell 2
         have q3 := hb7.cell 3
         have q4 := hb7.cell 4
         have g0 := hb7.frozen 0
         have g1 := hb7.frozen 1
         have g2 := hb7.frozen 2
         have g3 := hb7.frozen 3
         have g4 := hb7.frozen 4
         have hlt7 := hb7.lt
         have hp7 := (HFA.out.2.2.fr hf hpP).cell 0
         simp only [List.getElem?_toArray, List.getElem?_cons_zero] at hp7
         have hpl7 : w.heap.size < w7.heap.size ∧ ¬ w.heap.size = w.heap.size + 1 := ⟨(HFA.out.2.2.fr hf hpP).lt, by omega⟩
         simp only [List.getElem?_toArray, List.getElem?_cons_succ, List.getElem?_cons_zero] at q0 q1 q2 q3 q4
         have HE := Lib.hid (show ∀ w9, w9 = ((((w7.setCell ⟨w.heap.size + 1, 0, none⟩ (.int .u8 x.k)).setCell ⟨w.heap.size + 1, 1, none⟩ (.string x.nm)).setCell ⟨w.heap.size + 1, 2, none⟩ (.int .i64 x.n)).setCell ⟨w.heap.size + 1, 3, none⟩ (.slice A x.args.len c)).setCell ⟨w.heap.size + 1, 4, none⟩ (.int .i64 x.at_) → ExP C d (exprP n l) w (.returned (exV x.k x.nm x.n A x.args.len c x.at_)) w9 from fun w9 h9 => by
           rw [hR]
           exact exP_box HL.out HFA.out.1 (by omega) HFA.out.2.1.lt hv hp hf h9)
         clear hR hv hp hf hb7)
      | (go_at_call 161
         with_reducible refine HB.out.mono ?_
         intro e w7 hE
         rcases hE.ways with ⟨x, r, A, c, hR, rfl, hv, hp, hf⟩ | ⟨c, a, hR, rfl, hf⟩
         rotate_left
         · exact ⟨rfl, by rw [hR]; exact ⟨rfl, (HFB.out.1.any).trans hf⟩⟩
         have hb7 := HFB.out.2.1.fr hf HNE.out
         have q0 := hb7.cell 0
         have q1 := hb7.cell 1
         have q2 := hb7.cell 2
         have q3 := hb7.cell 3
         have q4 := hb7.cell 4
         have g0 := hb7.frozen 0
         have g1 := hb7.frozen 1
         have g2 := hb7.frozen 2
         have g3 := hb7.frozen 3
         have g4 := hb7.frozen 4
         have hlt7 := hb7.lt
         have hp7 := (HFB.out.2.2.fr hf hpP).cell 0
         simp only [List.getElem?_toArray, List.getElem?_cons_zero] at hp7
         have hpl7 : w.heap.size < w7.heap.size ∧ ¬ w.heap.size = w.heap.size + 1 := ⟨(HFB.out.2.2.fr hf hpP).lt, by omega⟩
         simp only [List.getElem?_toArray, List.getElem?_cons_succ, List.getElem?_cons_zero] at q0 q1 q2 q3 q4
         have HE := Lib.hid (show ∀ w9, w9 = ((((w7.setCell ⟨w.heap.size + 1, 0, none⟩ (.int .u8 x.k)).setCell ⟨w.heap.size + 1, 1, none⟩ (.string x.nm)).setCell ⟨w.heap.size + 1, 2, none⟩ (.int .i64 x.n)).setCell ⟨w.heap.size + 1, 3, none⟩ (.slice A x.args.len c)).setCell ⟨w.heap.size + 1, 4, none⟩ (.int .i64 x.at_) → ExP C d (exprP n l) w (.returned (exV x.k x.nm x.n A x.args.len c x.at_)) w9 from fun w9 h9 => by
           rw [hR]
           exact exP_box HL.out HFB.out.1 (by omega) HFB.out.2.1.lt hv hp hf h9)
         clear hR hv hp hf hb7))
  all_goals
    go_wp2_with fail
    exact bodyPost_ret (v := exV x.k x.nm x.n A x.args.len c x.at_) (by simp [results, Tryz.results141, go_sem, exV, q0, q1, q2, q3, q4, hlt7]) rfl (HE.out _ rfl)
end Go.Proofs.YtfkdbifnhgadaaaGreatDoor
