/-
  parse: cond: chains of conditions. Printed by wip/gen_pcsum.py.
-/
import Derived.Test.YtfkdbifnhgadaaaGreatDoorJnPc
namespace Go.Proofs.YtfkdbifnhgadaaaGreatDoor
open Go.RowKit Go.Shelf
set_option linter.unusedVariables false
set_option linter.unusedSimpArgs false

/-- a result is laid into its box -/
theorem cdP_box {C : Pcx} {w WA w7 w9 : World} {d rb : Nat} {x : Cn} {l : List Tk} {A : Option Addr} {c : Nat} {B : Option Addr} {pc : Nat} (hL : C.P < w.heap.size ∧ C.TB < w.heap.size ∧ C.W0.heap.size ≤ w.heap.size) (hA : Fr NoT w WA) (hr : w.heap.size ≤ rb) (hr2 : rb < WA.heap.size)
    (hv : CdV w7 WA.heap.size (cdV x.k A x.args.len c B x.of_.len pc x.at_) x) (hp : PaAt C w7 l d) (hf : Fr C.T WA w7)
    (h9 : w9 = (((w7.setCell ⟨rb, 0, none⟩ (.int .u8 x.k)).setCell ⟨rb, 1, none⟩ (.slice A x.args.len c)).setCell ⟨rb, 2, none⟩ (.slice B x.of_.len pc)).setCell ⟨rb, 3, none⟩ (.int .i64 x.at_)) :
    CdP C d (.ok x l) w (.returned (cdV x.k A x.args.len c B x.of_.len pc x.at_)) w9 := by
  have hf9 : Fr (fun b => b = rb) w7 w9 := by rw [h9]; exact Fr.own (Fr.own (Fr.own (Fr.own (Fr.refl _ _) _ _) _ _) _ _) _ _
  have h1 := hA.size
  unfold CdP
  refine ⟨_, rfl, (CdV.fr hv hf9 fun b h2 h3 e => ?_).low (by omega), hp.fr hf9 (fun e => ?_) (fun e => ?_) (fun i hi e => ?_), ?_⟩
  · have e : b = rb := e
    omega
  · have e : C.P = rb := e
    omega
  · have e : C.TB = rb := e
    omega
  · have e : i = rb := e
    omega
  · rw [h9]
    have := hA.any.trans hf
    exact Fr.high (Fr.high (Fr.high (Fr.high this (by omega) _ _) (by omega) _ _) (by omega) _ _) (by omega) _ _
theorem chainC_of (C : Pcx) (one : List Tk → PR Cn) (first : Int) (signs : List (List UInt8)) (g : Nat) (fst cap : Array Value) (bt b m : Nat) (l : List Tk) (d : Nat) (w : World) (hk : C.Ok) (h : PaAt C w l d) (hshr : Shr one)
    (hm : m = signs.length) (hsg : ∀ s ∈ signs, s ≠ []) (hsl : signs.length ≤ 3) (hss : Bk w b 9 (strA signs)) (hbP : b ≠ C.P)
    (hbt : Bk w bt 5 #[.int .u8 first]) (hbtP : bt ≠ C.P) (hf0 : 0 ≤ first) (hf1 : first ≤ 20)
    (hent : Enters Tryz.prog g) (hone : ∀ W, Fr C.T w W → ∀ l', PaAt C W l' d → Calls Tryz.prog g (fst ++ cap) W (CdP C d (one l') W)) :
    Calls Tryz.prog 189 #[.pointer (some ⟨C.P, 0, none⟩), .func (.func g) fst cap, .func (.func 187) #[] #[.pointer (some ⟨bt, 0, none⟩)], .slice (some ⟨b, 0, none⟩) m m] w (CdP C d (chainP one (joinX first) signs l) w) := by
  subst hm
  exact chainC_any C one first signs g fst cap bt b _ l d w hk h hshr hsg hsl (fun j hj => by rw [hss.cell j]; simp [strA, hj]) hss.lt hbP hbt hbtP hf0 hf1 hent hone

/-- what stands between conditions' signs, at a level -/
def NotC (C : Pcx) (n : Nat) : Prop := ∀ (l : List Tk) (d : Nat) (w : World), d + n = 24 → PaAt C w l d → Calls Tryz.prog 190 #[.pointer (some ⟨C.P, 0, none⟩)] w (CdP C d (notP n l) w)
def andS : List (List UInt8) := [[38, 38]]
def orS : List (List UInt8) := [[124, 124]]
def allP (n : Nat) (l : List Tk) : PR Cn := chainP (notP n) (joinX 10) andS l
theorem allP_shr (n : Nat) : Shr (allP n) := chainP_shr (notP_shr n)
theorem condP_all (n : Nat) (l : List Tk) : condP n l = chainP (allP n) (joinX 11) orS l := rfl
-- all
set_option maxRecDepth 100000 in
set_option maxHeartbeats 3200000 in
theorem all_any (C : Pcx) (n : Nat) (hs : NotC C n) (l : List Tk) (d pb fb : Nat) (w : World) (hdn : d + n = 24) (hk : C.Ok) (h : PaAt C w l d) (hpb : Bk w pb 110 #[.pointer (some ⟨C.P, 0, none⟩)]) (hne : pb ≠ C.P) (hfb : Bk w fb 243 #[.func (.func 186) #[] #[]]) (hneF : fb ≠ C.P) :
    Calls Tryz.prog 188 #[.pointer (some ⟨pb, 0, none⟩), .pointer (some ⟨fb, 0, none⟩)] w (CdP C d (allP n l) w) := by
  have hmf : ∀ (fn : Fn) (first cap : Array Value) (w : World), (Instr.makeFunc fn first cap).run Tryz.prog w = .ok (.func fn first cap) w := fun _ _ _ _ => rfl
  have hL := h.lts
  have hpl := hpb.lt
  have hfl := hfb.lt
  have hfP : fb ≠ C.P := hneF
  have hc0 := hfb.cell 0
  have hpP : pb ≠ C.P := hne
  have hp0 := hpb.cell 0
  simp only [List.getElem?_toArray, List.getElem?_cons_zero] at hp0 hc0
  obtain ⟨w1, hw1⟩ : ∃ w1, w1 = w.alloc (.cells #[.int .u8 0, .slice none 0 0, .slice none 0 0, .int .i64 0] 119) := ⟨_, rfl⟩
  have hz1 : w1.heap.size = w.heap.size + 1 := by rw [hw1]; simp
  have hf1 : Fr NoT w w1 := by rw [hw1]; exact (Fr.refl _ _).alloc _
  have hbx : Bk w1 w.heap.size 119 #[.int .u8 0, .slice none 0 0, .slice none 0 0, .int .i64 0] := by rw [hw1]; exact Bk.new _ _ _
  obtain ⟨a1, a2, a3⟩ := ordA w1 #[.int .u8 10] (strA andS) _ rfl
  obtain ⟨b1, b2, b3⟩ := ordB w1 #[.int .u8 10] (strA andS) _ rfl
  rw [hz1] at a1 a2 b1 b2
  have key : ∀ (W : World) (bt b : Nat), Fr NoT w1 W → Bk W bt 5 #[.int .u8 10] → Bk W b 9 (strA andS) → w.heap.size < bt → w.heap.size < b → Calls Tryz.prog 189 #[.pointer (some ⟨C.P, 0, none⟩), .func (.func 190) #[.pointer (some ⟨C.P, 0, none⟩)] #[], .func (.func 187) #[] #[.pointer (some ⟨bt, 0, none⟩)], .slice (some ⟨b, 0, none⟩) 1 1] W (CdP C d (allP n l) W) := fun W bt b hf h1 h2 h3 h4 =>
    chainC_of C (notP n) 10 andS 190 _ _ bt b 1 l d W hk (h.fr (hf1.trans hf) id id fun _ _ => id) (notP_shr n) rfl (by decide) (by decide) h2 (by omega) h1 (by omega) (by decide) (by decide) (enters_of Tryz.func190 (by kernel_rfl) rfl) fun W' hfw l' hp' => by
      simpa using hs l' d W' hdn hp'
  have fin : ∀ (WA w7 : World) (e : Ending), Fr NoT w1 WA → CdP C d (allP n l) WA e w7 → Fr NoT w WA ∧ Bk WA w.heap.size 119 #[.int .u8 0, .slice none 0 0, .slice none 0 0, .int .i64 0] := fun WA w7 e hf _ => ⟨hf1.trans hf, hbx.fr0 hf⟩
  have HA := Lib.hid (key _ _ _ a3 a1 a2 (by omega) (by omega))
  have HB := Lib.hid (key _ _ _ b3 b1 b2 (by omega) (by omega))
  have HFA := Lib.hid (And.intro (hf1.trans a3) (hbx.fr0 a3))
  have HFB := Lib.hid (And.intro (hf1.trans b3) (hbx.fr0 b3))
  rw [hw1] at HA HB HFA HFB
  have HL := Lib.hid hL
  have hne2 : ¬ w.heap.size = C.P := by omega
  have HNE := Lib.hid hne2
  clear key fin hw1 hz1 hf1 hbx a1 a2 a3 b1 b2 b3 hL h hk hs hpb hne hne2 hfb hneF
  unfold strA andS at HA HB HFA HFB
  simp only [List.map_cons, List.map_nil] at HA HB HFA HFB
  go_enter Tryz.func188, Tryz.ntmps188
  go_wp2_with fail
  go_region_held2 (fun W' => W'.cell? ⟨pb, 0, none⟩ = some (.pointer (some ⟨C.P, 0, none⟩)) ∧ W'.cell? ⟨fb, 0, none⟩ = some (.func (.func 186) #[] #[]))
    (first
      | (refine ⟨?_, ?_⟩ <;> with_reducible assumption)
      | (with_reducible refine ⟨(Fr.cell (T := fun b => b = w.heap.size) (w := w7) (Fr.own (Fr.own (Fr.own (Fr.own (Fr.refl _ _) _ _) _ _) _ _) _ _) hpl7.1 hpl7.2).trans hp7, (Fr.cell (T := fun b => b = w.heap.size) (w := w7) (Fr.own (Fr.own (Fr.own (Fr.own (Fr.refl _ _) _ _) _ _) _ _) _ _) hfl7.1 hfl7.2).trans hc7⟩)
      | (refine ⟨(Fr.cell (T := NoT) (w := w) ?_ hpl id).trans hp0, (Fr.cell (T := NoT) (w := w) ?_ hfl id).trans hc0⟩ <;>
         repeat (first | exact Fr.refl _ _ | refine Fr.alloc ?_ _ | refine Fr.drew ?_)))
    (first
      | (go_at_call 186
         refine (join_any _ _).mono ?_
         rintro _ wa ⟨rfl, rfl⟩)
      | (go_at_call 189
         with_reducible refine HA.out.mono ?_
         intro e w7 hE
         rcases hE.ways with ⟨x, r, A, c, B, pc, hR, rfl, hv, hp, hf⟩ | ⟨c, a, hR, rfl, hf⟩
         rotate_left
         · exact ⟨rfl, by rw [hR]; exact ⟨rfl, (HFA.out.1.any).trans hf⟩⟩
         have hb7 := HFA.out.2.fr hf HNE.out
         have q0 := hb7.cell 0
         have q1 := hb7.cell 1
         have q2 := hb7.cell 2
         have q3 := hb7.cell 3
         have g0 := hb7.frozen 0
         have g1 := hb7.frozen 1
         have g2 := hb7.frozen 2
         have g3 := hb7.frozen 3
         have hlt7 := hb7.lt
         have hp7 := (hp0.symm.trans ((HFA.out.1.cell (p := ⟨pb, 0, none⟩) hpl id).symm.trans (hf.cell (p := ⟨pb, 0, none⟩) (Nat.lt_of_lt_of_le hpl HFA.out.1.size) hpP).symm)).symm
         have hc7 := (hc0.symm.trans ((HFA.out.1.cell (p := ⟨fb, 0, none⟩) hfl id).symm.trans (hf.cell (p := ⟨fb, 0, none⟩) (Nat.lt_of_lt_of_le hfl HFA.out.1.size) hfP).symm)).symm
         have hpl7 : pb < w7.heap.size ∧ ¬ pb = w.heap.size := ⟨Nat.lt_of_lt_of_le hpl (Nat.le_trans HFA.out.1.size hf.size), by omega⟩
         have hfl7 : fb < w7.heap.size ∧ ¬ fb = w.heap.size := ⟨Nat.lt_of_lt_of_le hfl (Nat.le_trans HFA.out.1.size hf.size), by omega⟩
         simp only [List.getElem?_toArray, List.getElem?_cons_succ, List.getElem?_cons_zero] at q0 q1 q2 q3
         have HE := Lib.hid (show ∀ w9, w9 = (((w7.setCell ⟨w.heap.size, 0, none⟩ (.int .u8 x.k)).setCell ⟨w.heap.size, 1, none⟩ (.slice A x.args.len c)).setCell ⟨w.heap.size, 2, none⟩ (.slice B x.of_.len pc)).setCell ⟨w.heap.size, 3, none⟩ (.int .i64 x.at_) → CdP C d (allP n l) w (.returned (cdV x.k A x.args.len c B x.of_.len pc x.at_)) w9 from fun w9 h9 => by
           rw [hR]
           exact cdP_box HL.out HFA.out.1 (Nat.le_refl _) HFA.out.2.lt hv hp hf h9)
         clear hR hv hp hf hb7)
      | (go_at_call 189
         with_reducible refine HB.out.mono ?_
         intro e w7 hE
         rcases hE.ways with ⟨x, r, A, c, B, pc, hR, rfl, hv, hp, hf⟩ | ⟨c, a, hR, rfl, hf⟩
         rotate_left
         · exact ⟨rfl, by rw [hR]; exact ⟨rfl, (HFB.out.1.any).trans hf⟩⟩
         have hb7 := HFB.out.2.fr hf HNE.out
         have q0 := hb7.cell 0
         have q1 := hb7.cell 1
         have q2 := hb7.cell 2
         have q3 := hb7.cell 3
         have g0 := hb7.frozen 0
         have g1 := hb7.frozen 1
         have g2 := hb7.frozen 2
         have g3 := hb7.frozen 3
         have hlt7 := hb7.lt
         have hp7 := (hp0.symm.trans ((HFB.out.1.cell (p := ⟨pb, 0, none⟩) hpl id).symm.trans (hf.cell (p := ⟨pb, 0, none⟩) (Nat.lt_of_lt_of_le hpl HFB.out.1.size) hpP).symm)).symm
         have hc7 := (hc0.symm.trans ((HFB.out.1.cell (p := ⟨fb, 0, none⟩) hfl id).symm.trans (hf.cell (p := ⟨fb, 0, none⟩) (Nat.lt_of_lt_of_le hfl HFB.out.1.size) hfP).symm)).symm
         have hpl7 : pb < w7.heap.size ∧ ¬ pb = w.heap.size := ⟨Nat.lt_of_lt_of_le hpl (Nat.le_trans HFB.out.1.size hf.size), by omega⟩
         have hfl7 : fb < w7.heap.size ∧ ¬ fb = w.heap.size := ⟨Nat.lt_of_lt_of_le hfl (Nat.le_trans HFB.out.1.size hf.size), by omega⟩
         simp only [List.getElem?_toArray, List.getElem?_cons_succ, List.getElem?_cons_zero] at q0 q1 q2 q3
         have HE := Lib.hid (show ∀ w9, w9 = (((w7.setCell ⟨w.heap.size, 0, none⟩ (.int .u8 x.k)).setCell ⟨w.heap.size, 1, none⟩ (.slice A x.args.len c)).setCell ⟨w.heap.size, 2, none⟩ (.slice B x.of_.len pc)).setCell ⟨w.heap.size, 3, none⟩ (.int .i64 x.at_) → CdP C d (allP n l) w (.returned (cdV x.k A x.args.len c B x.of_.len pc x.at_)) w9 from fun w9 h9 => by
           rw [hR]
           exact cdP_box HL.out HFB.out.1 (Nat.le_refl _) HFB.out.2.lt hv hp hf h9)
         clear hR hv hp hf hb7))
  all_goals
    go_wp2_with fail
    exact bodyPost_ret (v := cdV x.k A x.args.len c B x.of_.len pc x.at_) (by simp [results, Tryz.results188, go_sem, cdV, q0, q1, q2, q3, hlt7]) rfl (HE.out _ rfl)
-- cond
set_option maxRecDepth 100000 in
set_option maxHeartbeats 3200000 in
theorem cond_any (C : Pcx) (n : Nat) (hs : NotC C n) (l : List Tk) (d : Nat) (w : World) (hdn : d + n = 24) (hk : C.Ok) (h : PaAt C w l d) :
    Calls Tryz.prog 185 #[.pointer (some ⟨C.P, 0, none⟩)] w (CdP C d (condP n l) w) := by
  have hmf : ∀ (fn : Fn) (first cap : Array Value) (w : World), (Instr.makeFunc fn first cap).run Tryz.prog w = .ok (.func fn first cap) w := fun _ _ _ _ => rfl
  have hL := h.lts
  obtain ⟨w1, hw1⟩ : ∃ w1, w1 = ((w.alloc (.cells #[.pointer (some ⟨C.P, 0, none⟩)] 110)).alloc (.cells #[.int .u8 0, .slice none 0 0, .slice none 0 0, .int .i64 0] 119)).alloc (.cells #[.func (.func 186) #[] #[]] 243) := ⟨_, rfl⟩
  have hz1 : w1.heap.size = w.heap.size + 3 := by rw [hw1]; simp
  have hf1 : Fr NoT w w1 := by rw [hw1]; exact (((Fr.refl _ _).alloc _).alloc _).alloc _
  have hpx : Bk w1 w.heap.size 110 #[.pointer (some ⟨C.P, 0, none⟩)] := by rw [hw1]; exact ((Bk.new _ _ _).alloc _).alloc _
  have hbx : Bk w1 (w.heap.size + 1) 119 #[.int .u8 0, .slice none 0 0, .slice none 0 0, .int .i64 0] := by rw [hw1]; exact (Bk.new_at _ _ _ (by simp)).alloc _
  have hfx : Bk w1 (w.heap.size + 2) 243 #[.func (.func 186) #[] #[]] := by rw [hw1]; exact Bk.new_at _ _ _ (by simp)
  obtain ⟨a1, a2, a3⟩ := ordA w1 #[.int .u8 11] (strA orS) _ rfl
  obtain ⟨b1, b2, b3⟩ := ordB w1 #[.int .u8 11] (strA orS) _ rfl
  rw [hz1] at a1 a2 b1 b2
  have key : ∀ (W : World) (bt b : Nat), Fr NoT w1 W → Bk W bt 5 #[.int .u8 11] → Bk W b 9 (strA orS) → w.heap.size < bt → w.heap.size < b → Calls Tryz.prog 189 #[.pointer (some ⟨C.P, 0, none⟩), .func (.func 188) #[] #[.pointer (some ⟨w.heap.size, 0, none⟩), .pointer (some ⟨w.heap.size + 1 + 1, 0, none⟩)], .func (.func 187) #[] #[.pointer (some ⟨bt, 0, none⟩)], .slice (some ⟨b, 0, none⟩) 1 1] W (CdP C d (condP n l) W) := fun W bt b hf h1 h2 h3 h4 =>
    chainC_of C (allP n) 11 orS 188 _ _ bt b 1 l d W hk (h.fr (hf1.trans hf) id id fun _ _ => id) (allP_shr n) rfl (by decide) (by decide) h2 (by omega) h1 (by omega) (by decide) (by decide) (enters_of Tryz.func188 (by kernel_rfl) rfl) fun W' hfw l' hp' => by
      simpa using all_any C n hs l' d w.heap.size (w.heap.size + 2) W' hdn hk hp' ((hpx.fr0 hf).fr hfw (fun e => by have e : w.heap.size = C.P := e; omega)) (by omega) ((hfx.fr0 hf).fr hfw (fun e => by have e : w.heap.size + 2 = C.P := e; omega)) (by omega)
  have HA := Lib.hid (key _ _ _ a3 a1 a2 (by omega) (by omega))
  have HB := Lib.hid (key _ _ _ b3 b1 b2 (by omega) (by omega))
  have HFA := Lib.hid (And.intro (hf1.trans a3) (And.intro (hbx.fr0 a3) (And.intro (hpx.fr0 a3) (hfx.fr0 a3))))
  have HFB := Lib.hid (And.intro (hf1.trans b3) (And.intro (hbx.fr0 b3) (And.intro (hpx.fr0 b3) (hfx.fr0 b3))))
  have hp0 := hpx.cell 0
  have hpl := hpx.lt
  have hc0 := hfx.cell 0
  have hfl := hfx.lt
  simp only [List.getElem?_toArray, List.getElem?_cons_zero] at hp0 hc0
  rw [hw1] at HA HB HFA HFB hp0 hpl hc0 hfl
  have HL := Lib.hid hL
  have hne2 : ¬ w.heap.size + 1 = C.P := by omega
  have HNE := Lib.hid hne2
  have hpP : ¬ w.heap.size = C.P := by omega
  have hfP : ¬ w.heap.size + 2 = C.P := by omega
  clear key hw1 hz1 hf1 hbx hpx hfx a1 a2 a3 b1 b2 b3 hL h hk hs hne2
  unfold strA orS at HA HB HFA HFB
  simp only [List.map_cons, List.map_nil] at HA HB HFA HFB
  go_enter Tryz.func185, Tryz.ntmps185
  go_wp2_with fail
  go_region_held2 (fun W' => W'.cell? ⟨w.heap.size, 0, none⟩ = some (.pointer (some ⟨C.P, 0, none⟩)) ∧ W'.cell? ⟨w.heap.size + 1 + 1, 0, none⟩ = some (.func (.func 186) #[] #[]))
    (first
      | (refine ⟨?_, ?_⟩ <;> with_reducible assumption)
      | (with_reducible refine ⟨(Fr.cell (T := fun b => b = w.heap.size + 1) (w := w7) (Fr.own (Fr.own (Fr.own (Fr.own (Fr.refl _ _) _ _) _ _) _ _) _ _) hpl7.1 hpl7.2).trans hp7, (Fr.cell (T := fun b => b = w.heap.size + 1) (w := w7) (Fr.own (Fr.own (Fr.own (Fr.own (Fr.refl _ _) _ _) _ _) _ _) _ _) hfl7.1 hfl7.2).trans hc7⟩)
      | (refine ⟨(Fr.cell (T := NoT) ?_ hpl id).trans hp0, (Fr.cell (T := NoT) ?_ hfl id).trans hc0⟩ <;>
         repeat (first | exact Fr.refl _ _ | refine Fr.alloc ?_ _ | refine Fr.drew ?_)))
    (first
      | (go_at_call 186
         refine (join_any _ _).mono ?_
         rintro _ wa ⟨rfl, rfl⟩)
      | (go_at_call 189
         with_reducible refine HA.out.mono ?_
         intro e w7 hE
         rcases hE.ways with ⟨x, r, A, c, B, pc, hR, rfl, hv, hp, hf⟩ | ⟨c, a, hR, rfl, hf⟩
         rotate_left
         · exact ⟨rfl, by rw [hR]; exact ⟨rfl, (HFA.out.1.any).trans hf⟩⟩
         have hb7 := HFA.out.2.1.fr hf HNE.out
         have q0 := hb7.cell 0
         have q1 := hb7.cell 1
         have q2 := hb7.cell 2
         have q3 := hb7.cell 3
         have g0 := hb7.frozen 0
         have g1 := hb7.frozen 1
         have g2 := hb7.frozen 2
         have g3 := hb7.frozen 3
         have hlt7 := hb7.lt
         have hp7 := (HFA.out.2.2.1.fr hf hpP).cell 0
         simp only [List.getElem?_toArray, List.getElem?_cons_zero] at hp7
         have hpl7 : w.heap.size < w7.heap.size ∧ ¬ w.heap.size = w.heap.size + 1 := ⟨(HFA.out.2.2.1.fr hf hpP).lt, by omega⟩
         have hc7 := (HFA.out.2.2.2.fr hf hfP).cell 0
         have hfl7 : w.heap.size + 1 + 1 < w7.heap.size ∧ ¬ w.heap.size + 1 + 1 = w.heap.size + 1 := ⟨(HFA.out.2.2.2.fr hf hfP).lt, by omega⟩
         simp only [List.getElem?_toArray, List.getElem?_cons_zero] at hc7
         simp only [List.getElem?_toArray, List.getElem?_cons_succ, List.getElem?_cons_zero] at q0 q1 q2 q3
         have HE := Lib.hid (show ∀ w9, w9 = (((w7.setCell ⟨w.heap.size + 1, 0, none⟩ (.int .u8 x.k)).setCell ⟨w.heap.size + 1, 1, none⟩ (.slice A x.args.len c)).setCell ⟨w.heap.size + 1, 2, none⟩ (.slice B x.of_.len pc)).setCell ⟨w.heap.size + 1, 3, none⟩ (.int .i64 x.at_) → CdP C d (condP n l) w (.returned (cdV x.k A x.args.len c B x.of_.len pc x.at_)) w9 from fun w9 h9 => by
           rw [hR]
           exact cdP_box HL.out HFA.out.1 (by omega) HFA.out.2.1.lt hv hp hf h9)
         clear hR hv hp hf hb7)
      | (go_at_call 189
         with_reducible refine HB.out.mono ?_
         intro e w7 hE
         rcases hE.ways with ⟨x, r, A, c, B, pc, hR, rfl, hv, hp, hf⟩ | ⟨c, a, hR, rfl, hf⟩
         rotate_left
         · exact ⟨rfl, by rw [hR]; exact ⟨rfl, (HFB.out.1.any).trans hf⟩⟩
         have hb7 := HFB.out.2.1.fr hf HNE.out
         have q0 := hb7.cell 0
         have q1 := hb7.cell 1
         have q2 := hb7.cell 2
         have q3 := hb7.cell 3
         have g0 := hb7.frozen 0
         have g1 := hb7.frozen 1
         have g2 := hb7.frozen 2
         have g3 := hb7.frozen 3
         have hlt7 := hb7.lt
         have hp7 := (HFB.out.2.2.1.fr hf hpP).cell 0
         simp only [List.getElem?_toArray, List.getElem?_cons_zero] at hp7
         have hpl7 : w.heap.size < w7.heap.size ∧ ¬ w.heap.size = w.heap.size + 1 := ⟨(HFB.out.2.2.1.fr hf hpP).lt, by omega⟩
         have hc7 := (HFB.out.2.2.2.fr hf hfP).cell 0
         have hfl7 : w.heap.size + 1 + 1 < w7.heap.size ∧ ¬ w.heap.size + 1 + 1 = w.heap.size + 1 := ⟨(HFB.out.2.2.2.fr hf hfP).lt, by omega⟩
         simp only [List.getElem?_toArray, List.getElem?_cons_zero] at hc7
         simp only [List.getElem?_toArray, List.getElem?_cons_succ, List.getElem?_cons_zero] at q0 q1 q2 q3
         have HE := Lib.hid (show ∀ w9, w9 = (((w7.setCell ⟨w.heap.size + 1, 0, none⟩ (.int .u8 x.k)).setCell ⟨w.heap.size + 1, 1, none⟩ (.slice A x.args.len c)).setCell ⟨w.heap.size + 1, 2, none⟩ (.slice B x.of_.len pc)).setCell ⟨w.heap.size + 1, 3, none⟩ (.int .i64 x.at_) → CdP C d (condP n l) w (.returned (cdV x.k A x.args.len c B x.of_.len pc x.at_)) w9 from fun w9 h9 => by
           rw [hR]
           exact cdP_box HL.out HFB.out.1 (by omega) HFB.out.2.1.lt hv hp hf h9)
         clear hR hv hp hf hb7))
  all_goals
    go_wp2_with fail
    exact bodyPost_ret (v := cdV x.k A x.args.len c B x.of_.len pc x.at_) (by simp [results, Tryz.results185, go_sem, cdV, q0, q1, q2, q3, hlt7]) rfl (HE.out _ rfl)
end Go.Proofs.YtfkdbifnhgadaaaGreatDoor
