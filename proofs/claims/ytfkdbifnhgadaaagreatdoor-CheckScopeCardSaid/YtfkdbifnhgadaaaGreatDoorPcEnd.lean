/-
  parse: what is behind a not, or in brackets. Printed by wip/gen_pcnot.py.
-/
import Derived.Test.YtfkdbifnhgadaaaGreatDoorPcSum
namespace Go.Proofs.YtfkdbifnhgadaaaGreatDoor
open Go.RowKit Go.Shelf
set_option linter.unusedVariables false
set_option linter.unusedSimpArgs false

/-- a box holds a condition, what it is made of in new memory -/
def ResC (rb L : Nat) (w : World) (x : Cn) : Prop := ∃ A c B pc, Bk w rb 119 #[.int .u8 x.k, .slice A x.args.len c, .slice B x.of_.len pc, .int .i64 x.at_] ∧ CdV w L (cdV x.k A x.args.len c B x.of_.len pc x.at_) x
def ParC (C : Pcx) (rb d : Nat) (r : PR Cn) (W : World) (e : Ending) (w' : World) : Prop :=
  match r with
  | .err c a => e = wrongE c a ∧ Fr (PT C rb) W w'
  | .ok x l => e = .returned (.tuple #[]) ∧ ResC rb W.heap.size w' x ∧ PaAt C w' l d ∧ Fr (PT C rb) W w'
theorem bk4C {w : World} {rb : Nat} {a b c d : Value} {A B D E : Value} (h : Bk w rb 119 #[a, b, c, d]) :
    Bk ((((w.setCell ⟨rb, 0, none⟩ A).setCell ⟨rb, 1, none⟩ B).setCell ⟨rb, 2, none⟩ D).setCell ⟨rb, 3, none⟩ E) rb 119 #[A, B, D, E] := by
  have := (((h.set_ 0 A).set_ 1 B).set_ 2 D).set_ 3 E
  simpa using this
def endC (s : List UInt8) (n : Nat) (l : List Tk) : PR Cn := (condP n l).then fun x r => (takeP s r).then fun _ r => .ok x r

set_option maxRecDepth 100000 in
set_option maxHeartbeats 1600000 in
theorem brackC_any (C : Pcx) (n : Nat) (hs : NotC C n) (l : List Tk) (d pb rb : Nat) (w : World) (hdn : d + n = 24) (hk : C.Ok) (h : PaAt C w l d) (hpb : Bk w pb 110 #[.pointer (some ⟨C.P, 0, none⟩)]) (hne : pb ≠ C.P)
    (hrb : Bk w rb 119 #[.int .u8 0, .slice none 0 0, .slice none 0 0, .int .i64 0]) (hnr : rb ≠ C.P) (hrT : rb ≠ C.TB) (hr0 : C.W0.heap.size ≤ rb) (hpr : pb ≠ rb) :
    Calls Tryz.prog 192 #[.pointer (some ⟨pb, 0, none⟩), .pointer (some ⟨rb, 0, none⟩)] w (ParC C rb d (endC [93] n l) w) := by
  have hp0 := hpb.cell 0
  simp only [List.getElem?_toArray, List.getElem?_cons_zero] at hp0
  have HE := Lib.hid (cond_any C n hs l d w hdn hk h)
  obtain ⟨R, hR⟩ : ∃ R, R = endC [93] n l := ⟨_, rfl⟩
  rw [← hR]
  have HR := Lib.hid hR
  have HPB := Lib.hid hpb
  have HRB := Lib.hid hrb
  have HK := Lib.hid hk
  have HL := Lib.hid h.lts
  clear hR hpb hrb hs h hk
  go_enter Tryz.func192, Tryz.ntmps192
  go_wp2_with fail
  refine HE.out.mono ?_
  intro e w7 hE
  rcases hE.ways with ⟨x, r, A, c, B, pc, hx, rfl, hv, hp, hf⟩ | ⟨c, a, hx, rfl, hf⟩
  rotate_left
  · go_wp2_with fail
    exact ⟨rfl, by rw [HR.out, endC, hx]; exact ⟨rfl, PT.l hf⟩⟩
  have hrl := HRB.out.lt
  have hb7 := HRB.out.fr hf hnr
  have q0 := hb7.cell 0
  have q1 := hb7.cell 1
  have q2 := hb7.cell 2
  have q3 := hb7.cell 3
  have g0 := hb7.frozen 0
  have g1 := hb7.frozen 1
  have g2 := hb7.frozen 2
  have g3 := hb7.frozen 3
  have hp7 := (HPB.out.fr hf hne).cell 0
  simp only [List.getElem?_toArray, List.getElem?_cons_succ, List.getElem?_cons_zero] at q0 q1 q2 q3 hp7
  obtain ⟨w8, hw8⟩ : ∃ w8, w8 = (((w7.setCell ⟨rb, 0, none⟩ (.int .u8 x.k)).setCell ⟨rb, 1, none⟩ (.slice A x.args.len c)).setCell ⟨rb, 2, none⟩ (.slice B x.of_.len pc)).setCell ⟨rb, 3, none⟩ (.int .i64 x.at_) := ⟨_, rfl⟩
  have hf8 : Fr (fun b => b = rb) w7 w8 := by rw [hw8]; exact Fr.own (Fr.own (Fr.own (Fr.own (Fr.refl _ _) _ _) _ _) _ _) _ _
  have hbk8 : Bk w8 rb 119 #[.int .u8 x.k, .slice A x.args.len c, .slice B x.of_.len pc, .int .i64 x.at_] := by rw [hw8]; exact bk4C hb7
  have hv8 : CdV w8 w.heap.size (cdV x.k A x.args.len c B x.of_.len pc x.at_) x := CdV.fr hv hf8 fun b h1 h2 e => by
    have e : b = rb := e
    omega
  have hp8 : PaAt C w8 r d := hp.fr hf8 (fun e => hnr (by have e : C.P = rb := e; exact e.symm)) (fun e => hrT (by have e : C.TB = rb := e; exact e.symm)) (fun i hi e => by have e : i = rb := e; omega)
  have hF8 : Fr (PT C rb) w w8 := (PT.l hf).trans (hf8.mono fun i _ h => Or.inr h)
  have hpc8 : w8.cell? ⟨pb, 0, none⟩ = some (.pointer (some ⟨C.P, 0, none⟩)) := (hf8.cell (p := ⟨pb, 0, none⟩) (HPB.out.fr hf hne).lt hpr).trans hp7
  have hP9 := hp8.alloc (.cells #[.string ⟨#[93]⟩] 9)
  have HX := Lib.hid hx
  have HBK := Lib.hid hbk8
  have HV := Lib.hid hv8
  have HF := Lib.hid hF8
  have HP := Lib.hid hP9
  have HW := Lib.hid hw8
  have hz : w8.heap.size = w7.heap.size := by rw [hw8]; simp
  rw [hw8] at hpc8
  cases hm : mayB [93] r
  · have ht := take_no C [93] r d w8.heap.size _ hP9 hm (by simp)
    unfold ErrP wrongE pP at ht
    rw [hw8] at ht
    simp only [World.size_setCell] at ht
    have HT := Lib.hid ht
    clear hx hbk8 hv8 hp8 hF8 hP9 hv hp hf hf8 hb7 hw8 ht hz
    go_wp2_with fail
    refine HT.out.mono ?_
    rintro _ w10 ⟨rfl, hf10⟩
    go_wp2_with fail
    refine ⟨rfl, ?_⟩
    rw [HR.out, endC, HX.out]
    simp only [PR.then, takeP, hm]
    refine ⟨rfl, ?_⟩
    rw [← HW.out] at hf10
    exact (HF.out.alloc _).trans (PT.l hf10)
  · have ht := take_yes C [93] r d w8.heap.size _ HK.out hP9 (by decide) hm (by simp)
    unfold DoneP pP at ht
    rw [hw8] at ht
    simp only [World.size_setCell] at ht
    have HT := Lib.hid ht
    clear hx hbk8 hv8 hp8 hF8 hP9 hv hp hf hf8 hb7 hw8 ht hz
    go_wp2_with fail
    refine HT.out.mono ?_
    rintro _ w10 ⟨rfl, hp10, hf10⟩
    have HP10 := Lib.hid hp10
    rw [← HW.out] at hf10
    have HF10 := Lib.hid hf10
    clear hp10 hf10
    go_wp2_with fail
    go_end0
    rw [HR.out, endC, HX.out]
    simp only [PR.then, takeP, hm]
    have hfz : Fr C.T w8 w10 := ((Fr.refl C.T w8).alloc _).trans HF10.out
    exact ⟨rfl, ⟨A, c, B, pc, HBK.out.fr hfz hnr, HV.out.fr hfz fun b h1 h2 e => by have e : b = C.P := e; have := HL.out.1; omega⟩, HP10.out, HF.out.trans (PT.l hfz)⟩
/-- a box's expression is kept while the parser's block alone turns -/
theorem ResC.fr {C : Pcx} {rb L : Nat} {w w' : World} {x : Cn} (h : ResC rb L w x) (hf : Fr C.T w w') (h1 : rb ≠ C.P) (h2 : C.P < L) : ResC rb L w' x := by
  obtain ⟨A, c, B, pc, hb, hv⟩ := h
  exact ⟨A, c, B, pc, hb.fr hf h1, hv.fr hf fun b h3 _ e => by have e : b = C.P := e; omega⟩
theorem ResC.low {rb L L' : Nat} {w : World} {x : Cn} (h : ResC rb L w x) (hl : L' ≤ L) : ResC rb L' w x := by
  obtain ⟨A, c, B, pc, hb, hv⟩ := h
  exact ⟨A, c, B, pc, hb, hv.low hl⟩
def notB (n : Nat) (a : Int) (l : List Tk) : PR Cn := (notP n l).then fun x r => .ok ⟨9, .nil, x.cons .nil, a⟩ r

theorem not_fin {C : Pcx} {w w7 : World} {rb d : Nat} {at_ : Int} {x : Cn} {r : List Tk} {A B : Option Addr} {c pc : Nat} {q0 q1 q2 q3 : Value} (hL : C.P < w.heap.size ∧ C.TB < w.heap.size ∧ C.W0.heap.size ≤ w.heap.size) (hat : in64 at_)
    (hnr : rb ≠ C.P) (hrT : rb ≠ C.TB) (hr0 : C.W0.heap.size ≤ rb) (hb : Bk w7 rb 119 #[q0, q1, q2, q3]) (hv : CdV w7 w.drew.heap.size (cdV x.k A x.args.len c B x.of_.len pc x.at_) x) (hp : PaAt C w7 r d) (hf : Fr C.T w w7) (w9 : World)
    (h9 : w9 = (((((w7.setCell ⟨rb, 0, none⟩ (.int .u8 9)).setCell ⟨rb, 1, none⟩ (.slice none 0 0)).setCell ⟨rb, 2, none⟩ (.slice (some ⟨w7.heap.size, 0, none⟩) 1 1)).setCell ⟨rb, 3, none⟩ (.int .i64 at_)).alloc (.cells #[.int .u8 x.k, .slice A x.args.len c, .slice B x.of_.len pc, .int .i64 x.at_] 119)))
    (hrw : rb < w.heap.size) :
    ParC C rb d ((PR.ok x r).then fun x r => PR.ok ⟨9, .nil, x.cons .nil, at_⟩ r) w (.returned (.tuple #[])) w9 := by
  obtain ⟨w8, hw8⟩ : ∃ w8, w8 = ((((w7.setCell ⟨rb, 0, none⟩ (.int .u8 9)).setCell ⟨rb, 1, none⟩ (.slice none 0 0)).setCell ⟨rb, 2, none⟩ (.slice (some ⟨w7.heap.size, 0, none⟩) 1 1)).setCell ⟨rb, 3, none⟩ (.int .i64 at_)) := ⟨_, rfl⟩
  rw [← hw8] at h9
  have hf8 : Fr (fun b => b = rb) w7 w8 := by rw [hw8]; exact Fr.own (Fr.own (Fr.own (Fr.own (Fr.refl _ _) _ _) _ _) _ _) _ _
  have hbk8 : Bk w8 rb 119 #[.int .u8 9, .slice none 0 0, .slice (some ⟨w7.heap.size, 0, none⟩) 1 1, .int .i64 at_] := by rw [hw8]; exact bk4C hb
  have hz : w8.heap.size = w7.heap.size := by rw [hw8]; simp
  have hf9 : Fr (fun b => b = rb) w7 w9 := by rw [h9]; exact hf8.alloc _
  have hs7 := hf.size
  have hs9 : w9.heap.size = w7.heap.size + 1 := by rw [h9]; simp [hz]
  obtain ⟨x1, x3, Ax, cx, Bx, qx, ex, hsx, hox⟩ := hv
  simp only [cdV, Value.agg.injEq, Array.mk.injEq, List.cons.injEq, Value.slice.injEq, true_and, and_true] at ex
  obtain ⟨⟨rfl, rfl⟩, rfl, rfl⟩ := ex
  have hX : ∀ b, New w.drew.heap.size w7 b → (b < w7.heap.size ∧ ¬ b = rb) ∧ New w.heap.size w9 b := fun b hb => by
    have h1 : w.heap.size ≤ b := hb.1
    have h2 : b < w7.heap.size := hb.2
    exact ⟨⟨h2, by omega⟩, h1, by omega⟩
  refine ⟨rfl, ⟨none, 0, some ⟨w7.heap.size, 0, none⟩, 1, by rw [h9]; exact hbk8.alloc _, by show in8 9; unfold in8; omega, hat, none, 0, some ⟨w7.heap.size, 0, none⟩, 1, rfl, ⟨Nat.le_refl 0, sl0, fun h => absurd h (by exact Nat.lt_irrefl 0)⟩, Nat.le_refl 1, sl1, fun _ => ⟨w7.heap.size, 0, rfl, ?_⟩⟩, ?_, ?_⟩
  · refine cdR_one (by rw [h9]; exact Bk.new_at _ _ _ hz) ⟨hs7, by omega⟩ ⟨x1, x3⟩ (hsx.imp fun _ _ h => ?_) (hox.imp fun _ _ h => ?_)
    · exact ExR.more (fun b hb => (hX b hb).2) (ExR.keep (hf9.same fun b hb => (hX b hb).1) h)
    · exact CdR.more (fun b hb => (hX b hb).2) (CdR.keep (hf9.same fun b hb => (hX b hb).1) h)
  · exact hp.fr hf9 (fun e => hnr (by have e : C.P = rb := e; exact e.symm)) (fun e => hrT (by have e : C.TB = rb := e; exact e.symm)) (fun i hi e => by have e : i = rb := e; omega)
  · exact (PT.l hf).trans (hf9.mono fun i _ h => Or.inr h)
set_option maxRecDepth 100000 in
set_option maxHeartbeats 1600000 in
theorem notB_any (C : Pcx) (n : Nat) (hs : NotC C n) (l : List Tk) (d pb ab rb : Nat) (at_ : Int) (w : World) (hat : in64 at_) (hdn : d + n = 24) (hk : C.Ok) (h : PaAt C w l d) (hpb : Bk w pb 110 #[.pointer (some ⟨C.P, 0, none⟩)]) (hne : pb ≠ C.P)
    (hab : Bk w ab 3 #[.int .i64 at_]) (hnea : ab ≠ C.P) (har : ab ≠ rb)
    (hrb : Bk w rb 119 #[.int .u8 0, .slice none 0 0, .slice none 0 0, .int .i64 0]) (hnr : rb ≠ C.P) (hrT : rb ≠ C.TB) (hr0 : C.W0.heap.size ≤ rb) (hpr : pb ≠ rb) :
    Calls Tryz.prog 191 #[.pointer (some ⟨pb, 0, none⟩), .pointer (some ⟨ab, 0, none⟩), .pointer (some ⟨rb, 0, none⟩)] w (ParC C rb d (notB n at_ l) w) := by
  have hp0 := hpb.cell 0
  have ha0 := hab.cell 0
  simp only [List.getElem?_toArray, List.getElem?_cons_zero] at hp0 ha0
  have hpl := hpb.lt
  have hal := hab.lt
  have hrl := hrb.lt
  have HE := Lib.hid (hs l d w.drew hdn (h.fr (T := NoT) (Fr.drew (Fr.refl _ _)) id id fun _ _ => id))
  obtain ⟨R, hR⟩ : ∃ R, R = notB n at_ l := ⟨_, rfl⟩
  rw [← hR]
  have HR := Lib.hid hR
  have HPB := Lib.hid hpb
  have HAB := Lib.hid hab
  have HRB := Lib.hid hrb
  have HK := Lib.hid hk
  have HL := Lib.hid h.lts
  have hpP : pb ≠ C.P := hne
  have haP : ab ≠ C.P := hnea
  clear hR hpb hab hrb hs h hk
  go_enter Tryz.func191, Tryz.ntmps191
  go_wp2_with fail
  go_region_held2 (fun W' => W'.cell? ⟨pb, 0, none⟩ = some (.pointer (some ⟨C.P, 0, none⟩)) ∧ W'.cell? ⟨ab, 0, none⟩ = some (.int .i64 at_))
    (first
      | (refine ⟨?_, ?_⟩ <;> with_reducible assumption)
      | (with_reducible refine ⟨(Fr.cell (T := fun b => b = rb) (w := w7) (Fr.alloc (Fr.own (Fr.own (Fr.own (Fr.own (Fr.refl _ _) _ _) _ _) _ _) _ _) _) hpl7 hpr).trans hp7, (Fr.cell (T := fun b => b = rb) (w := w7) (Fr.alloc (Fr.own (Fr.own (Fr.own (Fr.own (Fr.refl _ _) _ _) _ _) _ _) _ _) _) hal7 har).trans ha7⟩)
      | (with_reducible refine ⟨(Fr.cell (T := NoT) (w := w7) (Fr.alloc (Fr.refl _ _) _) hpl7 id).trans hp7, (Fr.cell (T := NoT) (w := w7) (Fr.alloc (Fr.refl _ _) _) hal7 id).trans ha7⟩)
      | (with_reducible refine ⟨(Fr.cell (T := NoT) (w := w) (Fr.drew (Fr.refl _ _)) hpl id).trans hp0, (Fr.cell (T := NoT) (w := w) (Fr.drew (Fr.refl _ _)) hal id).trans ha0⟩))
    (first
      | (go_at_call 190
         with_reducible refine HE.out.mono ?_
         intro e w7 hE
         rcases hE.ways with ⟨x, r, A, c, B, pc, hx, rfl, hv, hp, hf⟩ | ⟨c, a, hx, rfl, hf⟩
         rotate_left
         · exact ⟨rfl, by rw [HR.out, notB, hx]; exact ⟨rfl, PT.l ((Fr.drew (Fr.refl C.T w)).trans hf)⟩⟩
         have hfw := (Fr.drew (Fr.refl C.T w)).trans hf
         have hb7 := HRB.out.fr hfw hnr
         have q0 := hb7.cell 0
         have q1 := hb7.cell 1
         have q2 := hb7.cell 2
         have q3 := hb7.cell 3
         have g0 := hb7.frozen 0
         have g1 := hb7.frozen 1
         have g2 := hb7.frozen 2
         have g3 := hb7.frozen 3
         have hpb7 := HPB.out.fr hfw hpP
         have hab7 := HAB.out.fr hfw haP
         have hp7 := hpb7.cell 0
         have ha7 := hab7.cell 0
         have hpl7 := hpb7.lt
         have hal7 := hab7.lt
         have hrl7 := hb7.lt
         simp only [List.getElem?_toArray, List.getElem?_cons_succ, List.getElem?_cons_zero] at q0 q1 q2 q3 hp7 ha7
         have HX := Lib.hid hx
         have HV := Lib.hid hv
         have HP := Lib.hid hp
         have HF := Lib.hid hfw
         have HB := Lib.hid hb7
         clear hx hv hp hf hfw hb7 hpb7 hab7))
  all_goals
    go_wp2_with fail
    go_end0
    rw [HR.out, notB, HX.out]
    exact not_fin HL.out hat hnr hrT hr0 HB.out HV.out HP.out HF.out _ rfl hrl
end Go.Proofs.YtfkdbifnhgadaaaGreatDoor
