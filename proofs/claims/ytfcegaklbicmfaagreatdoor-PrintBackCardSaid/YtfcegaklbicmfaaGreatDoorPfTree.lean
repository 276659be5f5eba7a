/-
  parse: tree.
-/
import Derived.Test.YtfcegaklbicmfaaGreatDoorJnTre
import Derived.WalkMore
set_option linter.unusedVariables false
set_option linter.unusedSimpArgs false
namespace Go.Proofs.YtfcegaklbicmfaaGreatDoor
open Go.RowKit Go.Shelf

theorem add_none (b o j : Nat) : (⟨b, o, none⟩ : Addr).add j = ⟨b, o + j, none⟩ := by unfold Addr.add; split <;> simp_all
theorem lsA_ways {C : Pcx} {d : Nat} {r : PR (List Arr)} {W w' : World} {e : Ending} (h : EndV C d lsVAr r W e w') :
  (∃ (xs : List Arr) (l : List Tk) (A : Option Addr) (c : Nat), r = .ok xs l ∧ e = .returned (.slice A xs.length c) ∧ SlR (ArR w' (New W.heap.size w') False xs) xs.length 32 A c ∧ PaAt C w' l d ∧ Fr C.T W w') ∨
   ∃ c a, r = .err c a ∧ e = .panicked [{ v := .iface 108 (.agg #[.int .i64 c, .int .i64 a]), recovered := false }] ∧ Fr C.T W w' := by
 unfold EndV at h
 cases r with
 | err c a => exact .inr ⟨c, a, rfl, h⟩
 | ok x l =>
  obtain ⟨v, rfl, ⟨A, c, rfl, hs⟩, hp, hf⟩ := h
  exact .inl ⟨x, l, A, c, rfl, rfl, hs, hp, hf⟩
theorem sizedP_shr : Shr sizedP := fun l y r e => by
 obtain ⟨x, q, h1, h2⟩ := PR.then_ok e
 obtain ⟨u, q2, h3, h4⟩ := PR.then_ok h2
 obtain ⟨n, q3, h5, h6⟩ := PR.then_ok h4
 obtain ⟨u2, q4, h7, h8⟩ := PR.then_ok h6
 simp only [PR.ok.injEq] at h8
 have e1 := nameP_shr h1
 have e2 := takeP_shr h3
 have e4 := takeP_shr h7
 have e3 : q3 = q2.tail := by
  unfold numberP at h5
  split at h5
  ·simp only [PR.ok.injEq] at h5; exact h5.2.symm
  ·simp at h5
 rw [← h8.2, e4, e3, e2, e1]
 simp only [List.length_tail]
 omega
theorem pcV_ways {C : Pcx} {d : Nat} {r : PR Prc} {W w' : World} {e : Ending} (h : EndV C d PcV r W e w') :
  (∃ (x : Prc) (l : List Tk) (A : Option Addr) (c : Nat) (D : Option Addr) (q : Nat), r = .ok x l ∧ e = .returned (.agg #[.string x.nm, .slice A x.params.length c, .slice D x.body.len q, .int .i64 x.at_]) ∧
   (in64 x.at_ ∧ SlR (VaR w' (New W.heap.size w') False x.params) x.params.length 24 A c ∧ SlR (StR w' (New W.heap.size w') False x.body) x.body.len 128 D q) ∧ PaAt C w' l d ∧ Fr C.T W w') ∨
   ∃ c a, r = .err c a ∧ e = .panicked [{ v := .iface 108 (.agg #[.int .i64 c, .int .i64 a]), recovered := false }] ∧ Fr C.T W w' := by
 unfold EndV at h
 cases r with
 | err c a => exact .inr ⟨c, a, rfl, h⟩
 | ok x l =>
  obtain ⟨v, rfl, ⟨A, c, D, q, rfl, hs⟩, hp, hf⟩ := h
  exact .inl ⟨x, l, A, c, D, q, rfl, rfl, hs, hp, hf⟩
set_option maxRecDepth 100000 in
set_option maxHeartbeats 3200000 in
theorem tree_any (C : Pcx) (l : List Tk) (w : World) (hk : C.Ok) (h : PaAt C w l 0) :
  Calls Tryz.prog 62 #[.pointer (some ⟨C.P, 0, none⟩)] w (TrV C (treeP l) w) := by
 have hmf := @makeF Tryz.prog
 obtain ⟨iV, hi, hz0, hz1, hz2⟩ := info_parts infoVa
 have HIV := Lib.hid (And.intro hi (And.intro hz0 (And.intro hz1 hz2)))
 clear hi hz0 hz1 hz2
 obtain ⟨iA, hi, hz0, hz1, hz2⟩ := info_parts infoAr
 have HIA := Lib.hid (And.intro hi (And.intro hz0 (And.intro hz1 hz2)))
 clear hi hz0 hz1 hz2
 obtain ⟨iP, hi, hz0, hz1, hz2⟩ := info_parts infoPc
 have HIP := Lib.hid (And.intro hi (And.intro hz0 (And.intro hz1 hz2)))
 clear hi hz0 hz1 hz2
 obtain ⟨R, hR⟩ : ∃ R, R = treeP l := ⟨_, rfl⟩
 rw [← hR]
 rw [treeP_k] at hR
 have hL := h.lts
 have hfl : l.length ≤ 5000 := by
  obtain ⟨j, q, e, _⟩ := h.at_
  have := hk.few
  rw [e, List.length_drop]; omega
 obtain ⟨w1, hw1⟩ : ∃ w1, w1 = w.alloc (.cells #[.slice none 0 0, .slice none 0 0, .slice none 0 0, .slice none 0 0] 27) := ⟨_, rfl⟩
 have hstart : TrX C w R [] [] (.slice none 0 0) (.slice none 0 0) l w1 := by
  rw [hw1]
  exact ⟨⟨_, hR, Nat.le_refl _⟩, Bk.new _ _ _, World.ownsRow_nil _ _ _ _, World.ownsRow_nil _ _ _ _, fun _ h => by simp at h, fun _ h => by simp at h, fun b h => by simp [Value.ownBlock] at h, by simpa using hfl, h.alloc _, (Fr.refl _ _).alloc _⟩
 have HST := Lib.hid hstart
 have HK := Lib.hid hk
 have HL := Lib.hid hL
 have HW1 := Lib.hid hw1
 clear hR h hk hL hfl hstart hw1
 go_enter Tryz.func62, Tryz.ntmps62
 go_wp2_with fail
 rw [show w.alloc (.cells #[.slice none 0 0, .slice none 0 0, .slice none 0 0, .slice none 0 0] 27) = w1 from HW1.out.symm]
 go_step3
 go_wp2_with fail
 go_step3
 go_wp2_with fail
 go_loopw [3, 14] (fun _ _ wr => ∃ (vs : List Va) (xs : List Arr) (vV vA : Value) (r : List Tk), Hid (TrX C w R vs xs vV vA r wr)) (fun _ _ wr => lenP C wr)
 case atStart => exact ⟨[], [], _, _, l, HST⟩
 case round =>
  obtain ⟨vs, xs, vV, vA, r, hx⟩ := hrel
  have HM := Lib.hid (may_any C [118, 97, 114] r 0 wr HK.out hx.out.pa (by decide))
  go_wp2_with fail
  refine HM.out.mono ?_
  rintro _ w2 ⟨rfl, hp, hf⟩
  obtain ⟨f, hRf, hfr⟩ := hx.out.eq
  have hrl : 0 < r.length := List.length_pos_iff.2 hx.out.pa.ne
  obtain ⟨f, rfl⟩ : ∃ f', f = f' + 1 := ⟨f - 1, by omega⟩
  unfold headF at hRf
  cases hm : mayB [118, 97, 114] r
  rotate_left
  ·rw [hm] at hRf hp
   replace hp : PaAt C w2 r.tail 0 := hp
   replace hRf : R = ((someP nameP [59] false r.tail).then fun v r => headF f (vs ++ v) xs r).then treeK := hRf
   have HRF := Lib.hid hRf
   have HFR := Lib.hid hfr
   have HNE := Lib.hid hp.ne
   have HLN := Lib.hid (show r.length = r.tail.length + 1 by rw [List.length_tail]; omega)
   have HF2 := Lib.hid hf
   have hbx := hx.out.box.fr hf (fun e => by have e : w.heap.size = C.P := e; have := HL.out; omega)
   have t02 := hbx.cell 0
   have f02 := hbx.frozen 0
   simp only [getsL] at t02
   have HSM := Lib.hid (someVa_any C nameP [59] false 113 #[.pointer (some ⟨C.P, 0, none⟩)] #[] r.tail 0 w2.drew HK.out (hp.fr (T := NoT) (Fr.drew (Fr.refl _ _)) id id fun _ _ => id) (fun l x r e => by rw [nameP_shr e, List.length_tail]; omega) (by decide) (enters_of Tryz.func113 (by kernel_rfl) rfl) fun W _ l' hp' => by
    simpa using pname_any C l' 0 W HK.out hp')
   clear hp hf hRf hfr hm hbx hrl
   go_wp2_with fail
   go_region_law
    (first
     |(refine at_value _ _ _ (by rfl) ?_
       go_simp
       go_at_call 112
       with_reducible refine HSM.out.mono ?_
       intro e w7 hE
       rcases lsV_ways hE with ⟨ps, r2, B, q, hX, rfl, hv, hp, hf⟩ | ⟨c, a2, hX, rfl, hf⟩
       case inr =>
        have hbad : TrV C R w (wrongE c a2) w7 := by rw [HRF.out, hX]; exact tree_bad (hx.out.fr.trans (PT.l (HF2.out.trans ((Fr.drew (Fr.refl C.T w2)).trans hf))))
        exact And.intro rfl hbad
       have hf7 : Fr C.T wr w7 := HF2.out.trans ((Fr.drew (Fr.refl C.T w2)).trans hf)
       have hpos := someP_pos HNE.out hX
       obtain ⟨bb, oo, rfl, hat⟩ := hv.2.2 hpos
       have hcl := hat.cells
       have hL := HL.out
       have hbx7 := hx.out.box.fr hf7 (fun e => by have e : w.heap.size = C.P := e; omega)
       have t07 := hbx7.cell 0
       have f07 := hbx7.frozen 0
       simp only [getsL] at t07
       have hfw : ps.length + r2.length ≤ r.length := by
        have h1 := someP_few2 (fun l x r e => by rw [nameP_shr e, List.length_tail]; omega) hX
        have h2 := HLN.out
        omega
       have HX := Lib.hid hX
       have HP := Lib.hid hp
       have HF7 := Lib.hid hf7
       have HCL := Lib.hid hcl
       have HROW := Lib.hid (row_keep hx.out.rowV hf7 (by omega))
       have hsz7 := hf7.size
       have hwr := hx.out.fr.size
       have hbxl := hx.out.box.lt
       have hqm := hv.1
       have hqb := hv.2.1
       have hfq := hx.out.few
       have hrn := hx.out.rowV.lt
       clear hX hv hp hf hf7 hat hcl hbx7 hL
       dsimp only)
     |(refine step_append_lies _ (by rfl) _ _ _ (by rfl) (w.heap.size + 1) 43 iV (.agg #[.string ⟨#[]⟩, .int .i64 0]) 2 24 Tryz.underlying22 HIV.out.1 HIV.out.2.1 HIV.out.2.2.1 HIV.out.2.2.2 rfl (by decide) vV vs.length (vs.flatMap cCVa) (by rfl) HROW.out ⟨bb, oo, none⟩ ps.length q (ps.flatMap cCVa) (by rfl) (flat2_len ps) (fun j u hu => by rw [add_none]; exact HCL.out.2 j u hu) (one_flat2 ps) hpos (by unfold maxLen; omega) (by omega) (by omega) w7.heap.size rfl ?_
       intro gg cap w9 hown hgrow hsp hlt
       have hl9 := (hgrow.cell_far ⟨w.heap.size, 0, none⟩ (by show w.heap.size < _; omega) (fun e => by have := (hrn w.heap.size e.symm).1; omega)).trans t07
       have hlf9 := (hgrow.frozen_far ⟨w.heap.size, 0, none⟩ (by show w.heap.size < _; omega) (fun e => by have := (hrn w.heap.size e.symm).1; omega)).trans f07
       have HE := Lib.hid (fun w10 h10 => TrX.stepV (A := none) (q := 0) (w10 := w10) (f := f) HL.out hx.out (by rw [HRF.out, HX.out]; rfl) (by have := HFR.out; omega) hfw HCL.out.1 HP.out HF7.out hown hgrow hsp h10)
       clear hown hgrow hsp hlt))
   all_goals
    have hbx := HE.out _ (by with_reducible rfl)
    have HBX := Lib.hid hbx
    have HLM := Lib.hid (show lenP C _ < lenP C wr from by rw [hbx.pa.lenP, hx.out.pa.lenP]; have := HLN.out; omega)
    clear hbx HE hl9 hlf9 t07 f07
    go_wp2_with fail
    go_roundw
    case rel => exact ⟨_, _, _, _, _, HBX⟩
    case measure => exact HLM.out
  ·rw [hm] at hRf hp
   replace hp : PaAt C w2 r 0 := hp
   have HF1 := Lib.hid hf
   have HM2 := Lib.hid (may_any C [97, 114, 114, 97, 121] r 0 w2 HK.out hp (by decide))
   have HFR := Lib.hid hfr
   have HRF0 := Lib.hid hRf
   clear hp hf hRf hfr hm
   go_wp2_with fail
   refine HM2.out.mono ?_
   rintro _ w3 ⟨rfl, hp, hf⟩
   have hRf := HRF0.out
   cases hm : mayB [97, 114, 114, 97, 121] r
   rotate_left
   ·rw [hm] at hRf hp
    replace hp : PaAt C w3 r.tail 0 := hp
    replace hRf : R = ((someP sizedP [59] false r.tail).then fun x r => headF f vs (xs ++ x) r).then treeK := hRf
    have HRF := Lib.hid hRf
    have HNE := Lib.hid hp.ne
    have HLN := Lib.hid (show r.length = r.tail.length + 1 by rw [List.length_tail]; omega)
    have HF2 := Lib.hid (HF1.out.trans hf)
    obtain ⟨w2, hw2⟩ : ∃ w2, w2 = w3 := ⟨_, rfl⟩
    rw [← hw2] at HF2 hp ⊢
    clear hw2 hf
    have hbx := hx.out.box.fr HF2.out (fun e => by have e : w.heap.size = C.P := e; have := HL.out; omega)
    have t02 := hbx.cell 1
    have f02 := hbx.frozen 1
    simp only [getsL] at t02
    have HSM := Lib.hid (someAr_any C sizedP [59] false 115 #[.pointer (some ⟨C.P, 0, none⟩)] #[] r.tail 0 w2.drew HK.out (hp.fr (T := NoT) (Fr.drew (Fr.refl _ _)) id id fun _ _ => id) sizedP_shr (by decide) (enters_of Tryz.func115 (by kernel_rfl) rfl) fun W _ l' hp' => by
     simpa using sized_any C l' 0 W HK.out hp')
    clear hp hRf hm hbx hrl HRF0
    go_wp2_with fail
    go_region_law
     (first
      |(refine at_value _ _ _ (by rfl) ?_
        go_simp
        go_at_call 114
        with_reducible refine HSM.out.mono ?_
        intro e w7 hE
        rcases lsA_ways hE with ⟨ps, r2, B, q, hX, rfl, hv, hp, hf⟩ | ⟨c, a2, hX, rfl, hf⟩
        case inr =>
         have hbad : TrV C R w (wrongE c a2) w7 := by rw [HRF.out, hX]; exact tree_bad (hx.out.fr.trans (PT.l (HF2.out.trans ((Fr.drew (Fr.refl C.T w2)).trans hf))))
         exact And.intro rfl hbad
        have hf7 : Fr C.T wr w7 := HF2.out.trans ((Fr.drew (Fr.refl C.T w2)).trans hf)
        have hpos := someP_pos HNE.out hX
        obtain ⟨bb, oo, rfl, hat⟩ := hv.2.2 hpos
        have hcl := hat.cells
        have hL := HL.out
        have hbx7 := hx.out.box.fr hf7 (fun e => by have e : w.heap.size = C.P := e; omega)
        have t07 := hbx7.cell 1
        have f07 := hbx7.frozen 1
        simp only [getsL] at t07
        have hfw : ps.length + r2.length ≤ r.length := by
         have h1 := someP_few2 sizedP_shr hX
         have h2 := HLN.out
         omega
        have HX := Lib.hid hX
        have HP := Lib.hid hp
        have HF7 := Lib.hid hf7
        have HCL := Lib.hid hcl
        have HROW := Lib.hid (row_keep hx.out.rowA hf7 (by omega))
        have hsz7 := hf7.size
        have hwr := hx.out.fr.size
        have hbxl := hx.out.box.lt
        have hqm := hv.1
        have hqb := hv.2.1
        have hfq := hx.out.few
        have hrn := hx.out.rowA.lt
        clear hX hv hp hf hf7 hat hcl hbx7 hL
        dsimp only)
      |(refine step_append_lies _ (by rfl) _ _ _ (by rfl) (w.heap.size + 1) 57 iA (.agg #[.string ⟨#[]⟩, .int .i64 0, .int .i64 0]) 3 32 Tryz.underlying23 HIA.out.1 HIA.out.2.1 HIA.out.2.2.1 HIA.out.2.2.2 rfl (by decide) vA xs.length (xs.flatMap cCAr) (by rfl) HROW.out ⟨bb, oo, none⟩ ps.length q (ps.flatMap cCAr) (by rfl) (flat3_len ps) (fun j u hu => by rw [add_none]; exact HCL.out.2 j u hu) (one_flat3 ps) hpos (by unfold maxLen; omega) (by omega) (by omega) w7.heap.size rfl ?_
        intro gg cap w9 hown hgrow hsp hlt
        have hl9 := (hgrow.cell_far ⟨w.heap.size, 1, none⟩ (by show w.heap.size < _; omega) (fun e => by have := (hrn w.heap.size e.symm).1; omega)).trans t07
        have hlf9 := (hgrow.frozen_far ⟨w.heap.size, 1, none⟩ (by show w.heap.size < _; omega) (fun e => by have := (hrn w.heap.size e.symm).1; omega)).trans f07
        have HE := Lib.hid (fun w10 h10 => TrX.stepA (A := none) (q := 0) (w10 := w10) (f := f) HL.out hx.out (by rw [HRF.out, HX.out]; rfl) (by have := HFR.out; omega) hfw HCL.out.1 HP.out HF7.out hown hgrow hsp h10)
        clear hown hgrow hsp hlt))
    all_goals
     have hbx := HE.out _ (by with_reducible rfl)
     have HBX := Lib.hid hbx
     have HLM := Lib.hid (show lenP C _ < lenP C wr from by rw [hbx.pa.lenP, hx.out.pa.lenP]; have := HLN.out; omega)
     clear hbx HE hl9 hlf9 t07 f07
     go_wp2_with fail
     go_roundw
     case rel => exact ⟨_, _, _, _, _, HBX⟩
     case measure => exact HLM.out
   ·rw [hm] at hRf hp
    replace hp : PaAt C w3 r 0 := hp
    replace hRf : R = treeK (vs, xs) r := hRf
    obtain ⟨Av, cv, Aa, ca, hvV, hvA, hy⟩ := TrY.start (TrX.next HL.out hx.out (HF1.out.trans hf) hp) hRf
    have HST2 := Lib.hid hy
    clear hp hf hRf hm hvV hvA hy HRF0 HFR HM2 HF1 HM HST hrl hx
    go_wp2_with fail
    try go_step3
    try go_wp2_with fail
    go_loopw [25] (fun _ wr => ∃ (vP : Value) (ps : List Prc) (cs : List Value) (r : List Tk), Hid (TrY C w R (vs, xs) Av cv Aa ca vP ps cs r wr)) (fun _ wr => lenP C wr)
    case atStart => exact ⟨_, _, _, _, HST2⟩
    case round =>
     clear HST2
     obtain ⟨vP, ps, cs, r, hy⟩ := hrel
     have HM := Lib.hid (may_any C [112, 114, 111, 99] r 0 wr HK.out hy.out.pa (by decide))
     go_wp2_with fail
     refine HM.out.mono ?_
     rintro _ w2 ⟨rfl, hp, hf⟩
     obtain ⟨f, hRf, hfr⟩ := hy.out.eq
     have hrl : 0 < r.length := List.length_pos_iff.2 hy.out.pa.ne
     obtain ⟨f, rfl⟩ : ∃ f', f = f' + 1 := ⟨f - 1, by omega⟩
     unfold procsF at hRf
     cases hm : mayB [112, 114, 111, 99] r
     rotate_left
     ·rw [hm] at hRf hp
      replace hp : PaAt C w2 r.tail 0 := hp
      replace hRf : R = ((procP r.tail).then fun p r => procsF f (ps ++ [p]) r).then (treeM (vs, xs)) := hRf
      have HRF := Lib.hid hRf
      have HFR := Lib.hid hfr
      have HLN := Lib.hid (show r.length = r.tail.length + 1 by rw [List.length_tail]; omega)
      have HF2 := Lib.hid hf
      have HEND := Lib.hid (hp.ended HK.out)
      have hbx := hy.out.box.fr hf (fun e => by have e : w.heap.size = C.P := e; have := HL.out; omega)
      have t02 := hbx.cell 2
      have f02 := hbx.frozen 2
      simp only [getsL] at t02
      have HSE := Lib.hid (proc_any C r.tail w2.drew HK.out (hp.fr (T := NoT) (Fr.drew (Fr.refl _ _)) id id fun _ _ => id))
      obtain ⟨m, hmm⟩ : ∃ m, m = ps.length := ⟨_, rfl⟩
      have HMM := Lib.hid hmm
      have HROW0 := Lib.hid (show wr.ownsRow (w.heap.size + 1) 59 4 vP m cs from by rw [hmm]; exact hy.out.row)
      clear hp hf hRf hfr hm hbx hrl HM hmm
      go_wp2_with fail
      go_region_law
       (first
        |(refine at_value _ _ _ (by rfl) ?_
          go_simp
          go_at_call 116
          with_reducible refine HSE.out.mono ?_
          intro e w7 hE
          rcases pcV_ways hE with ⟨x, r3, A, c, D, q, hX, rfl, hv, hp, hf⟩ | ⟨c, a2, hX, rfl, hf⟩
          case inr =>
           have hbad : TrV C R w (wrongE c a2) w7 := by rw [HRF.out, hX]; exact tree_bad (hy.out.fr.trans (PT.l (HF2.out.trans ((Fr.drew (Fr.refl C.T w2)).trans hf))))
           exact And.intro rfl hbad
          have hf7 : Fr C.T wr w7 := HF2.out.trans ((Fr.drew (Fr.refl C.T w2)).trans hf)
          have hL := HL.out
          have hbx7 := hy.out.box.fr hf7 (fun e => by have e : w.heap.size = C.P := e; omega)
          have t07 := hbx7.cell 2
          have f07 := hbx7.frozen 2
          have hb7 : w.heap.size < w7.heap.size := hbx7.lt
          have f07a := (hbx7.alloc (.cells #[.string x.nm, .slice A x.params.length c, .slice D x.body.len q, .int .i64 x.at_] 59)).frozen 2
          simp only [getsL] at t07
          have hr3 : r3.length < r.length := by
           have h1 := (procP_loc.shr1 HEND.out hX).1
           have h2 := HLN.out
           omega
          have HR3 := Lib.hid hr3
          have HX := Lib.hid hX
          have HV := Lib.hid (⟨hv.1, hv.2.1.imp fun _ _ h => VaR.more (fun b hb => ⟨Nat.le_trans HF2.out.size hb.1, hb.2⟩) h, hv.2.2.imp fun _ _ h => StR.more (fun b hb => ⟨Nat.le_trans HF2.out.size hb.1, hb.2⟩) h⟩ : in64 x.at_ ∧ SlR (VaR w7 (New wr.heap.size w7) False x.params) x.params.length 24 A c ∧ SlR (StR w7 (New wr.heap.size w7) False x.body) x.body.len 128 D q)
          have HP := Lib.hid hp
          have HF7 := Lib.hid hf7
          have HR7 := Lib.hid ((row_keep HROW0.out hf7 (by omega)).alloc (.cells #[.string x.nm, .slice A x.params.length c, .slice D x.body.len q, .int .i64 x.at_] 59))
          have HNB := Lib.hid (Bk.new w7 59 #[.string x.nm, .slice A x.params.length c, .slice D x.body.len q, .int .i64 x.at_]).news
          have HW := Lib.hid (show Fr NoT w7 (w7.alloc (.cells #[.string x.nm, .slice A x.params.length c, .slice D x.body.len q, .int .i64 x.at_] 59)) from (Fr.refl _ _).alloc _)
          have hsz7 := hf7.size
          have hwr := hy.out.fr.size
          have hbxl := hy.out.box.lt
          have hfew : m ≤ 5000 := by have := hy.out.few; have := HMM.out; omega
          have hrn := HR7.out.lt
          have hone : ∀ u ∈ pcC x A c D q, u.oneCell' = true := by simp [pcC, Value.oneCell']
          clear hX hv hp hf hf7 hbx7 hL hr3
          dsimp only)
        |(refine step_append_lies _ (by rfl) _ _ _ (by rfl) (w.heap.size + 1) 59 iP (.agg #[.string ⟨#[]⟩, .slice none 0 0, .slice none 0 0, .int .i64 0]) 4 72 Tryz.underlying24 HIP.out.1 HIP.out.2.1 HIP.out.2.2.1 HIP.out.2.2.2 rfl (by decide) vP m cs (by rfl) HR7.out ⟨w7.heap.size, 0, none⟩ 1 1 (pcC x A c D q) (by rfl) (by rfl) HNB.out hone (by omega) (by unfold maxLen; omega) (by omega) (by rw [World.size_alloc]; omega) (w7.heap.size + 1) (World.size_alloc _ _) ?_
          intro gg cap w9 hown hgrow hsp hlt
          have hl9 := (hgrow.cell_far ⟨w.heap.size, 2, none⟩ (by show w.heap.size < _; rw [World.size_alloc]; omega) (fun e => by have := (hrn w.heap.size e.symm).1; omega)).trans ((World.cell?_alloc_lt w7 _ ⟨w.heap.size, 2, none⟩ (by show w.heap.size < _; omega)).trans t07)
          have hlf9 := (hgrow.frozen_far ⟨w.heap.size, 2, none⟩ (by show w.heap.size < _; rw [World.size_alloc]; omega) (fun e => by have := (hrn w.heap.size e.symm).1; omega)).trans f07a
          have HE := Lib.hid (fun w10 h10 => TrY.step (w10 := w10) (f := f) HMM.out HL.out hy.out (by rw [HRF.out, HX.out]; rfl) (by have := HFR.out; have := HR3.out; omega) HR3.out HV.out HP.out HF7.out _ HW.out hown hgrow (hsp.imp id fun e => by rw [World.size_alloc]; exact e) h10)
          clear hown hgrow hsp hrn))
      all_goals
       have hby := HE.out _ (by with_reducible rfl)
       have HBY := Lib.hid hby
       have HLM := Lib.hid (show lenP C _ < lenP C wr from by rw [hby.pa.lenP, hy.out.pa.lenP]; exact HR3.out)
       clear hby HE hl9 hlf9 t07 f07
       go_wp2_with fail
       go_roundw
       case rel => exact ⟨_, _, _, _, HBY⟩
       case measure => exact HLM.out
     ·rw [hm] at hRf hp
      replace hp : PaAt C w2 r 0 := hp
      replace hRf : R = treeM (vs, xs) ps r := hRf
      have hy2 := TrY.next HL.out hy.out hf hp
      have HY2 := Lib.hid hy2
      have HRF := Lib.hid hRf
      have HT := Lib.hid (take_any C [109, 97, 105, 110] r 0 w2.heap.size _ HK.out (hp.alloc (.cells #[.string ⟨#[109, 97, 105, 110]⟩] 9)) (by decide) (by simp))
      clear hp hf hRf hfr hm hrl HM hy2 hy
      go_wp2_with fail
      refine HT.out.mono ?_
      intro e w4 hE
      rcases hE with ⟨ht, rfl, hp, hf⟩ | ⟨ht, rfl, hf⟩
      rotate_left
      ·go_wp2_with fail
       have hbad : TrV C R w (wrongE 90 (hdT r).at_) w4 := by
        rw [HRF.out]
        unfold treeM
        rw [ht]
        exact tree_bad (HY2.out.fr.trans (PT.l (((Fr.refl C.T w2).alloc _).trans hf)))
       exact And.intro rfl hbad
      have hR3 := HRF.out
      unfold treeM at hR3
      rw [ht] at hR3
      replace hR3 : R = (blockP 24 r.tail).then fun b r => if 1 < r.length then .err 90 (hdT r).at_ else .ok ⟨vs, xs, ps, stsOf b⟩ r := hR3
      have HR3 := Lib.hid hR3
      have HBK := Lib.hid (blkC_all C HK.out 24 r.tail 0 w4 (by omega) hp)
      have HF4 := Lib.hid (((Fr.refl C.T w2).alloc (.cells #[.string ⟨#[109, 97, 105, 110]⟩] 9)).trans hf)
      clear ht hp hf hR3 HT HRF
      go_wp2_with (first | fail "x")
      refine HBK.out.mono ?_
      intro e w7 hE
      rcases stlV_ways hE with ⟨b, r3, D, q, hX, rfl, hv, hp, hf⟩ | ⟨c, a2, hX, rfl, hf⟩
      case inr =>
       have hbad : TrV C R w (wrongE c a2) w7 := by rw [HR3.out, hX]; exact tree_bad (HY2.out.fr.trans (PT.l (HF4.out.trans hf)))
       go_wp2_with fail
       exact And.intro rfl hbad
      have hR4 := HR3.out
      rw [hX] at hR4
      replace hR4 : R = if 1 < r3.length then .err 90 (hdT r3).at_ else .ok ⟨vs, xs, ps, stsOf b⟩ r3 := hR4
      have hf7 := HF4.out.trans hf
      have hL := HL.out
      obtain ⟨w10, hw10⟩ : ∃ w10, w10 = w7.setCell ⟨w.heap.size, 3, none⟩ (.slice D (stsOf b).len q) := ⟨_, rfl⟩
      obtain ⟨Ap, cp, hvP, hbk, hfin⟩ := tree_fin (r := r3) hL HY2.out hf7 (hv.imp fun _ _ h => StR.more (fun b hb => ⟨Nat.le_trans HF4.out.size hb.1, hb.2⟩) h) hw10
      have hbx7 := HY2.out.box.fr hf7 (fun e => by have e : w.heap.size = C.P := e; omega)
      have t7 := hbx7.cell 3
      have f7 := hbx7.frozen 3
      simp only [getsL] at t7
      have hp10 : PaAt C w10 r3 0 := hp.fr (T := fun b => b = w.heap.size) (by rw [hw10]; exact Fr.own (Fr.refl _ _) _ _) (fun e => by have e : C.P = w.heap.size := e; omega) (fun e => by have e : C.TB = w.heap.size := e; omega) (fun i hi e => by have e : i = w.heap.size := e; omega)
      have hfb : Fr (PT C w.heap.size) w w10 := by rw [hw10]; exact (HY2.out.fr.trans (PT.l hf7)).trans ((Fr.own (Fr.refl _ _) 3 _).mono fun i _ h => .inr h)
      obtain ⟨j, cap, m, hm0, hm1, hle, hmc, hcm, hbb, p0, p1, g0, g1, _, _, _, ltP, ltT⟩ := hp.cells
      have hne1 : ¬ C.P = w.heap.size := by omega
      have hne2 : ¬ w.heap.size = C.P := by omega
      have hm2 : m ≤ 9223372036854775807 := by omega
      have HFA := Lib.hid (fail_any C 90 r3 0 (w7.setCell ⟨w.heap.size, 3, none⟩ (.slice D (stsOf b).len q)) (by rw [← hw10]; exact hp10))
      have b0 := hbk.cell 0
      have b1 := hbk.cell 1
      have b2 := hbk.cell 2
      have b3 := hbk.cell 3
      have hbl := hbk.lt
      simp only [getsL] at b0 b1 b2 b3
      have HFIN := Lib.hid hfin
      have HFB := Lib.hid hfb
      have HR4 := Lib.hid hR4
      have HW10 := Lib.hid hw10
      clear hfin hfb hR4 hX hv hp hf hf7 hbx7 hp10 hL hvP hbk hle hbb
      by_cases h1 : 1 < r3.length
      ·have hlm : (1 : Int) < (m : Int) := by omega
       have e1 : decide ((1 : Int) < (m : Int)) = true := by simpa using hlm
       have hR5 := HR4.out
       rw [if_pos h1] at hR5
       have HR5 := Lib.hid hR5
       clear hR5 HFIN h1 hm0
       go_wp2_with fail
       refine HFA.out.mono ?_
       rintro _ w11 ⟨rfl, hf⟩
       have hbad : TrV C R w (wrongE 90 (hdT r3).at_) w11 := by
        rw [HR5.out]
        rw [← HW10.out] at hf
        exact tree_bad (HFB.out.trans (PT.l hf))
       exact And.intro rfl hbad
      ·have hlm : ¬ (1 : Int) < (m : Int) := by omega
       have e1 : decide ((1 : Int) < (m : Int)) = false := by simpa using hlm
       have hR5 := HR4.out
       rw [if_neg h1] at hR5
       have HR5 := Lib.hid hR5
       clear hR5 h1 hm0
       go_wp2_with fail
       simp only [Exit.noGoto]
       refine bodyPost_ret (v := .agg #[.slice Av vs.length cv, .slice Aa xs.length ca, .slice Ap ps.length cp, .slice D (stsOf b).len q]) ?_ rfl ?_
       ·rw [← HW10.out]
        simp [results, Tryz.results62, go_sem, b0, b1, b2, b3, hbl]
       ·rw [← HW10.out, HR5.out]
        exact HFIN.out
end Go.Proofs.YtfcegaklbicmfaaGreatDoor
