/-
  parse: a statement; what is within a block's braces.
-/
import Derived.Test.YtfcegaklbicmfaaGreatDoorPfSet2
import Derived.Test.YtfcegaklbicmfaaGreatDoorJnLoc
set_option linter.unusedVariables false
set_option linter.unusedSimpArgs false
namespace Go.Proofs.YtfcegaklbicmfaaGreatDoor
open Go.RowKit Go.Shelf

theorem stmt_any (C : Pcx) (n : Nat) (hbk : BlkC C n) (l : List Tk) (d : Nat) (w : World) (hdn : d + n = 24) (hk : C.Ok) (h : PaAt C w l d) :
  Calls Tryz.prog 164 #[.pointer (some ⟨C.P, 0, none⟩)] w (EndV C d StVal (stmtOf (blockP n) n l) w) := by
 by_cases h0 : keyK (hdT l).text = 0
 ·exact stmt_set C n l d w _ rfl h0 hdn hk h
 ·exact stmt_word C n hbk l d w _ rfl h0 hdn hk h
theorem PaAt.ended {C : Pcx} {w : World} {l : List Tk} {d : Nat} (h : PaAt C w l d) (hk : C.Ok) : Ended l := by
 obtain ⟨j, q, e, _⟩ := h.at_
 have hlen := List.length_pos_iff.2 h.ne
 rw [e, List.length_drop] at hlen
 obtain ⟨z, hz⟩ : ∃ z, C.all[C.all.length - 1]? = some z := ⟨_, List.getElem?_eq_getElem (by omega)⟩
 have hd := hk.ends _ z hz (by omega)
 rcases List.eq_nil_or_concat l with rfl | ⟨s, y, rfl⟩
 ·exact absurd rfl h.ne
 ·refine ⟨s, y, by simp, fun hl => ?_⟩
  have hy : (C.all.drop j)[C.all.length - j - 1]? = some y := by
   rw [← e]
   have : C.all.length - j - 1 = s.length := by
    have := congrArg List.length e
    simp at this
    omega
   rw [this]
   simp
  rw [List.getElem?_drop, show j + (C.all.length - j - 1) = C.all.length - 1 from by omega, hz] at hy
  rw [← Option.some.inj hy] at hl
  exact hl hd
theorem stV_ways {C : Pcx} {d : Nat} {r : PR St} {W w' : World} {e : Ending} (h : EndV C d StVal r W e w') :
  (∃ (x : St) (l : List Tk) (p : Loc), r = .ok x l ∧ e = .returned (.agg #[.int .u8 x.k, .string x.nm, .slice p.A x.args.len p.c, .slice p.B x.cond.len p.q, .slice p.D x.body.len p.e, .slice p.E x.els.len p.f, .int .i64 x.at_]) ∧ StS w' (New W.heap.size w') x p ∧ PaAt C w' l d ∧ Fr C.T W w') ∨
   ∃ c a, r = .err c a ∧ e = .panicked [{ v := .iface 108 (.agg #[.int .i64 c, .int .i64 a]), recovered := false }] ∧ Fr C.T W w' := by
 unfold EndV at h
 cases r with
 | err c a => exact .inr ⟨c, a, rfl, h⟩
 | ok x l =>
  obtain ⟨v, rfl, ⟨p, rfl, hs⟩, hp, hf⟩ := h
  exact .inl ⟨x, l, p, rfl, rfl, hs, hp, hf⟩
theorem row_shape {w : World} {base : Nat} {e : TypeId} {size : Nat} {v : Value} {n : Nat} {xs : List Value} (h : w.ownsRow base e size v n xs) : ∃ A c, v = .slice A n c ∧ n ≤ c ∧ c ≤ 9223372036854775807 := by
 rcases h.2 with ⟨rfl, rfl⟩ | ⟨g, cap, cur, rfl, _, _, h1, h2, _⟩
 ·exact ⟨none, 0, rfl, Nat.le_refl _, by decide⟩
 ·exact ⟨_, _, rfl, h1, by unfold maxLen at h2; omega⟩
theorem row_zero7 {w : World} {base : Nat} {e : TypeId} {g cap n : Nat} {cs : List Value} (h : w.ownsRow base e 7 (.slice (some ⟨g, 0, none⟩) (n + 1) cap) (n + 1) (cs ++ zeroSt.toList)) (hl : cs.length = n * 7) :
  w.cell? ⟨g, n * 7, none⟩ = some (.int .u8 0) ∧ w.cell? ⟨g, n * 7 + 1, none⟩ = some (.string ⟨#[]⟩) ∧ w.cell? ⟨g, n * 7 + 2, none⟩ = some (.slice none 0 0) ∧ w.cell? ⟨g, n * 7 + 3, none⟩ = some (.slice none 0 0) ∧ w.cell? ⟨g, n * 7 + 4, none⟩ = some (.slice none 0 0) ∧ w.cell? ⟨g, n * 7 + 5, none⟩ = some (.slice none 0 0) ∧ w.cell? ⟨g, n * 7 + 6, none⟩ = some (.int .i64 0) ∧ ∀ j, w.frozen? ⟨g, j, none⟩ = false := by
 have key : ∀ j, j < 7 → w.cell? ⟨g, n * 7 + j, none⟩ = zeroSt.toList[j]? := fun j hj => by
  rw [h.cellAt (n * 7 + j) (by omega), List.getElem?_append_right (by omega), hl, Nat.add_sub_cancel_left]
 exact ⟨key 0 (by omega), key 1 (by omega), key 2 (by omega), key 3 (by omega), key 4 (by omega), key 5 (by omega), key 6 (by omega), fun j => h.frozenAt j⟩
theorem BlkX.stepN {C : Pcx} {w wr w7 w9 : World} {d : Nat} {R : PR (List St)} {one : List Tk → PR St} {lb pb f : Nat} {v : Value} {acc : List St} {cs : List Value} {r r2 : List Tk} {x : St} {p : Loc} {g cap m : Nat} (hm : m = acc.length)
  (hL : C.P < w.heap.size ∧ C.TB < w.heap.size ∧ C.W0.heap.size ≤ w.heap.size) (hlb : lb < w.heap.size) (hlP : lb ≠ C.P) (hlT : lb ≠ C.TB) (hl0 : C.W0.heap.size ≤ lb)
  (hx : BlkX C w d R one lb pb v wr acc cs r) (hR : R = stmtsF one f (acc ++ [x]) r2) (hrf : r2.length ≤ f) (hr2 : r2.length < r.length)
  (hv : StS w7 (New wr.heap.size w7) x p) (hp : PaAt C w7 r2 d) (hf : Fr C.T wr w7) (W : World) (hwa : Fr NoT w7 W)
  (hown : w9.ownsRow w.heap.size 35 7 (.slice (some ⟨g, 0, none⟩) (m + 1) cap) (m + 1) (cs ++ zeroSt.toList))
  (hg : W.grownBy w9 v.ownBlock) (hsp : v.ownBlock = some g ∨ g = W.heap.size) (w10 : World)
  (hw10 : w10 = (((((((w9.setCell ⟨g, m * 7, none⟩ (.int .u8 x.k)).setCell ⟨g, m * 7 + 1, none⟩ (.string x.nm)).setCell ⟨g, m * 7 + 2, none⟩ (.slice p.A x.args.len p.c)).setCell ⟨g, m * 7 + 3, none⟩ (.slice p.B x.cond.len p.q)).setCell ⟨g, m * 7 + 4, none⟩ (.slice p.D x.body.len p.e)).setCell ⟨g, m * 7 + 5, none⟩ (.slice p.E x.els.len p.f)).setCell ⟨g, m * 7 + 6, none⟩ (.int .i64 x.at_)).setCell ⟨lb, 0, none⟩ (.slice (some ⟨g, 0, none⟩) (m + 1) cap) ∨
   w10 = (((((((w9.setCell ⟨lb, 0, none⟩ (.slice (some ⟨g, 0, none⟩) (m + 1) cap)).setCell ⟨g, m * 7, none⟩ (.int .u8 x.k)).setCell ⟨g, m * 7 + 1, none⟩ (.string x.nm)).setCell ⟨g, m * 7 + 2, none⟩ (.slice p.A x.args.len p.c)).setCell ⟨g, m * 7 + 3, none⟩ (.slice p.B x.cond.len p.q)).setCell ⟨g, m * 7 + 4, none⟩ (.slice p.D x.body.len p.e)).setCell ⟨g, m * 7 + 5, none⟩ (.slice p.E x.els.len p.f)).setCell ⟨g, m * 7 + 6, none⟩ (.int .i64 x.at_)) :
  BlkX C w d R one lb pb (.slice (some ⟨g, 0, none⟩) (acc.length + 1) cap) w10 (acc ++ [x]) (cs ++ stC x p) r2 := by
 subst hm
 have hgl := hown.lt g rfl
 refine BlkX.step hL hlb hlP hlT hl0 hx hR hrf hr2 hv hp hf W hwa hown hg hsp w10 ?_
 rcases hw10 with h | h
 ·exact h
 ·have hne : ∀ j, (⟨lb, 0, none⟩ : Addr).block ≠ (⟨g, j, none⟩ : Addr).block := fun j e => by
   have e : lb = g := e
   omega
  rw [h, setCell_comm (hne _), setCell_comm (hne _), setCell_comm (hne _), setCell_comm (hne _), setCell_comm (hne _), setCell_comm (hne _), setCell_comm (hne _)]
theorem BlkX.next {C : Pcx} {w wr w2 : World} {d : Nat} {R : PR (List St)} {one : List Tk → PR St} {lb pb : Nat} {v : Value} {acc : List St} {cs : List Value} {r : List Tk} (hL : C.P < w.heap.size) (hlP : lb ≠ C.P) (hx : BlkX C w d R one lb pb v wr acc cs r) (hf : Fr C.T wr w2) (hp : PaAt C w2 r d) : BlkX C w d R one lb pb v w2 acc cs r :=
 ⟨hx.eq, hx.lcell.fr hf hlP, row_keep hx.row hf hL, hx.rows.imp (hf.same fun b hb => ⟨hb.2.1, fun e => by have e : b = C.P := e; have := hb.1; omega⟩) (fun b hb => ⟨hb.1, Nat.lt_of_lt_of_le hb.2.1 hf.size, hb.2.2⟩), hx.few, hp, hx.fr.trans (PT.l hf)⟩
theorem blk_less {C : Pcx} {w wr W : World} {d : Nat} {R : PR (List St)} {one : List Tk → PR St} {lb pb : Nat} {v v' : Value} {acc acc' : List St} {cs cs' : List Value} {r r' : List Tk} (h : BlkX C w d R one lb pb v' W acc' cs' r') (hx : BlkX C w d R one lb pb v wr acc cs r) (hl : r'.length < r.length) : lenP C W < lenP C wr := by
 rw [h.pa.lenP, hx.pa.lenP]
 exact hl
def BlbP (C : Pcx) (lb d : Nat) (r : PR (List St)) (W : World) (e : Ending) (w' : World) : Prop :=
 match r with
 | .err c a => e = wrongE c a ∧ Fr (PT C lb) W w'
 | .ok xs l => e = .returned (.tuple #[]) ∧ (∃ v, Bk w' lb 25 #[v] ∧ StlV w' W.heap.size v xs) ∧ PaAt C w' l d ∧ Fr (PT C lb) W w'
set_option maxRecDepth 100000 in
set_option maxHeartbeats 12800000 in
theorem blockb_any (C : Pcx) (n : Nat) (hbk : BlkC C n) (l : List Tk) (d pb lb : Nat) (w : World) (hdn : d + n = 24) (hk : C.Ok) (h : PaAt C w l d) (hpb : Bk w pb 109 #[.pointer (some ⟨C.P, 0, none⟩)]) (hpP : pb ≠ C.P) (hpl : pb ≠ lb)
  (hlbk : Bk w lb 25 #[.slice none 0 0]) (hlP : lb ≠ C.P) (hlT : lb ≠ C.TB) (hl0 : C.W0.heap.size ≤ lb) :
  Calls Tryz.prog 163 #[.pointer (some ⟨pb, 0, none⟩), .pointer (some ⟨lb, 0, none⟩)] w (BlbP C lb d (stmtsF (stmtOf (blockP n) n) l.length [] l) w) := by
 obtain ⟨i0, hi, hz0, hz1, hz2⟩ := info_parts infoSt
 have HI := Lib.hid (And.intro hi (And.intro hz0 (And.intro hz1 hz2)))
 obtain ⟨R, hR⟩ : ∃ R, R = stmtsF (stmtOf (blockP n) n) l.length [] l := ⟨_, rfl⟩
 rw [← hR]
 have hL := h.lts
 have hfl : l.length ≤ 5000 := by
  obtain ⟨j, q, e, _⟩ := h.at_
  have := hk.few
  rw [e, List.length_drop]; omega
 have hlb := hlbk.lt
 have hstart : BlkX C w d R (stmtOf (blockP n) n) lb pb (.slice none 0 0) w [] [] l := ⟨⟨_, hR, Nat.le_refl _⟩, hlbk, World.ownsRow_nil _ _ _ _, rfl, by simpa using hfl, h, Fr.refl _ _⟩
 have HST := Lib.hid hstart
 have HK := Lib.hid hk
 have HL := Lib.hid hL
 have HSC := Lib.hid (fun (l : List Tk) (W : World) (hW : PaAt C W l d) => stmt_any C n hbk l d W hdn hk hW)
 have HPB := Lib.hid hpb
 have HEN := Lib.hid (fun (r : List Tk) (W : World) (hp : PaAt C W r d) => hp.ended hk)
 have HN := Lib.hid (And.intro hpP (And.intro hpl (And.intro hlP (And.intro hlT (And.intro hl0 hlb)))))
 clear hR h hk hL hfl hstart hbk hpb hlbk hi hz0 hz1 hz2 hpP hpl hlP hlT hl0 hlb
 go_enter Tryz.func163, Tryz.ntmps163
 go_wp2_with fail
 go_loopw [2] (fun _ wr => ∃ (v : Value) (acc : List St) (cs : List Value) (r : List Tk), Hid (BlkX C w d R (stmtOf (blockP n) n) lb pb v wr acc cs r)) (fun _ wr => lenP C wr)
 case atStart => exact ⟨_, [], [], l, HST⟩
 case round =>
  obtain ⟨v, acc, cs, r, hx⟩ := hrel
  have hp0 := (HPB.out.fr hx.out.fr (fun e => by rcases e with e | e; exact HN.out.1 e; exact HN.out.2.1 e)).cell 0
  simp only [List.getElem?_toArray, List.getElem?_cons_zero] at hp0
  have HM := Lib.hid (may_any C [125] r d wr HK.out hx.out.pa (by decide))
  go_wp2_with fail
  refine HM.out.mono ?_
  rintro _ w2 ⟨rfl, hp, hf⟩
  obtain ⟨f, hRf, hfr⟩ := hx.out.eq
  have hrl : 0 < r.length := List.length_pos_iff.2 hx.out.pa.ne
  obtain ⟨f, rfl⟩ : ∃ f', f = f' + 1 := ⟨f - 1, by omega⟩
  unfold stmtsF at hRf
  cases hm : mayB [125] r
  rotate_left
  ·rw [hm] at hRf hp
   replace hp : PaAt C w2 r.tail d := hp
   replace hRf : R = .ok acc r.tail := hRf
   have HRF := Lib.hid hRf
   have hrow := row_keep hx.out.row hf HL.out.1
   have hrows := hx.out.rows.imp (S' := fun b => w.heap.size ≤ b ∧ b < w2.heap.size) (hf.same fun b hb => ⟨hb.2.1, fun e => by have e : b = C.P := e; have := hb.1; have := HL.out.1; omega⟩) (fun b hb => ⟨hb.1, Nat.lt_of_lt_of_le hb.2.1 hf.size⟩)
   have HSL := Lib.hid (blk_end hrow hrows (fun b hb => hb) (by have := hx.out.few; omega))
   have HLC := Lib.hid (hx.out.lcell.fr hf HN.out.2.2.1)
   have HP := Lib.hid hp
   have HFF := Lib.hid (hx.out.fr.trans (PT.l hf))
   clear hp hf hRf hrow hrows hm
   go_wp2_with fail
   go_end0
   rw [HRF.out]
   exact ⟨rfl, ⟨_, HLC.out, HSL.out⟩, HP.out, HFF.out⟩
  ·rw [hm] at hRf hp
   replace hp : PaAt C w2 r d := hp
   replace hRf : R = (stmtOf (blockP n) n r).then fun x r => stmtsF (stmtOf (blockP n) n) f (acc ++ [x]) r := hRf
   have hx2 := BlkX.next HL.out.1 HN.out.2.2.1 hx.out hf hp
   obtain ⟨pA, vc, rfl, hvc, hvm⟩ := row_shape hx2.row
   obtain ⟨m, hmm⟩ : ∃ m, m = acc.length := ⟨_, rfl⟩
   rw [← hmm] at hx2
   have hfew : m ≤ 5000 := by have := hx2.few; omega
   have hm0 : (0 : Int) ≤ (m : Int) := by omega
   have hm1 : (m : Int) < (m : Int) + 1 := by omega
   have hm2 : (m : Int) + 1 ≤ 9223372036854775807 := by omega
   have hrow2 := hx2.row
   have hcl := hx2.rows.len
   have hl2 := hx2.lcell.cell 0
   have hlf2 := hx2.lcell.frozen 0
   have hpw := (HPB.out.fr hx2.fr (fun e => by rcases e with e | e; exact HN.out.1 e; exact HN.out.2.1 e)).cell 0
   simp only [List.getElem?_toArray, List.getElem?_cons_zero] at hl2 hpw
   rw [← hmm] at hrow2 hcl
   have HSE := Lib.hid (fun W (hW : Fr NoT w2 W) => HSC.out r W (hp.fr hW id id fun _ _ => id))
   have HX2 := Lib.hid hx2
   have HRF := Lib.hid hRf
   have HMM := Lib.hid hmm
   have HFR := Lib.hid hfr
   have HEND := Lib.hid (HEN.out r w2 hp)
   have HROW := Lib.hid hrow2
   have HCL := Lib.hid hcl
   have hw2 : w.heap.size ≤ w2.heap.size := hx2.fr.size
   have hlbl := HN.out.2.2.2.2.2
   have hpbl := HPB.out.lt
   have hlb2 : lb < w2.heap.size := by omega
   have hpb2 : pb < w2.heap.size := by omega
   clear hp hf hx2 hRf hmm hfr hrow2 hcl hm hp0
   go_wp2_with fail
   go_region_law
    (first
     |(refine at_value _ _ _ (by rfl) ?_
       go_simp
       go_at_call 164
       with_reducible refine (HSE.out w2.drew (Fr.drew (Fr.refl _ _))).mono ?_
       intro e w7 hE
       rcases stV_ways hE with ⟨x, r3, p, hX, rfl, hv, hp, hf⟩ | ⟨c, a2, hX, rfl, hf⟩
       case inr => exact ⟨rfl, by rw [HRF.out, hX]; exact ⟨rfl, HX2.out.fr.trans (PT.l ((Fr.drew (Fr.refl C.T w2)).trans hf))⟩⟩
       have hf7 : Fr C.T w2 w7 := (Fr.drew (Fr.refl C.T w2)).trans hf
       have hsz7 := hf7.size
       have hlb7 : lb < w7.heap.size := by omega
       have hl7 := (HX2.out.lcell.fr hf7 HN.out.2.2.1).cell 0
       have hlf7 := (HX2.out.lcell.fr hf7 HN.out.2.2.1).frozen 0
       simp only [List.getElem?_toArray, List.getElem?_cons_zero] at hl7
       have hp7 := (hf7.cell (p := ⟨pb, 0, none⟩) hpb2 HN.out.1).trans hpw
       have hpb7 : pb < w7.heap.size := by omega
       have HX := Lib.hid hX
       have HV := Lib.hid hv
       have HP := Lib.hid hp
       have HF7 := Lib.hid hf7
       have HR7 := Lib.hid ((row_keep HROW.out hf7 HL.out.1).alloc (.cells #[.int .u8 0, .string ⟨#[]⟩, .slice none 0 0, .slice none 0 0, .slice none 0 0, .slice none 0 0, .int .i64 0] 35))
       have HNB := Lib.hid (Bk.new w7 35 zeroSt).news
       have HW := Lib.hid (show Fr NoT w7 (w7.alloc (.cells #[.int .u8 0, .string ⟨#[]⟩, .slice none 0 0, .slice none 0 0, .slice none 0 0, .slice none 0 0, .int .i64 0] 35)) from (Fr.refl _ _).alloc _)
       have HLC := Lib.hid ((HX2.out.lcell.fr hf7 HN.out.2.2.1).alloc (.cells #[.int .u8 0, .string ⟨#[]⟩, .slice none 0 0, .slice none 0 0, .slice none 0 0, .slice none 0 0, .int .i64 0] 35))
       clear hX hv hp hf hf7
       dsimp only)
     |(refine at_value _ _ _ (by rfl) ?_
       go_simp
       go_at_call 164
       with_reducible refine (HSE.out (w2.alloc (.cells #[.int .u8 0, .string ⟨#[]⟩, .slice none 0 0, .slice none 0 0, .slice none 0 0, .slice none 0 0, .int .i64 0] 35)).drew (Fr.drew ((Fr.refl _ _).alloc _))).mono ?_
       intro e w7 hE
       rcases stV_ways hE with ⟨x, r3, p, hX, rfl, hv, hp, hf⟩ | ⟨c, a2, hX, rfl, hf⟩
       case inr => exact ⟨rfl, by rw [HRF.out, hX]; exact ⟨rfl, HX2.out.fr.trans (PT.l ((Fr.drew ((Fr.refl C.T w2).alloc _)).trans hf))⟩⟩
       have hf0 : Fr C.T w2 (w2.alloc (.cells zeroSt 35)).drew := Fr.drew ((Fr.refl C.T w2).alloc _)
       have hf7 : Fr C.T w2 w7 := hf0.trans hf
       have hsz7 := hf7.size
       have hlb7 : lb < w7.heap.size := by omega
       have hl7 := (HX2.out.lcell.fr hf7 HN.out.2.2.1).cell 0
       have hlf7 := (HX2.out.lcell.fr hf7 HN.out.2.2.1).frozen 0
       simp only [List.getElem?_toArray, List.getElem?_cons_zero] at hl7
       have hp7 := (hf7.cell (p := ⟨pb, 0, none⟩) hpb2 HN.out.1).trans hpw
       have hpb7 : pb < w7.heap.size := by omega
       have HX := Lib.hid hX
       have HV := Lib.hid (hv.imp (S' := New w2.heap.size w7) (SameS.refl _ _) fun b hb => ⟨Nat.le_trans hf0.size hb.1, hb.2⟩)
       have HP := Lib.hid hp
       have HF7 := Lib.hid hf7
       have HR7 := Lib.hid (row_keep HROW.out hf7 HL.out.1)
       have HNB := Lib.hid (((show Bk (w2.alloc (.cells zeroSt 35)).drew w2.heap.size 35 zeroSt from Bk.new _ _ _).fr hf (fun e => by have e : w2.heap.size = C.P := e; have := HL.out.1; omega))).news
       have HW := Lib.hid (Fr.refl NoT w7)
       have HLC := Lib.hid (HX2.out.lcell.fr hf7 HN.out.2.2.1)
       clear hX hv hp hf hf7 hf0
       dsimp only)
     |(refine step_append_lies _ (by rfl) _ _ _ (by rfl) w.heap.size 35 i0 (.agg zeroSt) 7 128 Tryz.underlying25 HI.out.1 HI.out.2.1 HI.out.2.2.1 HI.out.2.2.2 rfl (by decide) (.slice pA m vc) m cs (by rfl) HR7.out ⟨w7.heap.size, 0, none⟩ 1 1 zeroSt.toList (by rfl) (by rfl) HNB.out (by simp [zeroSt, Value.oneCell']) (by omega) (by unfold maxLen; omega) (by omega) (by rw [World.size_alloc]; omega) (w7.heap.size + 1) (World.size_alloc _ _) ?_
       intro gg cap w9 hown hgrow hsp hlt
       have hgg := hown.lt gg rfl
       obtain ⟨c0, c1, c2, c3, c4, c5, c6, cf⟩ := row_zero7 hown HCL.out
       have cf0 := cf (m * 7)
       have cf1 := cf (m * 7 + 1)
       have cf2 := cf (m * 7 + 2)
       have cf3 := cf (m * 7 + 3)
       have cf4 := cf (m * 7 + 4)
       have cf5 := cf (m * 7 + 5)
       have cf6 := cf (m * 7 + 6)
       have hown7 := HR7.out.lt
       have hl9 := (hgrow.cell_far ⟨lb, 0, none⟩ (by show lb < _; rw [World.size_alloc]; omega) (fun e => by have := (hown7 lb e.symm).1; omega)).trans (HLC.out.cell 0)
       have hlf9 := (hgrow.frozen_far ⟨lb, 0, none⟩ (by show lb < _; rw [World.size_alloc]; omega) (fun e => by have := (hown7 lb e.symm).1; omega)).trans (HLC.out.frozen 0)
       simp only [List.getElem?_toArray, List.getElem?_cons_zero] at hl9
       have hne1 : ¬ lb = gg := by omega
       have hne2 : ¬ gg = lb := by omega
       have hrl := stmtOf_less (blockP_loc n) n HEND.out HX.out
       have HE := Lib.hid (fun w10 h10 => BlkX.stepN (w10 := w10) (f := f) HMM.out HL.out HN.out.2.2.2.2.2 HN.out.2.2.1 HN.out.2.2.2.1 HN.out.2.2.2.2.1 HX2.out (by rw [HRF.out, HX.out]; rfl) (by have := HFR.out; omega) hrl HV.out HP.out HF7.out _ HW.out hown hgrow (hsp.imp id fun e => by rw [World.size_alloc]; exact e) h10)
       have HRL := Lib.hid hrl
       have HSW := Lib.hid hgrow.size
       clear hown cf hgrow hsp hown7 hrl)
     |(refine step_append_lies _ (by rfl) _ _ _ (by rfl) w.heap.size 35 i0 (.agg zeroSt) 7 128 Tryz.underlying25 HI.out.1 HI.out.2.1 HI.out.2.2.1 HI.out.2.2.2 rfl (by decide) (.slice pA m vc) m cs (by rfl) HR7.out ⟨w2.heap.size, 0, none⟩ 1 1 zeroSt.toList (by rfl) (by rfl) HNB.out (by simp [zeroSt, Value.oneCell']) (by omega) (by unfold maxLen; omega) (by omega) (by omega) w7.heap.size rfl ?_
       intro gg cap w9 hown hgrow hsp hlt
       have hgg := hown.lt gg rfl
       obtain ⟨c0, c1, c2, c3, c4, c5, c6, cf⟩ := row_zero7 hown HCL.out
       have cf0 := cf (m * 7)
       have cf1 := cf (m * 7 + 1)
       have cf2 := cf (m * 7 + 2)
       have cf3 := cf (m * 7 + 3)
       have cf4 := cf (m * 7 + 4)
       have cf5 := cf (m * 7 + 5)
       have cf6 := cf (m * 7 + 6)
       have hown7 := HR7.out.lt
       have hl9 := (hgrow.cell_far ⟨lb, 0, none⟩ (by show lb < _; omega) (fun e => by have := (hown7 lb e.symm).1; omega)).trans (HLC.out.cell 0)
       have hlf9 := (hgrow.frozen_far ⟨lb, 0, none⟩ (by show lb < _; omega) (fun e => by have := (hown7 lb e.symm).1; omega)).trans (HLC.out.frozen 0)
       simp only [List.getElem?_toArray, List.getElem?_cons_zero] at hl9
       have hne1 : ¬ lb = gg := by omega
       have hne2 : ¬ gg = lb := by omega
       have hrl := stmtOf_less (blockP_loc n) n HEND.out HX.out
       have HE := Lib.hid (fun w10 h10 => BlkX.stepN (w10 := w10) (f := f) HMM.out HL.out HN.out.2.2.2.2.2 HN.out.2.2.1 HN.out.2.2.2.1 HN.out.2.2.2.2.1 HX2.out (by rw [HRF.out, HX.out]; rfl) (by have := HFR.out; omega) hrl HV.out HP.out HF7.out _ HW.out hown hgrow hsp h10)
       have HRL := Lib.hid hrl
       have HSW := Lib.hid hgrow.size
       clear hown cf hgrow hsp hown7 hrl))
   all_goals
    clear c0 c1 c2 c3 c4 c5 c6 cf0 cf1 cf2 cf3 cf4 cf5 cf6
    go_wp2_with fail
    go_roundw
    case rel =>
     first
      | exact ⟨_, _, _, _, Lib.hid (HE.out _ (.inl (by with_reducible rfl)))⟩
      | exact ⟨_, _, _, _, Lib.hid (HE.out _ (.inr (by with_reducible rfl)))⟩
    case measure =>
     first
      | exact blk_less (HE.out _ (.inl (by with_reducible rfl))) hx.out HRL.out
      | exact blk_less (HE.out _ (.inr (by with_reducible rfl))) hx.out HRL.out
end Go.Proofs.YtfcegaklbicmfaaGreatDoor
