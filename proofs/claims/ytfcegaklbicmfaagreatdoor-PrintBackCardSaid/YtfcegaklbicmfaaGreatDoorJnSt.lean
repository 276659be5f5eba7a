/-
  parse: a statement that begins with a word.
-/
import Derived.Test.YtfcegaklbicmfaaGreatDoorPfKey
import Derived.Test.YtfcegaklbicmfaaGreatDoorJnLoc
import Derived.Deep.AppendLies
set_option linter.unusedVariables false
set_option linter.unusedSimpArgs false
namespace Go.Proofs.YtfcegaklbicmfaaGreatDoor
open Go.RowKit Go.Shelf

def StVal (w : World) (L : Nat) (v : Value) (x : St) : Prop := ∃ p, v = .agg (stC x p).toArray ∧ StS w (New L w) x p
structure StmR (C : Pcx) (w : World) (rb sb gb : Nat) (l : List Tk) (d : Nat) (x : St) (u0 u1 : Value) (W : World) : Prop where
 pa : PaAt C W l d
 st : StAt W sb (w.heap.size + 2) x
 raw : Bk W sb 35 #[.int .u8 0, .string ⟨#[]⟩, .slice none 0 0, .slice none 0 0, .slice none 0 0, .slice none 0 0, .int .i64 x.at_]
 beg : Bk W gb 239 #[u0, u1]
 res : Bk W rb 35 #[.int .u8 0, .string ⟨#[]⟩, .slice none 0 0, .slice none 0 0, .slice none 0 0, .slice none 0 0, .int .i64 0]
 fr : Fr NoT w W
theorem stmt_boxes (w w1 : World) (a : Int) (hw : w1 = (w.alloc (.cells zeroSt 35)).alloc (.cells #[.int .u8 0, .string ⟨#[]⟩, .slice none 0 0, .slice none 0 0, .slice none 0 0, .slice none 0 0, .int .i64 a] 35)) :
  Bk w1 w.heap.size 35 zeroSt ∧ Bk w1 (w.heap.size + 1) 35 #[.int .u8 0, .string ⟨#[]⟩, .slice none 0 0, .slice none 0 0, .slice none 0 0, .slice none 0 0, .int .i64 a] ∧ Fr NoT w w1 := by
 subst hw
 exact ⟨(Bk.new _ _ _).alloc _, Bk.new_at _ _ _ (by simp), ((Fr.refl _ _).alloc _).alloc _⟩
theorem look_any {w W : World} {b : Nat} {l : List Tk} {k : Int} {tx : ByteArray} (hkk : k = keyK (hdT l).text) (htx : tx = txt (hdT l)) (htl : (hdT l).text.length ≤ 4096) (h : KwM W b 7 kwTab) :
  (Instr.lookup 241 (.map (some b)) (.string tx) true).run Tryz.prog W = .ok (.tuple #[(if k = 0 then zeroBeg else begV k (kwF k)), .bool (!(k == 0))]) W := by
 have h1 := h.look (t := (hdT l).text) (by unfold maxLen; omega)
 rw [kwTab_key, ← hkk] at h1
 rw [htx]
 unfold txt
 rw [h1]
 by_cases h0 : k = 0
 ·subst h0
  rfl
 ·have e : (k == 0) = false := by simpa using h0
  rw [if_neg h0, if_neg h0, e]
  rfl
theorem stmR_a {C : Pcx} {w w1 wk w9 : World} {l : List Tk} {d : Nat} {a : Int} {u0 u1 : Value} (hL : C.P < w.heap.size ∧ C.TB < w.heap.size ∧ C.W0.heap.size ≤ w.heap.size) (ha : in64 a) (h : PaAt C w l d)
  (hb1 : Bk w1 w.heap.size 35 zeroSt) (hb2 : Bk w1 (w.heap.size + 1) 35 #[.int .u8 0, .string ⟨#[]⟩, .slice none 0 0, .slice none 0 0, .slice none 0 0, .slice none 0 0, .int .i64 a]) (hz : w1.heap.size = w.heap.size + 2) (hf1 : Fr NoT w w1) (hfk : Fr NoT w1 wk)
  (h9 : w9 = wk.alloc (.cells #[u0, u1] 239)) :
  StmR C w w.heap.size (w.heap.size + 1) wk.heap.size l d ⟨0, noB, .nil, .nil, .nil, .nil, a⟩ u0 u1 w9 := by
 have hsk := hfk.size
 have hfa : Fr NoT wk w9 := by rw [h9]; exact (Fr.refl _ _).alloc _
 have hfw : Fr NoT w w9 := (hf1.trans hfk).trans hfa
 refine ⟨h.fr hfw id id fun _ _ => id, StAt.new (by unfold in8; omega) ha ((hb2.fr0 hfk).fr0 hfa), (hb2.fr0 hfk).fr0 hfa, ?_, (hb1.fr0 hfk).fr0 hfa, hfw⟩
 rw [h9]
 exact Bk.new _ _ _
theorem stmR_b {C : Pcx} {w w1 wa wk w9 : World} {l : List Tk} {d : Nat} {a : Int} {u0 u1 : Value} (hL : C.P < w.heap.size ∧ C.TB < w.heap.size ∧ C.W0.heap.size ≤ w.heap.size) (ha : in64 a) (h : PaAt C w l d)
  (hb1 : Bk w1 w.heap.size 35 zeroSt) (hb2 : Bk w1 (w.heap.size + 1) 35 #[.int .u8 0, .string ⟨#[]⟩, .slice none 0 0, .slice none 0 0, .slice none 0 0, .slice none 0 0, .int .i64 a]) (hz : w1.heap.size = w.heap.size + 2) (hf1 : Fr NoT w w1) {z0 z1 : Value} (hfa : Fr NoT w1 wa) (hba : Bk wa w1.heap.size 239 #[z0, z1]) (hfk : Fr NoT wa wk)
  (h9 : w9 = (wk.setCell ⟨w1.heap.size, 0, none⟩ u0).setCell ⟨w1.heap.size, 1, none⟩ u1) :
  StmR C w w.heap.size (w.heap.size + 1) w1.heap.size l d ⟨0, noB, .nil, .nil, .nil, .nil, a⟩ u0 u1 w9 := by
 have hsk := hfk.size
 have hfs : Fr (fun b => b = w1.heap.size) wk w9 := by rw [h9]; exact Fr.own (Fr.own (Fr.refl _ _) _ _) _ _
 have hfw : Fr NoT w w9 := by
  rw [h9]
  exact Fr.high (Fr.high ((hf1.trans hfa).trans hfk) (by omega) _ _) (by omega) _ _
 have hraw := ((hb2.fr0 hfa).fr0 hfk).fr hfs (fun e => by have e : w.heap.size + 1 = w1.heap.size := e; omega)
 refine ⟨h.fr hfw id id fun _ _ => id, StAt.new (by unfold in8; omega) ha hraw, hraw, ?_, (((hb1.fr0 hfa).fr0 hfk).fr hfs fun e => ?_), hfw⟩
 ·have := ((hba.fr0 hfk).set_ 0 u0).set_ 1 u1
  rw [h9]
  simpa using this
 ·have e : w.heap.size = w1.heap.size := e
  omega
theorem stmt_fin {C : Pcx} {w w12 w13 : World} {x : St} {p : Loc} {r : List Tk} {d : Nat} (hL : C.P < w.heap.size ∧ C.TB < w.heap.size ∧ C.W0.heap.size ≤ w.heap.size) (hs : StS w12 (fun b => w.heap.size + 2 ≤ b ∧ b < w12.heap.size ∧ b ≠ w.heap.size + 1) x p) (hp : PaAt C w12 r d) (hf : Fr (PT C (w.heap.size + 1)) w w12)
  (h13 : w13 = ((((((w12.setCell ⟨w.heap.size, 0, none⟩ (.int .u8 x.k)).setCell ⟨w.heap.size, 1, none⟩ (.string x.nm)).setCell ⟨w.heap.size, 2, none⟩ (.slice p.A x.args.len p.c)).setCell ⟨w.heap.size, 3, none⟩ (.slice p.B x.cond.len p.q)).setCell ⟨w.heap.size, 4, none⟩ (.slice p.D x.body.len p.e)).setCell ⟨w.heap.size, 5, none⟩ (.slice p.E x.els.len p.f)).setCell ⟨w.heap.size, 6, none⟩ (.int .i64 x.at_)) :
  EndV C d StVal (.ok x r) w (.returned (.agg #[.int .u8 x.k, .string x.nm, .slice p.A x.args.len p.c, .slice p.B x.cond.len p.q, .slice p.D x.body.len p.e, .slice p.E x.els.len p.f, .int .i64 x.at_])) w13 := by
 have hfr : Fr (fun b => b = w.heap.size) w12 w13 := by rw [h13]; exact Fr.own (Fr.own (Fr.own (Fr.own (Fr.own (Fr.own (Fr.own (Fr.refl _ _) _ _) _ _) _ _) _ _) _ _) _ _) _ _
 have hsz := hf.size
 refine ⟨_, rfl, ⟨p, rfl, hs.imp (hfr.same fun b hb => ⟨hb.2.1, fun e => ?_⟩) fun b hb => ⟨by have := hb.1; omega, by have := hb.2.1; have := hfr.size; omega⟩⟩, hp.fr hfr (fun e => ?_) (fun e => ?_) (fun i hi e => ?_), ?_⟩
 ·have e : b = w.heap.size := e
  have := hb.1
  omega
 ·have e : C.P = w.heap.size := e
  omega
 ·have e : C.TB = w.heap.size := e
  omega
 ·have e : i = w.heap.size := e
  omega
 ·refine ((hf.mono (T' := fun b => b = C.P ∨ w.heap.size ≤ b) fun i _ h => ?_).trans (hfr.mono fun i _ h => ?_)).mono fun i hi e => ?_
  ·rcases h with h | h
   ·exact .inl h
   ·exact .inr (by omega)
  ·have h : i = w.heap.size := h
   exact .inr (by omega)
  ·rcases e with e | e
   ·exact e
   ·omega
theorem stmt_bad {C : Pcx} {w w12 : World} {d : Nat} {c a : Int} (hf : Fr (PT C (w.heap.size + 1)) w w12) : EndV C d StVal (.err c a) w (wrongE c a) w12 :=
 ⟨rfl, hf.mono fun i hi e => by
  rcases e with e | e
  ·exact e
  ·omega⟩
set_option maxRecDepth 100000 in
set_option maxHeartbeats 1600000 in
theorem stmt_word (C : Pcx) (n : Nat) (hbk : BlkC C n) (l : List Tk) (d : Nat) (w : World) (k : Int) (hkk : k = keyK (hdT l).text) (hk0 : k ≠ 0) (hdn : d + n = 24) (hk : C.Ok) (h : PaAt C w l d) :
  Calls Tryz.prog 164 #[.pointer (some ⟨C.P, 0, none⟩)] w (EndV C d StVal (stmtOf (blockP n) n l) w) := by
 obtain ⟨R, hR⟩ : ∃ R, R = stmtOf (blockP n) n l := ⟨_, rfl⟩
 rw [← hR]
 have HR := Lib.hid hR
 have hL := h.lts
 obtain ⟨j, cap, m, hm0, hm1, hl, hmc, hcm, hb, p0, p1, f0, f1, t0, t1, t2, ltP, ltT⟩ := h.cells
 have hm2 : m ≤ 9223372036854775807 := by omega
 have hm3 : (0 : Int) < (m : Int) := by omega
 have htl : (hdT l).text.length ≤ 4096 := by
  have hd := drop_head hl h.ne
  exact hk.len _ (List.mem_of_getElem? hd.1)
 obtain ⟨a, ha⟩ : ∃ a : Int, a = ((hdT l).at_ : Int) := ⟨_, rfl⟩
 obtain ⟨tx, htx⟩ : ∃ tx, tx = txt (hdT l) := ⟨_, rfl⟩
 have h64 : in64 a := by rw [ha]; exact in64_at hk h
 rw [← ha] at t2
 rw [← htx] at t1
 have HA := Lib.hid ha
 obtain ⟨w1, hw1⟩ : ∃ w1, w1 = (w.alloc (.cells zeroSt 35)).alloc (.cells #[.int .u8 0, .string ⟨#[]⟩, .slice none 0 0, .slice none 0 0, .slice none 0 0, .slice none 0 0, .int .i64 a] 35) := ⟨_, rfl⟩
 obtain ⟨hb1, hb2, hf1⟩ := stmt_boxes w w1 a hw1
 have hz : w1.heap.size = w.heap.size + 2 := by rw [hw1]; simp
 have hlive : (hdT l).live := keyK_live (by rw [← hkk]; exact hk0)
 have HLV := Lib.hid hlive
 have e1 : (!(k == 0)) = true := by simpa using hk0
 have hlk : ∀ (W : World) (b : Nat), KwM W b 7 kwTab → (Instr.lookup 241 (.map (some b)) (.string tx) true).run Tryz.prog W = .ok (.tuple #[.agg #[.int .u8 k, .func (.func (kwF k)) #[] #[]], .bool true]) W := fun W b hW => by
  have := look_any (w := w) hkk htx htl hW
  rw [if_neg hk0, e1] at this
  exact this
 have p10 := (hf1.cell (p := ⟨C.P, 0, none⟩) ltP id).trans p0
 have t11 := (hf1.cell (p := ⟨C.TB, j * 3 + 1, none⟩) ltT id).trans t1
 have hP1 : C.P < w1.heap.size := by omega
 have hT1 : C.TB < w1.heap.size := by omega
 have HLK := Lib.hid hlk
 have HKK := Lib.hid hkk
 have HK0 := Lib.hid hk0
 have HDN := Lib.hid hdn
 have HRA := Lib.hid (fun (wk w9 : World) (u0 u1 : Value) (hfk : Fr NoT w1 wk) h9 => stmR_a (C := C) (u0 := u0) (u1 := u1) (w9 := w9) hL h64 h hb1 hb2 hz hf1 hfk h9)
 have HRB := Lib.hid (fun (wa wk w9 : World) (z0 z1 u0 u1 : Value) (hfa : Fr NoT w1 wa) hba (hfk : Fr NoT wa wk) h9 => stmR_b (C := C) (u0 := u0) (u1 := u1) (z0 := z0) (z1 := z1) (w9 := w9) hL h64 h hb1 hb2 hz hf1 hfa hba hfk h9)
 have HW1 := Lib.hid hw1
 have HZ := Lib.hid hz
 have HBK := Lib.hid hbk
 have HK := Lib.hid hk
 have HL := Lib.hid hL
 have HF1 := Lib.hid hf1
 clear hR hb hm0 hl ha htx hkk hk0 e1 hlk hw1 hb1 hb2 hz hf1 h hbk hk hL hlive htl h64
 go_enter Tryz.func164, Tryz.ntmps164
 go_wp2_with fail
 rw [show (w.alloc (.cells #[.int .u8 0, .string ⟨#[]⟩, .slice none 0 0, .slice none 0 0, .slice none 0 0, .slice none 0 0, .int .i64 0] 35)).alloc (.cells #[.int .u8 0, .string ⟨#[]⟩, .slice none 0 0, .slice none 0 0, .slice none 0 0, .slice none 0 0, .int .i64 a] 35) = w1 from HW1.out.symm]
 clear p0 t1 t2 p1 f0 f1 t0
 go_region_held2 (fun W' => W'.cell? ⟨C.P, 0, none⟩ = some (.slice (some ⟨C.TB, j * 3, none⟩) m cap) ∧ W'.cell? ⟨C.TB, j * 3 + 1, none⟩ = some (.string tx))
  (first
   |(refine ⟨?_, ?_⟩ <;> with_reducible assumption)
   |(refine ⟨(Fr.cell (T := fun b => b = gb) (w := wk) ?_ hPk hPg).trans hpk, (Fr.cell (T := fun b => b = gb) (w := wk) ?_ hTk hTg).trans htk⟩
     all_goals (subst hgb; repeat (first | exact Fr.refl _ _ | refine Fr.alloc ?_ _ | refine Fr.own ?_ _ _)))
   |(refine ⟨(Fr.cell (T := NoT) (w := w1) ?_ hP1 id).trans p10, (Fr.cell (T := NoT) (w := w1) ?_ hT1 id).trans t11⟩
     all_goals (repeat (first | exact Fr.refl _ _ | refine Fr.alloc ?_ _ | refine Fr.drew ?_))))
  (first
   |(go_at_call 182
     refine (keywords_any w1.drew).mono ?_
     rintro _ wk ⟨kb, rfl, hkb, hkm, hfk⟩
     have hl1 := HLK.out _ _ hkm
     have hl2 := HLK.out _ _ (hkm.kept (World.grownBy_alloc wk (.cells #[.int .u8 0, .nilFunc] 239) none) (by simp))
     have hfk1 : Fr NoT w1 wk := (Fr.drew (Fr.refl _ _)).trans hfk
     have hpk := (hfk1.cell (p := ⟨C.P, 0, none⟩) hP1 id).trans p10
     have htk := (hfk1.cell (p := ⟨C.TB, j * 3 + 1, none⟩) hT1 id).trans t11
     have hPk := Nat.lt_of_lt_of_le hP1 hfk1.size
     have hTk := Nat.lt_of_lt_of_le hT1 hfk1.size
     obtain ⟨gb, hgb⟩ : ∃ gb, gb = wk.heap.size := ⟨_, rfl⟩
     have hPg : ¬ C.P = gb := by omega
     have hTg : ¬ C.TB = gb := by omega
     have HE := Lib.hid (fun w9 h9 => HRA.out wk w9 (.int .u8 k) (.func (.func (kwF k)) #[] #[]) hfk1 h9)
     clear hkm hfk)
   |(go_at_call 182
     refine (keywords_any (w1.alloc (.cells #[.int .u8 0, .nilFunc] 239)).drew).mono ?_
     rintro _ wk ⟨kb, rfl, hkb, hkm, hfk⟩
     have hl1 := HLK.out _ _ hkm
     have hfa : Fr NoT w1 (w1.alloc (.cells #[.int .u8 0, .nilFunc] 239)).drew := Fr.drew ((Fr.refl _ _).alloc _)
     have hba : Bk (w1.alloc (.cells #[.int .u8 0, .nilFunc] 239)).drew w1.heap.size 239 #[.int .u8 0, .nilFunc] := Bk.new _ _ _
     have hfk1 : Fr NoT w1 wk := hfa.trans hfk
     have hpk := (hfk1.cell (p := ⟨C.P, 0, none⟩) hP1 id).trans p10
     have htk := (hfk1.cell (p := ⟨C.TB, j * 3 + 1, none⟩) hT1 id).trans t11
     have hPk := Nat.lt_of_lt_of_le hP1 hfk1.size
     have hTk := Nat.lt_of_lt_of_le hT1 hfk1.size
     obtain ⟨gb, hgb⟩ : ∃ gb, gb = w1.heap.size := ⟨_, rfl⟩
     have hPg : ¬ C.P = gb := by omega
     have hTg : ¬ C.TB = gb := by omega
     have hbk := hba.fr0 hfk
     have q0 := hbk.cell 0
     have q1 := hbk.cell 1
     have g0 := hbk.frozen 0
     have g1 := hbk.frozen 1
     have hgl := hbk.lt
     simp only [getsL] at q0 q1
     have HE := Lib.hid (fun w9 h9 => HRB.out _ wk w9 (.int .u8 0) .nilFunc (.int .u8 k) (.func (.func (kwF k)) #[] #[]) hfa hba hfk h9)
     clear hkm hfk hba hfa hbk))
 all_goals
  have hS := HE.out _ rfl
  have hps := pass_any C l d _ HK.out hS.pa HLV.out
  unfold pP PassP tkV at hps
  have HS := Lib.hid hS
  have HPS := Lib.hid hps
  have HG := Lib.hid hgb
  have hgs : w.heap.size + 2 ≤ gb := by rw [hgb]; have := hfk1.size; have := HZ.out; omega
  clear hl1 hpk htk hPk hTk hPg hTg hS hps HE hgb
  try clear hl2
  try clear q0 q1 g0 g1 hgl
  go_wp2_with fail
  refine HPS.out.mono ?_
  rintro e w10 ⟨rfl, hp, hf⟩
  have hL := HL.out
  have hbg := HS.out.beg.fr hf (fun e => by have e : _ = C.P := e; have := HG.out; omega)
  rw [← HG.out] at hbg ⊢
  have hst := HS.out.st.fr hf (by omega) (by omega)
  have hsl : w.heap.size + 1 < w10.heap.size := by
   obtain ⟨q, hq, _⟩ := hst
   exact hq.lt
  have hrs := HS.out.res.fr hf (fun e => by have e : w.heap.size = C.P := e; omega)
  have hfw := HS.out.fr.any.trans hf
  obtain ⟨w11, hw11⟩ : ∃ w11, w11 = w10.setCell ⟨w.heap.size + 1, 0, none⟩ (.int .u8 k) := ⟨_, rfl⟩
  have hst1 := hst.kind (k := k) (by rcases keyK_cases (hdT l).text with h | h | h | h | h | h | h | h <;> unfold in8 <;> have := HKK.out <;> omega)
  have hfs : Fr (fun b => b = w.heap.size + 1) w10 w11 := by rw [hw11]; exact Fr.own (Fr.refl _ _) _ _
  rw [← hw11] at hst1
  have hb1 := (hbg.fr hfs (fun e => by have e : gb = w.heap.size + 1 := e; omega)).cell 1
  have hb0 := hbg.cell 0
  have hp1 : PaAt C w11 l.tail d := hp.fr hfs (fun e => by have e : C.P = w.heap.size + 1 := e; omega) (fun e => by have e : C.TB = w.heap.size + 1 := e; omega) (fun i hi e => by have e : i = w.heap.size + 1 := e; omega)
  have hwd := word_any C n HBK.out (w.heap.size + 1) (w.heap.size + 2) l d w11 k a HKK.out HK0.out HA.out HDN.out HK.out hp1 hst1 (by omega) (by omega) (by omega) (by omega) (by have := hfs.size; omega)
  obtain ⟨q, hq, _⟩ := hst
  have s0 := hq.cell 0
  have z0 := hq.frozen 0
  simp only [stC, List.getElem?_toArray, List.getElem?_cons_succ, List.getElem?_cons_zero] at s0 hb0 hb1
  rw [hw11] at hwd hb1
  have HWD := Lib.hid hwd
  have HRS := Lib.hid (hrs.fr hfs (fun e => by have e : w.heap.size = w.heap.size + 1 := e; omega))
  have HFW := Lib.hid ((PT.l hfw (rb := w.heap.size + 1)).trans (hfs.mono fun i _ h => .inr h))
  have HW11 := Lib.hid hw11
  have hent := kw_enters k
  unfold Enters at hent
  clear hp hf hbg hrs hfw hst1 hp1 hwd hw11 hfs hL hq
  go_wp2_with fail
  refine HWD.out.mono ?_
  intro e w12 hE
  have hlL := HL.out
  unfold MetP at hE
  cases hx : stmtOf (blockP n) n l with
  | err c a =>
   rw [hx] at hE
   obtain ⟨rfl, hf⟩ := hE
   rw [← HW11.out] at hf
   have HFF := Lib.hid (HFW.out.trans hf)
   unfold wrongE
   clear hf
   go_wp2_with fail
   rw [HR.out, hx]
   exact ⟨rfl, stmt_bad HFF.out⟩
  | ok x r =>
   rw [hx] at hE
   obtain ⟨rfl, ⟨p, hb, hs⟩, hp, hf⟩ := hE
   rw [← HW11.out] at hf
   have hrb := HRS.out.fr hf (fun e => by rcases e with e | e <;> omega)
   have b0 := hb.cell 0
   have b1 := hb.cell 1
   have b2 := hb.cell 2
   have b3 := hb.cell 3
   have b4 := hb.cell 4
   have b5 := hb.cell 5
   have b6 := hb.cell 6
   have r0 := hrb.cell 0
   have r1 := hrb.cell 1
   have r2 := hrb.cell 2
   have r3 := hrb.cell 3
   have r4 := hrb.cell 4
   have r5 := hrb.cell 5
   have r6 := hrb.cell 6
   have y0 := hrb.frozen 0
   have y1 := hrb.frozen 1
   have y2 := hrb.frozen 2
   have y3 := hrb.frozen 3
   have y4 := hrb.frozen 4
   have y5 := hrb.frozen 5
   have y6 := hrb.frozen 6
   simp only [stC, List.getElem?_toArray, List.getElem?_cons_succ, List.getElem?_cons_zero] at b0 b1 b2 b3 b4 b5 b6 r0 r1 r2 r3 r4 r5 r6
   have hlt := hrb.lt
   have HSS := Lib.hid hs
   have HPP := Lib.hid hp
   have HFF := Lib.hid (HFW.out.trans hf)
   have HX := Lib.hid hx
   clear hb hs hp hf hx hrb hlL
   go_wp2_with fail
   refine bodyPost_ret (v := .agg #[.int .u8 x.k, .string x.nm, .slice p.A x.args.len p.c, .slice p.B x.cond.len p.q, .slice p.D x.body.len p.e, .slice p.E x.els.len p.f, .int .i64 x.at_]) (by simp [results, Tryz.results164, go_sem, r0, r1, r2, r3, r4, r5, r6, hlt]) rfl ?_
   rw [HR.out, HX.out]
   exact stmt_fin HL.out HSS.out HPP.out HFF.out rfl

def StRow (w : World) (S : Nat → Prop) : List St → List Value → Prop
 | [], cs => cs = []
 | x :: xs, cs => ∃ p cs', cs = stC x p ++ cs' ∧ StS w S x p ∧ StRow w S xs cs'
theorem StRow.imp {w w' : World} {S S' : Nat → Prop} (hf : SameS S w w') (hs : ∀ b, S b → S' b) : ∀ {xs : List St} {cs : List Value}, StRow w S xs cs → StRow w' S' xs cs
 | [], _, h => h
 | x :: xs, cs, h => by
  obtain ⟨p, cs', e, h1, h5⟩ := h
  exact ⟨p, cs', e, h1.imp hf hs, StRow.imp hf hs h5⟩
theorem StRow.snoc {w : World} {S : Nat → Prop} {y : St} {p : Loc} (hy : StS w S y p) : ∀ {xs : List St} {cs : List Value}, StRow w S xs cs → StRow w S (xs ++ [y]) (cs ++ stC y p)
 | [], cs, h => by
  have h : cs = [] := h
  subst h
  exact ⟨p, [], by simp, hy, rfl⟩
 | x :: xs, cs, h => by
  obtain ⟨q, cs', e, h1, h5⟩ := h
  exact ⟨q, cs' ++ stC y p, by rw [e, List.append_assoc], h1, StRow.snoc hy h5⟩
theorem StRow.len {w : World} {S : Nat → Prop} : ∀ {xs : List St} {cs : List Value}, StRow w S xs cs → cs.length = xs.length * 7
 | [], cs, h => by
  have h : cs = [] := h
  subst h; rfl
 | x :: xs, cs, h => by
  obtain ⟨q, cs', e, h1, h5⟩ := h
  rw [e, List.length_append, StRow.len h5]
  simp [stC]; omega
theorem StRow.stR {w : World} {S : Nat → Prop} {g : Nat} (hg : S g) : ∀ {xs : List St} {cs : List Value} {o : Nat}, StRow w S xs cs → (∀ j u, cs[j]? = some u → w.cell? ⟨g, o + j, none⟩ = some u) → StR w S False (stsOf xs) g o
 | [], _, _, _, _ => trivial
 | x :: xs, cs, o, h, hc => by
  obtain ⟨p, cs', e, h1, h5⟩ := h
  subst e
  refine ⟨⟨hg, fun h => absurd h id, h1.k, h1.at_, hc 0 _ rfl, hc 1 _ rfl, hc 6 _ rfl⟩, ⟨_, _, hc 2 _ rfl, h1.args⟩, ⟨_, _, hc 3 _ rfl, h1.cond⟩, ⟨_, _, hc 4 _ rfl, h1.body⟩, ⟨_, _, hc 5 _ rfl, h1.els⟩, ?_⟩
  refine StRow.stR hg h5 fun j u hj => ?_
  have := hc (7 + j) u (by rw [List.getElem?_append_right (by simp [stC])]; simpa [stC] using hj)
  rw [Nat.add_assoc]
  exact this
theorem blk_end {L : Nat} {w : World} {v : Value} {acc : List St} {cs : List Value} {S : Nat → Prop} (hr : w.ownsRow L 35 7 v acc.length cs) (hx : StRow w S acc cs) (hs : ∀ b, S b → L ≤ b ∧ b < w.heap.size) (hf : acc.length ≤ 5001) : StlV w L v acc := by
 rcases hr.2 with ⟨rfl, h0⟩ | ⟨g, cap, cur, rfl, hb, hg, hn, hc, hcs, ht⟩
 ·exact ⟨none, 0, by rw [stsOf_len, h0], by rw [stsOf_len, h0]; exact ⟨Nat.le_refl _, ⟨by decide, by omega⟩, fun h => absurd h (Nat.lt_irrefl 0)⟩⟩
 ·have hl : g < w.heap.size := (Array.getElem?_eq_some_iff.1 hg).1
  have hcc : cap ≤ 9223372036854775807 := by unfold maxLen at hc; omega
  suffices hx2 : StR w (New L w) False (stsOf acc) g 0 by
   exact ⟨some ⟨g, 0, none⟩, cap, by rw [stsOf_len], by rw [stsOf_len]; exact ⟨hn, ⟨hcc, by omega⟩, fun _ => ⟨g, 0, rfl, hx2⟩⟩⟩
  refine StRow.stR ⟨hb, hl⟩ (StRow.imp (SameS.refl _ _) hs hx) fun j u hj => ?_
  have := hr.cells (g := g) rfl j u hj
  have hadd : (⟨g, 0, none⟩ : Addr).add j = ⟨g, 0 + j, none⟩ := by
   rw [Nat.zero_add]; unfold Addr.add; split <;> simp_all
  rw [hadd] at this
  exact this
theorem row_put {w : World} {base : Nat} {e : TypeId} {size g n cap : Nat} {xs : List Value} (h : w.ownsRow base e size (.slice (some ⟨g, 0, none⟩) n cap) n xs) (j : Nat) (u : Value) : (w.setCell ⟨g, j, none⟩ u).ownsRow base e size (.slice (some ⟨g, 0, none⟩) n cap) n (xs.set j u) := (h.stored j u).1
structure BlkX (C : Pcx) (w : World) (d : Nat) (R : PR (List St)) (one : List Tk → PR St) (lb pb : Nat) (v : Value) (wr : World) (acc : List St) (cs : List Value) (l : List Tk) : Prop where
 eq : ∃ f, R = stmtsF one f acc l ∧ l.length ≤ f
 lcell : Bk wr lb 25 #[v]
 row : wr.ownsRow w.heap.size 35 7 v acc.length cs
 rows : StRow wr (NewR w.heap.size v wr) acc cs
 few : acc.length + l.length ≤ 5000
 pa : PaAt C wr l d
 fr : Fr (PT C lb) w wr
theorem BlkX.step {C : Pcx} {w wr w7 w9 : World} {d : Nat} {R : PR (List St)} {one : List Tk → PR St} {lb pb f : Nat} {v : Value} {acc : List St} {cs : List Value} {r r2 : List Tk} {x : St} {p : Loc} {g cap : Nat}
  (hL : C.P < w.heap.size ∧ C.TB < w.heap.size ∧ C.W0.heap.size ≤ w.heap.size) (hlb : lb < w.heap.size) (hlP : lb ≠ C.P) (hlT : lb ≠ C.TB) (hl0 : C.W0.heap.size ≤ lb)
  (hx : BlkX C w d R one lb pb v wr acc cs r) (hR : R = stmtsF one f (acc ++ [x]) r2) (hrf : r2.length ≤ f) (hr2 : r2.length < r.length)
  (hv : StS w7 (New wr.heap.size w7) x p) (hp : PaAt C w7 r2 d) (hf : Fr C.T wr w7) (W : World) (hwa : Fr NoT w7 W)
  (hown : w9.ownsRow w.heap.size 35 7 (.slice (some ⟨g, 0, none⟩) (acc.length + 1) cap) (acc.length + 1) (cs ++ zeroSt.toList))
  (hg : W.grownBy w9 v.ownBlock) (hsp : v.ownBlock = some g ∨ g = W.heap.size) (w10 : World)
  (hw10 : w10 = (((((((w9.setCell ⟨g, acc.length * 7, none⟩ (.int .u8 x.k)).setCell ⟨g, acc.length * 7 + 1, none⟩ (.string x.nm)).setCell ⟨g, acc.length * 7 + 2, none⟩ (.slice p.A x.args.len p.c)).setCell ⟨g, acc.length * 7 + 3, none⟩ (.slice p.B x.cond.len p.q)).setCell ⟨g, acc.length * 7 + 4, none⟩ (.slice p.D x.body.len p.e)).setCell ⟨g, acc.length * 7 + 5, none⟩ (.slice p.E x.els.len p.f)).setCell ⟨g, acc.length * 7 + 6, none⟩ (.int .i64 x.at_)).setCell ⟨lb, 0, none⟩ (.slice (some ⟨g, 0, none⟩) (acc.length + 1) cap)) :
  BlkX C w d R one lb pb (.slice (some ⟨g, 0, none⟩) (acc.length + 1) cap) w10 (acc ++ [x]) (cs ++ stC x p) r2 := by
 have hlt := hx.row.lt
 have hsF := hx.fr.size
 have hsf := hf.size
 have hsw := hwa.size
 have hsg := hg.size
 have hcl := hx.rows.len
 have hgl := hown.lt g rfl
 have hglb : g ≠ lb := by omega
 have hgP : g ≠ C.P := by omega
 obtain ⟨w8, hw8⟩ : ∃ w8, w8 = ((((((w9.setCell ⟨g, acc.length * 7, none⟩ (.int .u8 x.k)).setCell ⟨g, acc.length * 7 + 1, none⟩ (.string x.nm)).setCell ⟨g, acc.length * 7 + 2, none⟩ (.slice p.A x.args.len p.c)).setCell ⟨g, acc.length * 7 + 3, none⟩ (.slice p.B x.cond.len p.q)).setCell ⟨g, acc.length * 7 + 4, none⟩ (.slice p.D x.body.len p.e)).setCell ⟨g, acc.length * 7 + 5, none⟩ (.slice p.E x.els.len p.f)).setCell ⟨g, acc.length * 7 + 6, none⟩ (.int .i64 x.at_) := ⟨_, rfl⟩
 rw [← hw8] at hw10
 have hz8 : w8.heap.size = w9.heap.size := by rw [hw8]; simp
 have hz10 : w10.heap.size = w9.heap.size := by rw [hw10]; simp [hz8]
 have hf98 : Fr (fun b => b = g) w9 w8 := by rw [hw8]; exact Fr.own (Fr.own (Fr.own (Fr.own (Fr.own (Fr.own (Fr.own (Fr.refl _ _) _ _) _ _) _ _) _ _) _ _) _ _) _ _
 have hf80 : Fr (fun b => b = lb) w8 w10 := by rw [hw10]; exact Fr.own (Fr.refl _ _) _ _
 have hrow8 : w8.ownsRow w.heap.size 35 7 (.slice (some ⟨g, 0, none⟩) (acc.length + 1) cap) (acc.length + 1) (cs ++ stC x p) := by
  have h1 := row_put (row_put (row_put (row_put (row_put (row_put (row_put hown (acc.length * 7) (.int .u8 x.k)) (acc.length * 7 + 1) (.string x.nm)) (acc.length * 7 + 2) (.slice p.A x.args.len p.c)) (acc.length * 7 + 3) (.slice p.B x.cond.len p.q)) (acc.length * 7 + 4) (.slice p.D x.body.len p.e)) (acc.length * 7 + 5) (.slice p.E x.els.len p.f)) (acc.length * 7 + 6) (.int .i64 x.at_)
  rw [← hw8] at h1
  have e : (((((((cs ++ zeroSt.toList).set (acc.length * 7) (.int .u8 x.k)).set (acc.length * 7 + 1) (.string x.nm)).set (acc.length * 7 + 2) (.slice p.A x.args.len p.c)).set (acc.length * 7 + 3) (.slice p.B x.cond.len p.q)).set (acc.length * 7 + 4) (.slice p.D x.body.len p.e)).set (acc.length * 7 + 5) (.slice p.E x.els.len p.f)).set (acc.length * 7 + 6) (.int .i64 x.at_) = cs ++ stC x p := by
   rw [← hcl]
   simp [List.set_append, zeroSt, stC]
  rw [e] at h1
  exact h1
 have hW9 : Fr (fun b => v.ownBlock = some b) W w9 := Fr.grown hg fun g e _ => e
 have h79 : Fr (fun b => v.ownBlock = some b) w7 w9 := hwa.any.trans hW9
 have h7x : Fr (fun b => v.ownBlock = some b ∨ b = g ∨ b = lb) w7 w10 := ((h79.mono fun i _ h => Or.inl h).trans (hf98.mono fun i _ h => Or.inr (Or.inl h))).trans (hf80.mono fun i _ h => Or.inr (Or.inr h))
 have hrx : Fr (fun b => b = C.P ∨ v.ownBlock = some b ∨ b = g ∨ b = lb) wr w10 := (hf.mono fun i _ h => Or.inl h).trans (h7x.mono fun i _ h => Or.inr h)
 have hgn : ∀ b, b < w7.heap.size → v.ownBlock ≠ some b → b ≠ g := fun b hb hn e => by
  subst e
  rcases hsp with h | h
  ·exact hn h
  ·omega
 have hvl : v.ownBlock ≠ some lb := fun e => by have := (hlt _ e).1; omega
 have hvP : v.ownBlock ≠ some C.P := fun e => by have := (hlt _ e).1; omega
 have hvT : v.ownBlock ≠ some C.TB := fun e => by have := (hlt _ e).1; omega
 refine ⟨⟨f, hR, hrf⟩, ?_, ?_, ?_, ?_, ?_, ?_⟩
 ·have h1 : Bk w8 lb 25 #[v] := ((hx.lcell.fr hf (fun e => hlP e)).fr h79 hvl).fr hf98 fun e => hglb (by have e : lb = g := e; exact e.symm)
  rw [hw10]
  simpa using h1.set_ 0 (.slice (some ⟨g, 0, none⟩) (acc.length + 1) cap)
 ·rw [hw10]
  have := ownsRow_setCell_below hrow8 (a := ⟨lb, 0, none⟩) hlb (.slice (some ⟨g, 0, none⟩) (acc.length + 1) cap)
  simpa using this
 ·refine StRow.snoc (hv.imp (h7x.same fun b hb => ⟨hb.2, fun e => ?_⟩) fun b hb => ⟨by have := hb.1; omega, by have := hb.2; omega, fun e => ?_⟩) (StRow.imp (hrx.same fun b hb => ⟨hb.2.1, fun e => ?_⟩) (fun b hb => ⟨hb.1, by have := hb.2.1; omega, fun e => ?_⟩) hx.rows)
  ·have h1 := hb.1
   have h2 := hb.2
   rcases e with e | e | e
   ·have := (hlt _ e).2; omega
   ·exact hgn b h2 (fun e => by have := (hlt _ e).2; omega) e
   ·omega
  ·have h1 := hb.1
   have h2 := hb.2.1
   have h3 := hb.2.2
   rcases e with e | e | e | e
   ·omega
   ·exact h3 e
   ·exact hgn b (by omega) h3 e
   ·omega
  ·have h1 := hb.1
   have h2 := hb.2
   have e : g = b := by simpa [Value.ownBlock] using e
   exact hgn b h2 (fun e => by have := (hlt _ e).2; omega) e.symm
  ·have h2 := hb.2.1
   have e : g = b := by simpa [Value.ownBlock] using e
   exact hgn b (by omega) hb.2.2 e.symm
 ·have := hx.few
  rw [List.length_append, List.length_cons, List.length_nil]
  omega
 ·refine hp.fr h7x (fun e => ?_) (fun e => ?_) (fun i hi e => ?_)
  ·rcases e with e | e | e
   ·exact hvP e
   ·exact hgP e.symm
   ·exact hlP e.symm
  ·rcases e with e | e | e
   ·exact hvT e
   ·omega
   ·exact hlT e.symm
  ·rcases e with e | e | e
   ·have := (hlt _ e).1; omega
   ·omega
   ·omega
 ·refine ((hx.fr.mono (T' := fun b => b = C.P ∨ v.ownBlock = some b ∨ b = g ∨ b = lb) fun i _ h => ?_).trans hrx).mono fun i hi e => ?_
  ·rcases h with h | h
   ·exact .inl h
   ·exact .inr (.inr (.inr h))
  ·rcases e with e | e | e | e
   ·exact .inl e
   ·have := (hlt _ e).1; omega
   ·omega
   ·exact .inr e

def setE (n : Nat) (k : Int) (nm : ByteArray) (a : Int) (acc : List Ex) (r : List Tk) : PR St := (takeP [61] r).then fun _ r => (exprP n r).then fun e r => endS ⟨k, nm, exsOf (acc ++ [e]), .nil, .nil, .nil, a⟩ r
def setO (n : Nat) (nm : ByteArray) (a : Int) (r : List Tk) : PR St := if mayB [91] r then (indexP n r).then fun i r => setE n 3 nm a [i] r else setE n 2 nm a [] r
theorem stmtOf_set {blk : List Tk → PR (List St)} {n : Nat} {l : List Tk} (h : keyK (hdT l).text = 0) : stmtOf blk n l = (nameP l).then fun x r => setO n x.nm ((hdT l).at_ : Int) r := by
 unfold stmtOf
 simp only [h]
 rw [if_neg (by decide), if_neg (by decide), if_neg (by decide), if_neg (by decide), if_neg (by decide), if_neg (by decide)]
 rfl
structure SetX (C : Pcx) (w : World) (d : Nat) (k : Int) (nm : ByteArray) (a : Int) (v : Value) (acc : List Ex) (cs : List Value) (r : List Tk) (W : World) : Prop where
 pa : PaAt C W r d
 st : Bk W (w.heap.size + 1) 35 #[.int .u8 k, .string nm, v, .slice none 0 0, .slice none 0 0, .slice none 0 0, .int .i64 a]
 res : Bk W w.heap.size 35 zeroSt
 row : W.ownsRow (w.heap.size + 2) 37 5 v acc.length cs
 rows : ExRow W (NewR (w.heap.size + 2) v W) acc cs
 fr : Fr (PT C (w.heap.size + 1)) w W
 few : acc.length ≤ 1
theorem SetX.next {C : Pcx} {w W W' : World} {d : Nat} {k a : Int} {nm : ByteArray} {v : Value} {acc : List Ex} {cs : List Value} {r r' : List Tk} (hL : C.P < w.heap.size ∧ C.TB < w.heap.size ∧ C.W0.heap.size ≤ w.heap.size) (h : SetX C w d k nm a v acc cs r W) (hf : Fr C.T W W') (hp : PaAt C W' r' d) : SetX C w d k nm a v acc cs r' W' :=
 ⟨hp, h.st.fr hf fun e => by have e : w.heap.size + 1 = C.P := e; omega, h.res.fr hf fun e => by have e : w.heap.size = C.P := e; omega, row_keep h.row hf (by omega),
  h.rows.imp (hf.same fun b hb => ⟨hb.2.1, fun e => by have e : b = C.P := e; have := hb.1; omega⟩) fun b hb => ⟨hb.1, Nat.lt_of_lt_of_le hb.2.1 hf.size, hb.2.2⟩, h.fr.trans (PT.l hf), h.few⟩
theorem SetX.alloc {C : Pcx} {w W : World} {d : Nat} {k a : Int} {nm : ByteArray} {v : Value} {acc : List Ex} {cs : List Value} {r : List Tk} (hL : C.P < w.heap.size ∧ C.TB < w.heap.size ∧ C.W0.heap.size ≤ w.heap.size) (h : SetX C w d k nm a v acc cs r W) (o : Obj) : SetX C w d k nm a v acc cs r (W.alloc o) :=
 h.next hL ((Fr.refl _ _).alloc _) (h.pa.alloc o)
theorem SetX.start {C : Pcx} {w w10 w11 : World} {d : Nat} {a : Int} {nm : ByteArray} {r : List Tk} (hL : C.P < w.heap.size ∧ C.TB < w.heap.size ∧ C.W0.heap.size ≤ w.heap.size)
  (hb : Bk w10 (w.heap.size + 1) 35 #[.int .u8 0, .string ⟨#[]⟩, .slice none 0 0, .slice none 0 0, .slice none 0 0, .slice none 0 0, .int .i64 a]) (hr : Bk w10 w.heap.size 35 zeroSt) (hp : PaAt C w10 r d) (hf : Fr C.T w w10)
  (h11 : w11 = (w10.setCell ⟨w.heap.size + 1, 0, none⟩ (.int .u8 2)).setCell ⟨w.heap.size + 1, 1, none⟩ (.string nm)) : SetX C w d 2 nm a (.slice none 0 0) [] [] r w11 := by
 have hfs : Fr (fun b => b = w.heap.size + 1) w10 w11 := by rw [h11]; exact Fr.own (Fr.own (Fr.refl _ _) _ _) _ _
 refine ⟨hp.fr hfs (fun e => by have e : C.P = w.heap.size + 1 := e; omega) (fun e => by have e : C.TB = w.heap.size + 1 := e; omega) (fun i hi e => by have e : i = w.heap.size + 1 := e; omega), ?_, hr.fr hfs (fun e => by have e : w.heap.size = w.heap.size + 1 := e; omega), World.ownsRow_nil _ _ _ _, rfl, (PT.l hf).trans (hfs.mono fun i _ h => .inr h), Nat.zero_le _⟩
 have := (hb.set_ 0 (.int .u8 2)).set_ 1 (.string nm)
 rw [h11]
 simpa using this
theorem ownsRow_one {w : World} {base g : Nat} {e : TypeId} {cs : List Value} {size : Nat} (hb : Bk w g e cs.toArray) (hg : base ≤ g) (hs : cs.length = 1 * size) : w.ownsRow base e size (.slice (some ⟨g, 0, none⟩) 1 1) 1 cs :=
 ⟨hs, .inr ⟨g, 1, cs.toArray, rfl, hg, hb, Nat.le_refl _, by decide, by simpa using hs, by rw [← hs]; simp⟩⟩
theorem SetX.index {C : Pcx} {w W w2 w3 : World} {d : Nat} {a : Int} {nm : ByteArray} {r r' : List Tk} {i : Ex} {A : Option Addr} {c : Nat} (hL : C.P < w.heap.size ∧ C.TB < w.heap.size ∧ C.W0.heap.size ≤ w.heap.size) (h : SetX C w d 2 nm a (.slice none 0 0) [] [] r W)
  (hf : Fr C.T W w2) (hp : PaAt C w2 r' d) (hv : ExV w2 W.heap.size (exV i.k i.nm i.n A i.args.len c i.at_) i)
  (h3 : w3 = ((w2.setCell ⟨w.heap.size + 1, 0, none⟩ (.int .u8 3)).setCell ⟨w.heap.size + 1, 2, none⟩ (.slice (some ⟨w2.heap.size, 0, none⟩) 1 1)).alloc (.cells (exC i A c).toArray 37)) :
  SetX C w d 3 nm a (.slice (some ⟨w2.heap.size, 0, none⟩) 1 1) [i] (exC i A c) r' w3 := by
 have hlt := h.st.lt
 have hsf := hf.size
 have h1 := h.next hL hf hp
 have hn : Bk w3 w2.heap.size 37 (exC i A c).toArray := by rw [h3]; exact Bk.new_at _ _ _ (by simp)
 have hfs : Fr (fun b => b = w.heap.size + 1) w2 w3 := by rw [h3]; exact (Fr.own (Fr.own (Fr.refl _ _) _ _) _ _).alloc _
 obtain ⟨x1, x2, x3, Ax, cx, ex, hsx⟩ := hv
 simp only [exV, Value.agg.injEq, Array.mk.injEq, List.cons.injEq, Value.slice.injEq, true_and, and_true] at ex
 obtain ⟨rfl, rfl⟩ := ex
 have hz3 : w3.heap.size = w2.heap.size + 1 := by rw [h3]; simp
 refine ⟨h1.pa.fr hfs (fun e => by have e : C.P = w.heap.size + 1 := e; omega) (fun e => by have e : C.TB = w.heap.size + 1 := e; omega) (fun i hi e => by have e : i = w.heap.size + 1 := e; omega), ?_, h1.res.fr hfs (fun e => by have e : w.heap.size = w.heap.size + 1 := e; omega),
  ownsRow_one hn (by omega) rfl, ⟨A, c, [], by simp, x1, x2, x3, ?_, rfl⟩, h1.fr.trans (hfs.mono fun i _ h => .inr h), Nat.le_refl _⟩
 ·have := ((h1.st.set_ 0 (.int .u8 3)).set_ 2 (.slice (some ⟨w2.heap.size, 0, none⟩) 1 1)).alloc (.cells (exC i A c).toArray 37)
  rw [h3]
  simpa using this
 ·have hfa := hfs
  refine hsx.imp fun _ _ h => ExR.more (fun b hb => ?_) (ExR.keep (hfa.same fun b hb => ⟨hb.2, fun e => ?_⟩) h)
  ·have h1 := hb.1
   have h2 := hb.2
   exact ⟨by omega, by omega, fun e => by have e : w2.heap.size = b := (by simpa [Value.ownBlock] using e); omega⟩
  ·have e : b = w.heap.size + 1 := e
   have := hb.1
   omega
theorem at_value {P : Program} {ops : Array Oper} {o : Oper} {a : Act} {w : World} {K : Act → World → Prop} {Q : Exit → Act → World → Prop} {E : Prop} (f : Operand) (xs : Array Operand) (ts : Array TypeId) (h : o.op = .call { callee := .value f, args := xs, argTypes := ts })
  (g : if Region.wanted o (yielded ops a.tmps) = true then Oper.wp P o a w K Q else E) : if Region.wanted o (yielded ops a.tmps) = true then Oper.wp P o a w K Q else E := g
theorem Bk.news {w : World} {g : Nat} {t : TypeId} {cs : Array Value} (h : Bk w g t cs) : ∀ j u, cs.toList[j]? = some u → w.cell? ((⟨g, 0, none⟩ : Addr).add j) = some u := World.news_of_block (fr := (0, 0)) (t := t) h
def zeroEx : Array Value := #[.int .u8 0, .string ⟨#[]⟩, .int .i64 0, .slice none 0 0, .int .i64 0]
theorem row_zero5 {w : World} {base : Nat} {e : TypeId} {g cap n : Nat} {cs : List Value} (h : w.ownsRow base e 5 (.slice (some ⟨g, 0, none⟩) (n + 1) cap) (n + 1) (cs ++ zeroEx.toList)) (hl : cs.length = n * 5) :
  w.cell? ⟨g, n * 5, none⟩ = some (.int .u8 0) ∧ w.cell? ⟨g, n * 5 + 1, none⟩ = some (.string ⟨#[]⟩) ∧ w.cell? ⟨g, n * 5 + 2, none⟩ = some (.int .i64 0) ∧ w.cell? ⟨g, n * 5 + 3, none⟩ = some (.slice none 0 0) ∧ w.cell? ⟨g, n * 5 + 4, none⟩ = some (.int .i64 0) ∧ ∀ j, w.frozen? ⟨g, j, none⟩ = false := by
 have key : ∀ j, j < 5 → w.cell? ⟨g, n * 5 + j, none⟩ = zeroEx.toList[j]? := fun j hj => by
  rw [h.cellAt (n * 5 + j) (by omega), List.getElem?_append_right (by omega), hl, Nat.add_sub_cancel_left]
 exact ⟨key 0 (by omega), key 1 (by omega), key 2 (by omega), key 3 (by omega), key 4 (by omega), fun j => h.frozenAt j⟩
structure SetY (C : Pcx) (w : World) (d : Nat) (x : St) (p : Loc) (r : List Tk) (W : World) : Prop where
 pa : PaAt C W r d
 st : Bk W (w.heap.size + 1) 35 (stC x p).toArray
 res : Bk W w.heap.size 35 zeroSt
 hs : StS W (fun b => w.heap.size + 2 ≤ b ∧ b < W.heap.size ∧ b ≠ w.heap.size + 1) x p
 fr : Fr (PT C (w.heap.size + 1)) w W
theorem SetY.next {C : Pcx} {w W W' : World} {d : Nat} {x : St} {p : Loc} {r r' : List Tk} (hL : C.P < w.heap.size ∧ C.TB < w.heap.size ∧ C.W0.heap.size ≤ w.heap.size) (h : SetY C w d x p r W) (hf : Fr C.T W W') (hp : PaAt C W' r' d) : SetY C w d x p r' W' :=
 ⟨hp, h.st.fr hf fun e => by have e : w.heap.size + 1 = C.P := e; omega, h.res.fr hf fun e => by have e : w.heap.size = C.P := e; omega,
  h.hs.imp (hf.same fun b hb => ⟨hb.2.1, fun e => by have e : b = C.P := e; have := hb.1; omega⟩) fun b hb => ⟨hb.1, Nat.lt_of_lt_of_le hb.2.1 hf.size, hb.2.2⟩, h.fr.trans (PT.l hf)⟩
theorem SetX.step {C : Pcx} {w wr w7 w9 : World} {d : Nat} {k a : Int} {nm : ByteArray} {v : Value} {acc : List Ex} {cs : List Value} {r r2 : List Tk} {x : Ex} {A : Option Addr} {c g cap : Nat}
  (hL : C.P < w.heap.size ∧ C.TB < w.heap.size ∧ C.W0.heap.size ≤ w.heap.size) (hk8 : in8 k) (ha : in64 a)
  (hx : SetX C w d k nm a v acc cs r wr) (hv : ExV w7 wr.heap.size (exV x.k x.nm x.n A x.args.len c x.at_) x) (hp : PaAt C w7 r2 d) (hf : Fr C.T wr w7) (W : World) (hwa : Fr NoT w7 W)
  (hown : w9.ownsRow (w.heap.size + 2) 37 5 (.slice (some ⟨g, 0, none⟩) (acc.length + 1) cap) (acc.length + 1) (cs ++ zeroEx.toList))
  (hg : W.grownBy w9 v.ownBlock) (hsp : v.ownBlock = some g ∨ g = W.heap.size) (w10 : World)
  (hw10 : w10 = (((((w9.setCell ⟨g, acc.length * 5, none⟩ (.int .u8 x.k)).setCell ⟨g, acc.length * 5 + 1, none⟩ (.string x.nm)).setCell ⟨g, acc.length * 5 + 2, none⟩ (.int .i64 x.n)).setCell ⟨g, acc.length * 5 + 3, none⟩ (.slice A x.args.len c)).setCell ⟨g, acc.length * 5 + 4, none⟩ (.int .i64 x.at_)).setCell ⟨w.heap.size + 1, 2, none⟩ (.slice (some ⟨g, 0, none⟩) (acc.length + 1) cap)) :
  SetY C w d ⟨k, nm, exsOf (acc ++ [x]), .nil, .nil, .nil, a⟩ ⟨some ⟨g, 0, none⟩, cap, none, 0, none, 0, none, 0⟩ r2 w10 := by
 have hlt := hx.row.lt
 have hsF := hx.fr.size
 have hsf := hf.size
 have hsw := hwa.size
 have hsg := hg.size
 have hcl : cs.length = acc.length * 5 := hx.row.1
 have hgl := hown.lt g rfl
 have hst := hx.st.lt
 obtain ⟨x1, x2, x3, Ax, cx, ex, hsx⟩ := hv
 simp only [exV, Value.agg.injEq, Array.mk.injEq, List.cons.injEq, Value.slice.injEq, true_and, and_true] at ex
 obtain ⟨rfl, rfl⟩ := ex
 obtain ⟨w8, hw8⟩ : ∃ w8, w8 = ((((w9.setCell ⟨g, acc.length * 5, none⟩ (.int .u8 x.k)).setCell ⟨g, acc.length * 5 + 1, none⟩ (.string x.nm)).setCell ⟨g, acc.length * 5 + 2, none⟩ (.int .i64 x.n)).setCell ⟨g, acc.length * 5 + 3, none⟩ (.slice A x.args.len c)).setCell ⟨g, acc.length * 5 + 4, none⟩ (.int .i64 x.at_) := ⟨_, rfl⟩
 rw [← hw8] at hw10
 have hz8 : w8.heap.size = w9.heap.size := by rw [hw8]; simp
 have hz10 : w10.heap.size = w9.heap.size := by rw [hw10]; simp [hz8]
 have hf98 : Fr (fun b => b = g) w9 w8 := by rw [hw8]; exact Fr.own (Fr.own (Fr.own (Fr.own (Fr.own (Fr.refl _ _) _ _) _ _) _ _) _ _) _ _
 have hf80 : Fr (fun b => b = w.heap.size + 1) w8 w10 := by rw [hw10]; exact Fr.own (Fr.refl _ _) _ _
 have hrow8 : w8.ownsRow (w.heap.size + 2) 37 5 (.slice (some ⟨g, 0, none⟩) (acc.length + 1) cap) (acc.length + 1) (cs ++ exC x A c) := by
  have h1 := row_put (row_put (row_put (row_put (row_put hown (acc.length * 5) (.int .u8 x.k)) (acc.length * 5 + 1) (.string x.nm)) (acc.length * 5 + 2) (.int .i64 x.n)) (acc.length * 5 + 3) (.slice A x.args.len c)) (acc.length * 5 + 4) (.int .i64 x.at_)
  rw [← hw8] at h1
  have e : (((((cs ++ zeroEx.toList).set (acc.length * 5) (.int .u8 x.k)).set (acc.length * 5 + 1) (.string x.nm)).set (acc.length * 5 + 2) (.int .i64 x.n)).set (acc.length * 5 + 3) (.slice A x.args.len c)).set (acc.length * 5 + 4) (.int .i64 x.at_) = cs ++ exC x A c := by
   rw [← hcl]
   simp [List.set_append, zeroEx, exC]
  rw [e] at h1
  exact h1
 have hW9 : Fr (fun b => v.ownBlock = some b) W w9 := Fr.grown hg fun g e _ => e
 have h79 : Fr (fun b => v.ownBlock = some b) w7 w9 := hwa.any.trans hW9
 have h7x : Fr (fun b => v.ownBlock = some b ∨ b = g ∨ b = w.heap.size + 1) w7 w10 := ((h79.mono fun i _ h => Or.inl h).trans (hf98.mono fun i _ h => Or.inr (Or.inl h))).trans (hf80.mono fun i _ h => Or.inr (Or.inr h))
 have hrx : Fr (fun b => b = C.P ∨ v.ownBlock = some b ∨ b = g ∨ b = w.heap.size + 1) wr w10 := (hf.mono fun i _ h => Or.inl h).trans (h7x.mono fun i _ h => Or.inr h)
 have hgn : ∀ b, b < w7.heap.size → v.ownBlock ≠ some b → b ≠ g := fun b hb hn e => by
  subst e
  rcases hsp with h | h
  ·exact hn h
  ·omega
 have hrow10 := ownsRow_setCell_below hrow8 (a := ⟨w.heap.size + 1, 2, none⟩) (by show w.heap.size + 1 < w.heap.size + 2; omega) (.slice (some ⟨g, 0, none⟩) (acc.length + 1) cap)
 rw [← hw10] at hrow10
 have hnew : ExRow w10 (NewR (w.heap.size + 2) (.slice (some ⟨g, 0, none⟩) (acc.length + 1) cap) w10) (acc ++ [x]) (cs ++ exC x A c) := by
  refine ExRow.snoc ⟨x1, x2, x3, hsx.imp fun _ _ h => ExR.more (T := NewR (w.heap.size + 2) (.slice (some ⟨g, 0, none⟩) (acc.length + 1) cap) w10) (fun b hb => ?_) (ExR.keep (h7x.same fun b hb => ⟨hb.2, fun e => ?_⟩) h)⟩ (ExRow.imp (hrx.same fun b hb => ⟨hb.2.1, fun e => ?_⟩) (fun b hb => ⟨hb.1, by have := hb.2.1; omega, fun e => ?_⟩) hx.rows)
  ·refine ⟨by have := hb.1; omega, by have := hb.2; omega, fun e => ?_⟩
   have h1 := hb.1
   have h2 := hb.2
   have e : g = b := by simpa [Value.ownBlock] using e
   exact hgn b h2 (fun e => by have := (hlt _ e).2; omega) e.symm
  ·have h1 := hb.1
   have h2 := hb.2
   rcases e with e | e | e
   ·have := (hlt _ e).2; omega
   ·exact hgn b h2 (fun e => by have := (hlt _ e).2; omega) e
   ·omega
  ·have h1 := hb.1
   have h2 := hb.2.1
   have h3 := hb.2.2
   rcases e with e | e | e | e
   ·omega
   ·exact h3 e
   ·exact hgn b (by omega) h3 e
   ·omega
  ·have h2 := hb.2.1
   have e : g = b := by simpa [Value.ownBlock] using e
   exact hgn b (by omega) hb.2.2 e.symm
 have hlen : (exsOf (acc ++ [x])).len = acc.length + 1 := by rw [exsOf_len]; simp
 obtain ⟨A', c', he, hsl⟩ := someX_end (S := NewR (w.heap.size + 2) (.slice (some ⟨g, 0, none⟩) (acc.length + 1) cap) w10) (by simpa using hrow10) hnew (fun b hb => ⟨hb.1, hb.2.1⟩) (by have := hx.few; simp; omega)
 rw [hlen] at he hsl
 simp only [Value.slice.injEq, true_and] at he
 obtain ⟨rfl, rfl⟩ := he
 refine ⟨hp.fr h7x (fun e => ?_) (fun e => ?_) (fun i hi e => ?_), ?_, ?_, ⟨hk8, ha, ?_, ⟨Nat.le_refl 0, sl0, fun h => absurd h (Nat.lt_irrefl 0)⟩, ⟨Nat.le_refl 0, ⟨(by decide : (0 : Nat) ≤ 9223372036854775807), by exact Nat.zero_le _⟩, fun h => absurd h (Nat.lt_irrefl 0)⟩, ⟨Nat.le_refl 0, ⟨(by decide : (0 : Nat) ≤ 9223372036854775807), by exact Nat.zero_le _⟩, fun h => absurd h (Nat.lt_irrefl 0)⟩⟩, ?_⟩
 ·rcases e with e | e | e
  ·have := (hlt _ e).1; omega
  ·omega
  ·omega
 ·rcases e with e | e | e
  ·have := (hlt _ e).1; omega
  ·omega
  ·omega
 ·rcases e with e | e | e
  ·have := (hlt _ e).1; omega
  ·omega
  ·omega
 ·have h1 : Bk w8 (w.heap.size + 1) 35 #[.int .u8 k, .string nm, v, .slice none 0 0, .slice none 0 0, .slice none 0 0, .int .i64 a] := ((hx.st.fr hf (fun e => by have e : w.heap.size + 1 = C.P := e; omega)).fr h79 (fun e => by have := (hlt _ e).1; omega)).fr hf98 fun e => by have e : w.heap.size + 1 = g := e; omega
  rw [hw10]
  have := h1.set_ 2 (.slice (some ⟨g, 0, none⟩) (acc.length + 1) cap)
  simpa [stC, hlen, Cds.len, Sts.len] using this
 ·exact hx.res.fr hrx fun e => by
   rcases e with e | e | e | e
   ·omega
   ·have := (hlt _ e).1; omega
   ·omega
   ·omega
 ·show SlR _ (exsOf (acc ++ [x])).len 64 _ _
  rw [hlen]
  exact hsl.imp fun _ _ h => ExR.more (fun b hb => ⟨hb.1, hb.2, by have := hb.1; omega⟩) h
 ·refine ((hx.fr.mono (T' := fun b => b = C.P ∨ v.ownBlock = some b ∨ b = g ∨ b = w.heap.size + 1) fun i _ h => ?_).trans hrx).mono fun i hi e => ?_
  ·rcases h with h | h
   ·exact .inl h
   ·exact .inr (.inr (.inr h))
  ·rcases e with e | e | e | e
   ·exact .inl e
   ·have := (hlt _ e).1; omega
   ·omega
   ·exact .inr e
theorem setCell_comm {w : World} {p q : Addr} (h : p.block ≠ q.block) (u v : Value) : (w.setCell p u).setCell q v = (w.setCell q v).setCell p u := by
 unfold World.setCell
 congr 1
 apply Array.ext_getElem?
 intro i
 simp only [Array.getElem?_modify]
 by_cases h1 : p.block = i <;> by_cases h2 : q.block = i
 ·exact absurd (h1.trans h2.symm) h
 ·simp [h1, h2]
 ·simp [h1, h2]
 ·simp [h1, h2]
theorem SetX.stepN {C : Pcx} {w wr w7 w9 : World} {d : Nat} {k a : Int} {nm : ByteArray} {v : Value} {acc : List Ex} {cs : List Value} {r r2 : List Tk} {x : Ex} {A : Option Addr} {c g cap : Nat} {o0 o1 o2 o3 o4 m : Nat} (ho : o0 = acc.length * 5 ∧ o1 = acc.length * 5 + 1 ∧ o2 = acc.length * 5 + 2 ∧ o3 = acc.length * 5 + 3 ∧ o4 = acc.length * 5 + 4 ∧ m = acc.length + 1)
  (hL : C.P < w.heap.size ∧ C.TB < w.heap.size ∧ C.W0.heap.size ≤ w.heap.size) (hk8 : in8 k) (ha : in64 a)
  (hx : SetX C w d k nm a v acc cs r wr) (hv : ExV w7 wr.heap.size (exV x.k x.nm x.n A x.args.len c x.at_) x) (hp : PaAt C w7 r2 d) (hf : Fr C.T wr w7) (W : World) (hwa : Fr NoT w7 W)
  (hown : w9.ownsRow (w.heap.size + 2) 37 5 (.slice (some ⟨g, 0, none⟩) (acc.length + 1) cap) (acc.length + 1) (cs ++ zeroEx.toList))
  (hg : W.grownBy w9 v.ownBlock) (hsp : v.ownBlock = some g ∨ g = W.heap.size) (w10 : World)
  (hw10 : w10 = (((((w9.setCell ⟨g, o0, none⟩ (.int .u8 x.k)).setCell ⟨g, o1, none⟩ (.string x.nm)).setCell ⟨g, o2, none⟩ (.int .i64 x.n)).setCell ⟨g, o3, none⟩ (.slice A x.args.len c)).setCell ⟨g, o4, none⟩ (.int .i64 x.at_)).setCell ⟨w.heap.size + 1, 2, none⟩ (.slice (some ⟨g, 0, none⟩) m cap) ∨
   w10 = (((((w9.setCell ⟨w.heap.size + 1, 2, none⟩ (.slice (some ⟨g, 0, none⟩) m cap)).setCell ⟨g, o0, none⟩ (.int .u8 x.k)).setCell ⟨g, o1, none⟩ (.string x.nm)).setCell ⟨g, o2, none⟩ (.int .i64 x.n)).setCell ⟨g, o3, none⟩ (.slice A x.args.len c)).setCell ⟨g, o4, none⟩ (.int .i64 x.at_)) :
  SetY C w d ⟨k, nm, exsOf (acc ++ [x]), .nil, .nil, .nil, a⟩ ⟨some ⟨g, 0, none⟩, cap, none, 0, none, 0, none, 0⟩ r2 w10 := by
 obtain ⟨rfl, rfl, rfl, rfl, rfl, rfl⟩ := ho
 have hgl := hown.lt g rfl
 refine SetX.step hL hk8 ha hx hv hp hf W hwa hown hg hsp w10 ?_
 rcases hw10 with h | h
 ·exact h
 ·have hne : ∀ j, (⟨w.heap.size + 1, 2, none⟩ : Addr).block ≠ (⟨g, j, none⟩ : Addr).block := fun j e => by
   have e : w.heap.size + 1 = g := e
   omega
  rw [h, setCell_comm (hne _), setCell_comm (hne _), setCell_comm (hne _), setCell_comm (hne _), setCell_comm (hne _)]
end Go.Proofs.YtfcegaklbicmfaaGreatDoor
