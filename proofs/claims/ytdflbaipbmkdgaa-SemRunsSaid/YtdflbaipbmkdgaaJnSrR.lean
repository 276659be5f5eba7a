/-
  What both runs answer; more room for a graph; what ref14's Run begins with.
-/
import Derived.Test.YtdflbaipbmkdgaaSrStep2
import Derived.Test.YtdflbaipbmkdgaaJnSrB
import Derived.Test.YtdflbaipbmkdgaaFlRH
import Derived.Test.YtdflbaipbmkdgaaJnFlRi
namespace Go.Proofs.Ytdflbaipbmkdgaa
open Go.RowKit Go.Shelf
set_option linter.unusedVariables false
set_option linter.unusedSimpArgs false

theorem EdAt.up {w : World} {B B' : Nat} (hB : B ≤ B') : ∀ {l : List Ed} {b o : Nat}, EdAt w B l b o → EdAt w B' l b o
  | [], _, _, _ => trivial
  | e :: r, b, o, hx => by
    obtain ⟨hb, h0, h1, h2, h3, h4, ⟨A, c, h5, hs⟩, h6, hok, hr⟩ := hx
    exact ⟨Nat.lt_of_lt_of_le hb hB, h0, h1, h2, h3, h4, ⟨A, c, h5, hs.more hB⟩, h6, hok, EdAt.up hB hr⟩
theorem EdSl.up {w : World} {B B' : Nat} (hB : B ≤ B') {l : List Ed} {A : Option Addr} {c : Nat} (hx : EdSl w B l A c) : EdSl w B' l A c :=
  ⟨hx.1, hx.2.1, fun hp => by obtain ⟨b, o, e, hh⟩ := hx.2.2 hp; exact ⟨b, o, e, hh.up hB⟩⟩
theorem IsSl.up {w : World} {B B' : Nat} {l : List Int} {A : Option Addr} {c : Nat} (h : B ≤ B') (hx : IsSl w B l A c) : IsSl w B' l A c :=
  ⟨hx.1, hx.2.1, fun hp => by obtain ⟨b, o, e, hh⟩ := hx.2.2 hp; exact ⟨b, o, e, Nat.lt_of_lt_of_le hh.1 h, hh.2⟩⟩
theorem GrSl.up {w : World} {B B' : Nat} (hB : B ≤ B') {g : Gr} {Aa : Option Addr} {ca : Nat} {Ae : Option Addr} {ce : Nat} (h : GrSl w B g Aa ca Ae ce) : GrSl w B' g Aa ca Ae ce := ⟨h.arrays.up hB, h.edges.up hB⟩
theorem Sto.lower {w : World} {L L' : Nat} {vs : List Int} {ls : List (List Int)} {bv : Nat} {A : Option Addr} {c : Nat} {bs : List Nat} (hL : L ≤ L') (h : Sto w L' vs ls bv A c bs) : Sto w L vs ls bv A c bs := by
  refine ⟨h.v, Nat.le_trans hL h.vl, ⟨h.row.1, ?_⟩, h.len, fun i b l hi hl => ⟨Nat.le_trans hL (h.each i b l hi hl).1, (h.each i b l hi hl).2⟩, h.nd, h.nv, h.rv, h.rb, h.i64, h.few⟩
  rcases h.row.2 with h2 | ⟨g, cap, cur, e, h3, r⟩
  · exact .inl h2
  · exact .inr ⟨g, cap, cur, e, Nat.le_trans hL h3, r⟩
/-- an end in memory -/
def EndIs (w : World) (en : En) (v : Value) : Prop :=
  ∃ Av cv Aa ca, v = .agg #[.int .u8 en.kind, .int .u8 en.wrong, .int .i64 en.at_, .int .i64 en.node, .int .i64 en.edge, .int .i64 en.left, .slice Av en.vs.length cv, .slice Aa en.ls.length ca] ∧ StSl w w.heap.size en.vs en.ls Av cv Aa ca
def zeroEnd : Value := .agg #[.int .u8 0, .int .u8 0, .int .i64 0, .int .i64 0, .int .i64 0, .int .i64 0, .slice none 0 0, .slice none 0 0]
/-- what is answered for what may not be run -/
def errNo (g : Gr) (n : Nat) (steps : Int) : Int := if mayG g = true then (if 4096 < n then 4 else if steps < 0 ∨ 65536 < steps then 2 else 0) else 8
/-- what a run begins with -/
def run0 (g : Gr) (script : List Int) (steps : Int) : Rs := ⟨zeros g.vars.toNat, begA g.arrays, script, g.start, steps.toNat⟩
/-- THE CONTRACT of both runs -/
def RunP (g : Gr) (script : List Int) (steps : Int) (w : World) (e : Ending) (w' : World) : Prop :=
  Fr NoT w w' ∧ if errNo g script.length steps = 0 then ∃ en v, Ends g (run0 g script steps) en ∧ EndIs w' en v ∧ e = .returned (.tuple #[v, .int .i64 0])
    else e = .returned (.tuple #[zeroEnd, .int .i64 (errNo g script.length steps)])
theorem infoEnd : (Try.prog.info? 30).map (·.size) = some 8 := by kernel_rfl
theorem rmay_g (g : Gr) (Aa Ae : Option Addr) (ca ce B : Nat) (w : World) (hB : B ≤ w.heap.size) (hg : GrSl w B g Aa ca Ae ce) :
    Calls Try.prog 13 #[grV g.vars Aa g.arrays.length ca g.nodes g.start g.last Ae g.edges.length ce] w (BoolPost (mayG g) w) := by
  have hl := Nat.le_trans hg.edges.1 hg.edges.2.1
  have hla := Nat.le_trans hg.arrays.1 hg.arrays.2.1
  rw [← rmayG_eq]
  unfold rmayG
  cases h : headBad g.vars g.nodes g.start g.last g.arrays.length g.edges.length
  · have := rmay_main g.vars g.nodes g.start g.last g.arrays g.edges _ _ rfl rfl Aa Ae ca ce B w h hl hla hB hg.arrays hg.edges
    simpa using this
  · exact rmay_head g.vars g.nodes g.start g.last _ _ Aa Ae ca ce w h hl hla
/-- two come next -/
theorem wpF_two {P : Program} {Q : Exit → Act → World → Prop} {md : Region.Mode} {S : World → Prop} {n : Nat} {l : List Oper} (i j : Nat) {oi oj : Oper} {r r' : List Oper} {f : Nat} {listed : Array Bool} {a : Act} {w : World} (hi : l.drop i = oi :: r) (hj : l.drop j = oj :: r') (hr : Region.ready md l.toArray listed = [i, j])
    (h : ∀ K' : Act → World → Prop, Shut (∀ a w, S w → wpF P md l.toArray Q S n f (listed.setIfInBounds i true) a w → K' a w) → if Region.wanted oi (yielded l.toArray a.tmps) = true then Oper.wp P oi a w K' Q else K' (a.put oi.dst undef) w)
    (h' : ∀ K' : Act → World → Prop, Shut (∀ a w, S w → wpF P md l.toArray Q S n f (listed.setIfInBounds j true) a w → K' a w) → if Region.wanted oj (yielded l.toArray a.tmps) = true then Oper.wp P oj a w K' Q else K' (a.put oj.dst undef) w) : wpF P md l.toArray Q S n (f + 1) listed a w := by
  refine ⟨fun h0 => by rw [hr] at h0; simp at h0, fun k hk => ?_⟩
  rw [hr] at hk
  have hk : k = i ∨ k = j := by simpa using hk
  rcases hk with rfl | rfl
  · exact wpOp_step (at_drop hi) fun K' hK => h K' fun a w hS hW => hK a w ⟨fun _ => hS, hW⟩
  · exact wpOp_step (at_drop hj) fun K' hK => h' K' fun a w hS hW => hK a w ⟨fun _ => hS, hW⟩
/-- how far a run is, as its block tells -/
def measW (g : Gr) (R : Nat) (w : World) : Nat := (intOf ((w.cell? ⟨R, 12, none⟩).getD undef)).toNat * (g.edges.length + 1) + skips g.edges (intOf ((w.cell? ⟨R, 10, none⟩).getD undef)) g.edges.length
theorem measW_is {ty : TypeId} {c : RW} {w : World} {s : Rs} {As : Option Addr} {cs : Nat} {k wr at_ ed : Int} (h : RnR ty c w s As cs k wr at_ ed) : measW c.g c.R w = meas c.g s := by
  have q12 := h.blk.cell 12
  have q10 := h.blk.cell 10
  simp only [rnC, List.getElem?_toArray, List.getElem?_cons_succ, List.getElem?_cons_zero] at q10 q12
  unfold measW meas
  rw [q12, q10]
  simp [intOf]
theorem step_left_le {g : Gr} (hm : mayG g = true) {s t : Rs} (h : stepG g s = .inl t) : t.left ≤ s.left := by
  obtain ⟨_, _, _, _, _, _, _, _, h, _⟩ := step_on hm h
  rw [h]; split <;> omega
theorem RnR.end_ {ty : TypeId} {c : RW} {w : World} {s : Rs} {As : Option Addr} {cs : Nat} {k wr at_ ed : Int} (h : RnR ty c w s As cs k wr at_ ed) {w' : World} (hs : StSl w' w'.heap.size s.vs s.ls (some ⟨c.bv, 0, none⟩) s.vs.length c.Ar c.cr) :
    EndIs w' (s.stop k wr at_ ed) (.agg #[.int .u8 k, .int .u8 wr, .int .i64 at_, .int .i64 s.node, .int .i64 ed, .int .i64 s.left, .slice (some ⟨c.bv, 0, none⟩) s.vs.length s.vs.length, .slice c.Ar s.ls.length c.cr]) :=
  ⟨_, _, _, _, rfl, hs⟩
end Go.Proofs.Ytdflbaipbmkdgaa

/-
  ref14's Run: the walk.
-/
namespace Go.Proofs.Ytdflbaipbmkdgaa
open Go.RowKit Go.Shelf
set_option linter.unusedVariables false
set_option linter.unusedSimpArgs false

theorem Sto.lo {w : World} {L : Nat} {vs : List Int} {ls : List (List Int)} {bv : Nat} {A : Option Addr} {c : Nat} {bs : List Nat} (h : Sto w L vs ls bv A c bs) : ∀ b ∈ bs, b < w.heap.size := fun b hb => by
  obtain ⟨i, hi⟩ := List.getElem?_of_mem hb
  have hil := (List.getElem?_eq_some_iff.1 hi).1
  rw [h.len] at hil
  exact (h.each i b _ hi (List.getElem?_eq_getElem hil)).2.lt
theorem Sto.lo2 {w : World} {L : Nat} {vs : List Int} {ls : List (List Int)} {bv : Nat} {A : Option Addr} {c : Nat} {bs : List Nat} (h : Sto w L vs ls bv A c bs) : ∀ b ∈ bs, L ≤ b := fun b hb => by
  obtain ⟨i, hi⟩ := List.getElem?_of_mem hb
  have hil := (List.getElem?_eq_some_iff.1 hi).1
  rw [h.len] at hil
  exact (h.each i b _ hi (List.getElem?_eq_getElem hil)).1
theorem run0_is {g : Gr} {Aa Ae As A : Option Addr} {ca ce cs c na ne ns bv R L : Nat} {bs : List Nat} {script : List Int} {st : Nat} {w : World} (hv : 0 ≤ g.vars) (hna : na = g.arrays.length) (hne : ne = g.edges.length) (hns : ns = script.length)
    (hg : GrSl w L g Aa ca Ae ce) (hs : IsSl w L script As cs) (hst : Sto w L (zeros g.vars.toNat) (begA g.arrays) bv A c bs)
    (hk : Bk w R 57 #[.int .i64 g.vars, .slice Aa na ca, .int .i64 g.nodes, .int .i64 g.start, .int .i64 g.last, .slice Ae ne ce, .slice As ns cs, .int .u8 0, .int .u8 0, .int .i64 0, .int .i64 g.start, .int .i64 0, .int .i64 st, .slice (some ⟨bv, 0, none⟩) g.vars.toNat g.vars.toNat, .slice A g.arrays.length c])
    (hL : L ≤ R) (h1 : ¬ R = bv) (h2 : R ∉ bs) (h3 : (Value.slice A (begA g.arrays).length c).ownBlock ≠ some R) : RnR 57 ⟨g, Aa, ca, Ae, ce, L, R, bv, A, c, bs⟩ w (run0 g script st) As cs 0 0 0 0 := by
  refine ⟨?_, hst, hg, hs, hL, h1, h2, h3, ?_, ?_⟩
  · subst hna hne hns
    simpa [rnC, run0, zeros, begA] using hk
  · simp [run0, zeros]; omega
  · simp [run0, begA]
theorem may_sizes {g : Gr} (h : mayG g = true) : ∀ n ∈ g.arrays, 0 ≤ n ∧ n ≤ 1000 := by
  simp only [mayG, Bool.and_eq_true, Bool.not_eq_true', Bool.or_eq_false_iff, odd2] at h
  intro n hn
  have h2 := h.1.1.2.2
  rw [Bool.eq_false_iff] at h2
  have : sizeBad n = false := by
    cases hs : sizeBad n with
    | false => rfl
    | true => exact absurd (List.any_eq_true.2 ⟨n, hn, hs⟩) h2
  simp only [sizeBad, Bool.or_eq_false_iff, decide_eq_false_iff_not] at this
  omega
set_option maxRecDepth 100000 in
set_option maxHeartbeats 6400000 in
theorem rrun_any (g : Gr) (Aa Ae As : Option Addr) (ca ce cs : Nat) (script : List Int) (steps : Int) (w : World) (hg : GrSl w w.heap.size g Aa ca Ae ce) (hsc : IsSl w w.heap.size script As cs) :
    Calls Try.prog 6 #[grV g.vars Aa g.arrays.length ca g.nodes g.start g.last Ae g.edges.length ce, .slice As script.length cs, .int .i64 steps] w (RunP g script steps w) := by
  have hmay := fun (W : World) (hf : Fr NoT w W) => rmay_g g Aa Ae ca ce w.heap.size W hf.size (hg.keep (Same.of_fr hf (Nat.le_refl _) fun _ h => h.elim))
  have hbeg := fun (W : World) (hf : Fr NoT w W) (hv : 0 ≤ g.vars ∧ g.vars ≤ 1000) (hn : g.arrays.length ≤ 100) (hz : ∀ n ∈ g.arrays, 0 ≤ n ∧ n ≤ 1000) => rbegin_any g Aa Ae ca ce g.edges.length w.heap.size W hf.size (hg.keep (Same.of_fr hf (Nat.le_refl _) fun _ h => h.elim)).arrays hv hn hz
  have hla : g.arrays.length ≤ 9223372036854775807 := Nat.le_trans hg.arrays.1 hg.arrays.2.1
  have hle : g.edges.length ≤ 9223372036854775807 := Nat.le_trans hg.edges.1 hg.edges.2.1
  have hls : script.length ≤ 9223372036854775807 := Nat.le_trans hsc.1 hsc.2.1
  unfold grV at hmay hbeg ⊢
  obtain ⟨na, hna⟩ : ∃ n, n = g.arrays.length := ⟨_, rfl⟩
  obtain ⟨ne, hne⟩ : ∃ n, n = g.edges.length := ⟨_, rfl⟩
  obtain ⟨ns, hns⟩ : ∃ n, n = script.length := ⟨_, rfl⟩
  rw [← hna, ← hne] at hmay hbeg
  rw [← hna] at hla
  rw [← hne] at hle
  rw [← hns] at hls
  rw [← hna, ← hne, ← hns]
  have HNA := Lib.hid hna
  have HNE := Lib.hid hne
  have HNS := Lib.hid hns
  have HG := Lib.hid hg
  have HSC := Lib.hid hsc
  have HMAY := Lib.hid hmay
  have HBEG := Lib.hid hbeg
  clear hna hne hns hg hsc hmay hbeg
  obtain ⟨W1, hW1⟩ : ∃ W1, W1 = (w.alloc (.cells #[.int .i64 g.vars, .slice Aa na ca, .int .i64 g.nodes, .int .i64 g.start, .int .i64 g.last, .slice Ae ne ce] 25)).alloc (.cells #[.int .u8 0, .int .u8 0, .int .i64 0, .int .i64 0, .int .i64 0, .int .i64 0, .slice none 0 0, .slice none 0 0] 30) := ⟨_, rfl⟩
  have hf1 : Fr NoT w W1 := by rw [hW1]; exact ((Fr.refl _ _).alloc _).alloc _
  have kk := bk_alloc2 w #[.int .i64 g.vars, .slice Aa na ca, .int .i64 g.nodes, .int .i64 g.start, .int .i64 g.last, .slice Ae ne ce] #[.int .u8 0, .int .u8 0, .int .i64 0, .int .i64 0, .int .i64 0, .int .i64 0, .slice none 0 0, .slice none 0 0] 25 30
  rw [← hW1] at kk
  have hz1 : W1.heap.size = w.heap.size + 1 + 1 := by rw [hW1]; simp
  have HW1 := Lib.hid hW1
  have HF1 := Lib.hid hf1
  have HK0 := Lib.hid kk.1
  have HK1 := Lib.hid kk.2
  have HZ1 := Lib.hid hz1
  clear hW1 hf1 kk hz1
  go_enter Try.func6, Try.ntmps6
  go_wp2_with fail
  rw [← HW1.out]
  go_at_call 13
  refine (HMAY.out W1 HF1.out).mono ?_
  rintro _ w1 ⟨rfl, hb1⟩
  have hf2 : Fr NoT W1 w1 := Fr.below hb1
  have HF2 := Lib.hid hf2
  have HF02 := Lib.hid (HF1.out.trans hf2)
  have k0 := HK0.out.fr0 hf2
  have k1 := HK1.out.fr0 hf2
  have HK0' := Lib.hid k0
  have HK1' := Lib.hid k1
  have hz2 : w.heap.size + 1 + 1 ≤ w1.heap.size := by have := HZ1.out; have := hf2.size; omega
  have g0 := k0.cell 0
  have gf0 := k0.frozen 0
  have g1 := k0.cell 1
  have gf1 := k0.frozen 1
  have g2 := k0.cell 2
  have gf2 := k0.frozen 2
  have g3 := k0.cell 3
  have gf3 := k0.frozen 3
  have g4 := k0.cell 4
  have gf4 := k0.frozen 4
  have g5 := k0.cell 5
  have gf5 := k0.frozen 5
  have gl := k0.lt
  simp only [List.getElem?_toArray, List.getElem?_cons_succ, List.getElem?_cons_zero] at g0 g1 g2 g3 g4 g5
  have e0 := k1.cell 0
  have ef0 := k1.frozen 0
  have e1 := k1.cell 1
  have ef1 := k1.frozen 1
  have e2 := k1.cell 2
  have ef2 := k1.frozen 2
  have e3 := k1.cell 3
  have ef3 := k1.frozen 3
  have e4 := k1.cell 4
  have ef4 := k1.frozen 4
  have e5 := k1.cell 5
  have ef5 := k1.frozen 5
  have e6 := k1.cell 6
  have ef6 := k1.frozen 6
  have e7 := k1.cell 7
  have ef7 := k1.frozen 7
  have el := k1.lt
  simp only [List.getElem?_toArray, List.getElem?_cons_succ, List.getElem?_cons_zero] at e0 e1 e2 e3 e4 e5 e6 e7
  clear hb1 hf2 k0 k1
  cases hm : mayG g with
  | false =>
    have HE := Lib.hid (show errNo g script.length steps = 8 from by unfold errNo; rw [if_neg (by rw [hm]; decide)])
    clear hm
    obtain ⟨wf, hwf⟩ : ∃ wf, wf = ((((((((w1.setCell ⟨w.heap.size + 1, 0, none⟩ (.int .u8 0)).setCell ⟨w.heap.size + 1, 1, none⟩ (.int .u8 0)).setCell ⟨w.heap.size + 1, 2, none⟩ (.int .i64 0)).setCell ⟨w.heap.size + 1, 3, none⟩ (.int .i64 0)).setCell ⟨w.heap.size + 1, 4, none⟩ (.int .i64 0)).setCell ⟨w.heap.size + 1, 5, none⟩ (.int .i64 0)).setCell ⟨w.heap.size + 1, 6, none⟩ (.slice none 0 0)).setCell ⟨w.heap.size + 1, 7, none⟩ (.slice none 0 0)) := ⟨_, rfl⟩
    have hff : Fr (fun b => b = w.heap.size + 1) w1 wf := by rw [hwf]; exact (Fr.own (Fr.own (Fr.own (Fr.own (Fr.own (Fr.own (Fr.own (Fr.own (Fr.refl _ _) _ _) _ _) _ _) _ _) _ _) _ _) _ _) _ _)
    have kf : Bk wf (w.heap.size + 1) 30 #[.int .u8 0, .int .u8 0, .int .i64 0, .int .i64 0, .int .i64 0, .int .i64 0, .slice none 0 0, .slice none 0 0] := by
      have := ((((((((HK1'.out.set_ 0 (.int .u8 0)).set_ 1 (.int .u8 0)).set_ 2 (.int .i64 0)).set_ 3 (.int .i64 0)).set_ 4 (.int .i64 0)).set_ 5 (.int .i64 0)).set_ 6 (.slice none 0 0)).set_ 7 (.slice none 0 0))
      rw [hwf]; simpa using this
    have HKF := Lib.hid kf
    have HWF := Lib.hid hwf
    have HFF := Lib.hid (show Fr NoT w wf from HF02.out.then hff fun i hi e => by have e : i = w.heap.size + 1 := e; omega)
    clear hwf hff kf
    go_wp2_with fail
    rw [← HWF.out]
    refine bodyPost_ret (results_cell_tmp (p := 6) (q := 7) (ty := 30) rfl _ _ (w.heap.size + 1) 30 _ (0, 0) _ rfl HKF.out Try.underlying30 rfl infoEnd) rfl ⟨HFF.out, ?_⟩
    rw [if_neg (by rw [HE.out]; decide), HE.out]
    rfl
  | true =>
    have HM := Lib.hid hm
    clear hm
    by_cases hn : 4096 < ns
    · have hn' : (4096 : Int) < (ns : Int) := by omega
      have HE := Lib.hid (show errNo g script.length steps = 4 from by unfold errNo; rw [if_pos HM.out, ← HNS.out, if_pos hn])
      obtain ⟨wf, hwf⟩ : ∃ wf, wf = ((((((((w1.setCell ⟨w.heap.size + 1, 0, none⟩ (.int .u8 0)).setCell ⟨w.heap.size + 1, 1, none⟩ (.int .u8 0)).setCell ⟨w.heap.size + 1, 2, none⟩ (.int .i64 0)).setCell ⟨w.heap.size + 1, 3, none⟩ (.int .i64 0)).setCell ⟨w.heap.size + 1, 4, none⟩ (.int .i64 0)).setCell ⟨w.heap.size + 1, 5, none⟩ (.int .i64 0)).setCell ⟨w.heap.size + 1, 6, none⟩ (.slice none 0 0)).setCell ⟨w.heap.size + 1, 7, none⟩ (.slice none 0 0)) := ⟨_, rfl⟩
      have hff : Fr (fun b => b = w.heap.size + 1) w1 wf := by rw [hwf]; exact (Fr.own (Fr.own (Fr.own (Fr.own (Fr.own (Fr.own (Fr.own (Fr.own (Fr.refl _ _) _ _) _ _) _ _) _ _) _ _) _ _) _ _) _ _)
      have kf : Bk wf (w.heap.size + 1) 30 #[.int .u8 0, .int .u8 0, .int .i64 0, .int .i64 0, .int .i64 0, .int .i64 0, .slice none 0 0, .slice none 0 0] := by
        have := ((((((((HK1'.out.set_ 0 (.int .u8 0)).set_ 1 (.int .u8 0)).set_ 2 (.int .i64 0)).set_ 3 (.int .i64 0)).set_ 4 (.int .i64 0)).set_ 5 (.int .i64 0)).set_ 6 (.slice none 0 0)).set_ 7 (.slice none 0 0))
        rw [hwf]; simpa using this
      have HKF := Lib.hid kf
      have HWF := Lib.hid hwf
      have HFF := Lib.hid (show Fr NoT w wf from HF02.out.then hff fun i hi e => by have e : i = w.heap.size + 1 := e; omega)
      clear hwf hff kf
      go_wp2_with fail
      rw [← HWF.out]
      refine bodyPost_ret (results_cell_tmp (p := 6) (q := 7) (ty := 30) rfl _ _ (w.heap.size + 1) 30 _ (0, 0) _ rfl HKF.out Try.underlying30 rfl infoEnd) rfl ⟨HFF.out, ?_⟩
      rw [if_neg (by rw [HE.out]; decide), HE.out]
      rfl
    have hn' : ¬ (4096 : Int) < (ns : Int) := by omega
    by_cases hs0 : steps < 0
    · have HE := Lib.hid (show errNo g script.length steps = 2 from by unfold errNo; rw [if_pos HM.out, ← HNS.out, if_neg hn, if_pos (.inl hs0)])
      obtain ⟨wf, hwf⟩ : ∃ wf, wf = ((((((((w1.setCell ⟨w.heap.size + 1, 0, none⟩ (.int .u8 0)).setCell ⟨w.heap.size + 1, 1, none⟩ (.int .u8 0)).setCell ⟨w.heap.size + 1, 2, none⟩ (.int .i64 0)).setCell ⟨w.heap.size + 1, 3, none⟩ (.int .i64 0)).setCell ⟨w.heap.size + 1, 4, none⟩ (.int .i64 0)).setCell ⟨w.heap.size + 1, 5, none⟩ (.int .i64 0)).setCell ⟨w.heap.size + 1, 6, none⟩ (.slice none 0 0)).setCell ⟨w.heap.size + 1, 7, none⟩ (.slice none 0 0)) := ⟨_, rfl⟩
      have hff : Fr (fun b => b = w.heap.size + 1) w1 wf := by rw [hwf]; exact (Fr.own (Fr.own (Fr.own (Fr.own (Fr.own (Fr.own (Fr.own (Fr.own (Fr.refl _ _) _ _) _ _) _ _) _ _) _ _) _ _) _ _) _ _)
      have kf : Bk wf (w.heap.size + 1) 30 #[.int .u8 0, .int .u8 0, .int .i64 0, .int .i64 0, .int .i64 0, .int .i64 0, .slice none 0 0, .slice none 0 0] := by
        have := ((((((((HK1'.out.set_ 0 (.int .u8 0)).set_ 1 (.int .u8 0)).set_ 2 (.int .i64 0)).set_ 3 (.int .i64 0)).set_ 4 (.int .i64 0)).set_ 5 (.int .i64 0)).set_ 6 (.slice none 0 0)).set_ 7 (.slice none 0 0))
        rw [hwf]; simpa using this
      have HKF := Lib.hid kf
      have HWF := Lib.hid hwf
      have HFF := Lib.hid (show Fr NoT w wf from HF02.out.then hff fun i hi e => by have e : i = w.heap.size + 1 := e; omega)
      clear hwf hff kf
      go_wp2_with fail
      rw [← HWF.out]
      refine bodyPost_ret (results_cell_tmp (p := 6) (q := 7) (ty := 30) rfl _ _ (w.heap.size + 1) 30 _ (0, 0) _ rfl HKF.out Try.underlying30 rfl infoEnd) rfl ⟨HFF.out, ?_⟩
      rw [if_neg (by rw [HE.out]; decide), HE.out]
      rfl
    by_cases hs1 : 65536 < steps
    · have hs0' : 0 ≤ steps := by omega
      have HE := Lib.hid (show errNo g script.length steps = 2 from by unfold errNo; rw [if_pos HM.out, ← HNS.out, if_neg hn, if_pos (.inr hs1)])
      obtain ⟨wf, hwf⟩ : ∃ wf, wf = ((((((((w1.setCell ⟨w.heap.size + 1, 0, none⟩ (.int .u8 0)).setCell ⟨w.heap.size + 1, 1, none⟩ (.int .u8 0)).setCell ⟨w.heap.size + 1, 2, none⟩ (.int .i64 0)).setCell ⟨w.heap.size + 1, 3, none⟩ (.int .i64 0)).setCell ⟨w.heap.size + 1, 4, none⟩ (.int .i64 0)).setCell ⟨w.heap.size + 1, 5, none⟩ (.int .i64 0)).setCell ⟨w.heap.size + 1, 6, none⟩ (.slice none 0 0)).setCell ⟨w.heap.size + 1, 7, none⟩ (.slice none 0 0)) := ⟨_, rfl⟩
      have hff : Fr (fun b => b = w.heap.size + 1) w1 wf := by rw [hwf]; exact (Fr.own (Fr.own (Fr.own (Fr.own (Fr.own (Fr.own (Fr.own (Fr.own (Fr.refl _ _) _ _) _ _) _ _) _ _) _ _) _ _) _ _) _ _)
      have kf : Bk wf (w.heap.size + 1) 30 #[.int .u8 0, .int .u8 0, .int .i64 0, .int .i64 0, .int .i64 0, .int .i64 0, .slice none 0 0, .slice none 0 0] := by
        have := ((((((((HK1'.out.set_ 0 (.int .u8 0)).set_ 1 (.int .u8 0)).set_ 2 (.int .i64 0)).set_ 3 (.int .i64 0)).set_ 4 (.int .i64 0)).set_ 5 (.int .i64 0)).set_ 6 (.slice none 0 0)).set_ 7 (.slice none 0 0))
        rw [hwf]; simpa using this
      have HKF := Lib.hid kf
      have HWF := Lib.hid hwf
      have HFF := Lib.hid (show Fr NoT w wf from HF02.out.then hff fun i hi e => by have e : i = w.heap.size + 1 := e; omega)
      clear hwf hff kf
      go_wp2_with fail
      rw [← HWF.out]
      refine bodyPost_ret (results_cell_tmp (p := 6) (q := 7) (ty := 30) rfl _ _ (w.heap.size + 1) 30 _ (0, 0) _ rfl HKF.out Try.underlying30 rfl infoEnd) rfl ⟨HFF.out, ?_⟩
      rw [if_neg (by rw [HE.out]; decide), HE.out]
      rfl
    have HE := Lib.hid (show errNo g script.length steps = 0 from by unfold errNo; rw [if_pos HM.out, ← HNS.out, if_neg hn, if_neg (by omega)])
    obtain ⟨st, rfl⟩ : ∃ st : Nat, steps = st := ⟨steps.toNat, by omega⟩
    have hst : st ≤ 65536 := by omega
    have hml := may_len HM.out
    have hvz : 0 ≤ g.vars ∧ g.vars ≤ 1000 := by omega
    have hzz : ∀ n ∈ g.arrays, 0 ≤ n ∧ n ≤ 1000 := may_sizes HM.out
    have hab : na ≤ 100 := by have := HNA.out; omega
    have HBG := Lib.hid (fun (W : World) (hf : Fr NoT w W) => HBEG.out W hf hvz hab hzz)
    have HML := Lib.hid hml
    clear hml hvz hzz hab hn
    have HS : Hid (∀ W', Fr NoT w1 W' → W'.cell? ⟨w.heap.size, 0, none⟩ = some (.int .i64 g.vars) ∧ W'.cell? ⟨w.heap.size, 1, none⟩ = some (.slice Aa na ca) ∧ W'.cell? ⟨w.heap.size, 2, none⟩ = some (.int .i64 g.nodes) ∧ W'.cell? ⟨w.heap.size, 3, none⟩ = some (.int .i64 g.start) ∧ W'.cell? ⟨w.heap.size, 4, none⟩ = some (.int .i64 g.last) ∧ W'.cell? ⟨w.heap.size, 5, none⟩ = some (.slice Ae ne ce)) := Lib.hid (fun W' hf => ⟨(hf.cell (p := ⟨w.heap.size, 0, none⟩) gl id).trans g0, (hf.cell (p := ⟨w.heap.size, 1, none⟩) gl id).trans g1, (hf.cell (p := ⟨w.heap.size, 2, none⟩) gl id).trans g2, (hf.cell (p := ⟨w.heap.size, 3, none⟩) gl id).trans g3, (hf.cell (p := ⟨w.heap.size, 4, none⟩) gl id).trans g4, (hf.cell (p := ⟨w.heap.size, 5, none⟩) gl id).trans g5⟩)
    go_wp2_with fail
    go_cut [8] (fun s8 wx => ∃ R bv A cr bs, s8 = .pointer (some ⟨R, 0, none⟩) ∧ Hid (RnR 57 ⟨g, Aa, ca, Ae, ce, w1.heap.size, R, bv, A, cr, bs⟩ wx (run0 g script st) As cs 0 0 0 0) ∧ Hid (Fr NoT w1 wx))
    case first =>
      refine wp_region_F (fun W' => W'.cell? ⟨w.heap.size, 0, none⟩ = some (.int .i64 g.vars) ∧ W'.cell? ⟨w.heap.size, 1, none⟩ = some (.slice Aa na ca) ∧ W'.cell? ⟨w.heap.size, 2, none⟩ = some (.int .i64 g.nodes) ∧ W'.cell? ⟨w.heap.size, 3, none⟩ = some (.int .i64 g.start) ∧ W'.cell? ⟨w.heap.size, 4, none⟩ = some (.int .i64 g.last) ∧ W'.cell? ⟨w.heap.size, 5, none⟩ = some (.slice Ae ne ce)) 11 (by kernel_rfl) ⟨g0, g1, g2, g3, g4, g5⟩ (fun hHeld => ?_)
      refine wpF_take 0 (v := ?_) rfl (by kernel_rfl) (by kernel_rfl) (by kernel_rfl) (by kernel_rfl) (fun _ _ _ h => h) hHeld (by rfl) ?_ ?_
      rotate_left
      · intro wz hSz
        (try dsimp only at hSz)
        go_simp
        try with_reducible rfl
      try simp only [Act.put, List.setIfInBounds_toArray, List.set_cons_zero, List.set_cons_succ]
      refine wpF_take 1 (v := ?_) rfl (by kernel_rfl) (by kernel_rfl) (by kernel_rfl) (by kernel_rfl) (fun _ _ _ h => h) hHeld (by rfl) ?_ ?_
      rotate_left
      · intro wz hSz
        (try dsimp only at hSz)
        go_simp
        try with_reducible rfl
      try simp only [Act.put, List.setIfInBounds_toArray, List.set_cons_zero, List.set_cons_succ]
      refine wpF_take 2 (v := ?_) rfl (by kernel_rfl) (by kernel_rfl) (by kernel_rfl) (by kernel_rfl) (fun _ _ _ h => h) hHeld (by rfl) ?_ ?_
      rotate_left
      · intro wz hSz
        (try dsimp only at hSz)
        go_simp
        try with_reducible rfl
      try simp only [Act.put, List.setIfInBounds_toArray, List.set_cons_zero, List.set_cons_succ]
      refine wpF_take 3 (v := ?_) rfl (by kernel_rfl) (by kernel_rfl) (by kernel_rfl) (by kernel_rfl) (fun _ _ _ h => h) hHeld (by rfl) ?_ ?_
      rotate_left
      · intro wz hSz
        (try dsimp only at hSz)
        go_simp
        try with_reducible rfl
      try simp only [Act.put, List.setIfInBounds_toArray, List.set_cons_zero, List.set_cons_succ]
      refine wpF_take 4 (v := ?_) rfl (by kernel_rfl) (by kernel_rfl) (by kernel_rfl) (by kernel_rfl) (fun _ _ _ h => h) hHeld (by rfl) ?_ ?_
      rotate_left
      · intro wz hSz
        (try dsimp only at hSz)
        go_simp
        try with_reducible rfl
      try simp only [Act.put, List.setIfInBounds_toArray, List.set_cons_zero, List.set_cons_succ]
      refine wpF_take 5 (v := ?_) rfl (by kernel_rfl) (by kernel_rfl) (by kernel_rfl) (by kernel_rfl) (fun _ _ _ h => h) hHeld (by rfl) ?_ ?_
      rotate_left
      · intro wz hSz
        (try dsimp only at hSz)
        go_simp
        try with_reducible rfl
      try simp only [Act.put, List.setIfInBounds_toArray, List.set_cons_zero, List.set_cons_succ]
      refine wpF_two 6 9 rfl rfl (by kernel_rfl) (fun K hK => ?_) (fun K hK => ?_)
      · go_simp
        go_at_call 14
        refine (HBG.out w1.drew (HF02.out.trans (Fr.refl _ _).drew)).mono ?_
        rintro _ w5 ⟨bv, A, c, bs, rfl, hst5, hf5⟩
        have hf15 : Fr NoT w1 w5 := (Fr.refl _ _).drew.trans hf5
        have HF15 := Lib.hid hf15
        have HST := Lib.hid hst5
        have hS := HS.out w5 hf15
        clear hst5 hf5 hHeld
        have hHeld := hS
        unfold stVals
        try dsimp only
        refine hK.out _ _ hS ?_
        clear hK K
        try simp only [Act.put, List.setIfInBounds_toArray, List.set_cons_zero, List.set_cons_succ]
        refine wpF_take 7 (v := ?_) rfl (by kernel_rfl) (by kernel_rfl) (by kernel_rfl) (by kernel_rfl) (fun _ _ _ h => h) hHeld (by rfl) ?_ ?_
        rotate_left
        · intro wz hSz
          (try dsimp only at hSz)
          go_simp
          try with_reducible rfl
        try simp only [Act.put, List.setIfInBounds_toArray, List.set_cons_zero, List.set_cons_succ]
        refine wpF_take 8 (v := ?_) rfl (by kernel_rfl) (by kernel_rfl) (by kernel_rfl) (by kernel_rfl) (fun _ _ _ h => h) hHeld (by rfl) ?_ ?_
        rotate_left
        · intro wz hSz
          (try dsimp only at hSz)
          go_simp
          try with_reducible rfl
        try simp only [Act.put, List.setIfInBounds_toArray, List.set_cons_zero, List.set_cons_succ]
        refine wpF_next 9 rfl (by kernel_rfl) (fun K hK => ?_)
        go_simp
        obtain ⟨w6, hw6⟩ : ∃ w6, w6 = w5.alloc (.cells #[.int .i64 0, .slice none 0 0, .int .i64 0, .int .i64 0, .int .i64 0, .slice none 0 0, .slice none 0 0, .int .u8 0, .int .u8 0, .int .i64 0, .int .i64 0, .int .i64 0, .int .i64 0, .slice none 0 0, .slice none 0 0] 57) := ⟨_, rfl⟩
        have hf6 : Fr NoT w5 w6 := by rw [hw6]; exact (Fr.refl _ _).alloc _
        have kr : Bk w6 w5.heap.size 57 #[.int .i64 0, .slice none 0 0, .int .i64 0, .int .i64 0, .int .i64 0, .slice none 0 0, .slice none 0 0, .int .u8 0, .int .u8 0, .int .i64 0, .int .i64 0, .int .i64 0, .int .i64 0, .slice none 0 0, .slice none 0 0] := by rw [hw6]; exact Bk.new _ _ _
        rw [← hw6]
        have HW6 := Lib.hid hw6
        clear hw6
        have hS6 := HS.out w6 (HF15.out.trans hf6)
        have HF6 := Lib.hid hf6
        have HKR := Lib.hid kr
        refine hK.out _ _ hS6 ?_
        clear hK K
        have u0 := kr.cell 0
        have uf0 := kr.frozen 0
        have u1 := kr.cell 1
        have uf1 := kr.frozen 1
        have u2 := kr.cell 2
        have uf2 := kr.frozen 2
        have u3 := kr.cell 3
        have uf3 := kr.frozen 3
        have u4 := kr.cell 4
        have uf4 := kr.frozen 4
        have u5 := kr.cell 5
        have uf5 := kr.frozen 5
        have u6 := kr.cell 6
        have uf6 := kr.frozen 6
        have u7 := kr.cell 7
        have uf7 := kr.frozen 7
        have u8 := kr.cell 8
        have uf8 := kr.frozen 8
        have u9 := kr.cell 9
        have uf9 := kr.frozen 9
        have u10 := kr.cell 10
        have uf10 := kr.frozen 10
        have u11 := kr.cell 11
        have uf11 := kr.frozen 11
        have u12 := kr.cell 12
        have uf12 := kr.frozen 12
        have u13 := kr.cell 13
        have uf13 := kr.frozen 13
        have u14 := kr.cell 14
        have uf14 := kr.frozen 14
        have ul := kr.lt
        simp only [List.getElem?_toArray, List.getElem?_cons_succ, List.getElem?_cons_zero] at u0 u1 u2 u3 u4 u5 u6 u7 u8 u9 u10 u11 u12 u13 u14
        clear kr
        refine wpF_next 10 rfl (by kernel_rfl) (fun K hK => ?_)
        go_simp
        obtain ⟨w7, hw7⟩ : ∃ w7, w7 = (((((((((((((((w6.setCell ⟨w5.heap.size, 0, none⟩ (.int .i64 g.vars)).setCell ⟨w5.heap.size, 1, none⟩ (.slice Aa na ca)).setCell ⟨w5.heap.size, 2, none⟩ (.int .i64 g.nodes)).setCell ⟨w5.heap.size, 3, none⟩ (.int .i64 g.start)).setCell ⟨w5.heap.size, 4, none⟩ (.int .i64 g.last)).setCell ⟨w5.heap.size, 5, none⟩ (.slice Ae ne ce)).setCell ⟨w5.heap.size, 6, none⟩ (.slice As ns cs)).setCell ⟨w5.heap.size, 7, none⟩ (.int .u8 0)).setCell ⟨w5.heap.size, 8, none⟩ (.int .u8 0)).setCell ⟨w5.heap.size, 9, none⟩ (.int .i64 0)).setCell ⟨w5.heap.size, 10, none⟩ (.int .i64 g.start)).setCell ⟨w5.heap.size, 11, none⟩ (.int .i64 0)).setCell ⟨w5.heap.size, 12, none⟩ (.int .i64 st)).setCell ⟨w5.heap.size, 13, none⟩ (.slice (some ⟨bv, 0, none⟩) g.vars.toNat g.vars.toNat)).setCell ⟨w5.heap.size, 14, none⟩ (.slice A g.arrays.length c)) := ⟨_, rfl⟩
        have hf7 : Fr (fun x => x = w5.heap.size) w6 w7 := by rw [hw7]; exact (Fr.own (Fr.own (Fr.own (Fr.own (Fr.own (Fr.own (Fr.own (Fr.own (Fr.own (Fr.own (Fr.own (Fr.own (Fr.own (Fr.own (Fr.own (Fr.refl _ _) _ _) _ _) _ _) _ _) _ _) _ _) _ _) _ _) _ _) _ _) _ _) _ _) _ _) _ _) _ _)
        rw [← hw7]
        have hf57 : Fr NoT w5 w7 := HF6.out.then hf7 fun i hi e => by have e : i = w5.heap.size := e; omega
        refine hK.out _ _ (HS.out w7 (HF15.out.trans hf57)) ?_
        clear hK K
        refine wpF_done (by kernel_rfl) ?_
        have k7 : Bk w7 w5.heap.size 57 #[.int .i64 g.vars, .slice Aa na ca, .int .i64 g.nodes, .int .i64 g.start, .int .i64 g.last, .slice Ae ne ce, .slice As ns cs, .int .u8 0, .int .u8 0, .int .i64 0, .int .i64 g.start, .int .i64 0, .int .i64 st, .slice (some ⟨bv, 0, none⟩) g.vars.toNat g.vars.toNat, .slice A g.arrays.length c] := by
          have := (((((((((((((((HKR.out.set_ 0 (.int .i64 g.vars)).set_ 1 (.slice Aa na ca)).set_ 2 (.int .i64 g.nodes)).set_ 3 (.int .i64 g.start)).set_ 4 (.int .i64 g.last)).set_ 5 (.slice Ae ne ce)).set_ 6 (.slice As ns cs)).set_ 7 (.int .u8 0)).set_ 8 (.int .u8 0)).set_ 9 (.int .i64 0)).set_ 10 (.int .i64 g.start)).set_ 11 (.int .i64 0)).set_ 12 (.int .i64 st)).set_ 13 (.slice (some ⟨bv, 0, none⟩) g.vars.toNat g.vars.toNat)).set_ 14 (.slice A g.arrays.length c))
          rw [hw7]; simpa using this
        have HK7 := Lib.hid k7
        have HF57 := Lib.hid hf57
        clear k7 hf57 hf7 hw7
        go_wp2_with fail
        go_meet
        refine ⟨w5.heap.size, bv, A, c, bs, rfl, Lib.hid ?_, Lib.hid (HF15.out.trans HF57.out)⟩
        have hst7 := HST.out.fr0 HF57.out
        refine run0_is HML.out.2.2.1 HNA.out HNE.out HNS.out ((HG.out.keep (Same.of_fr (HF02.out.trans (HF15.out.trans HF57.out)) (Nat.le_refl _) fun _ h => h.elim)).up (by omega)) ((HSC.out.keep (Same.of_fr (HF02.out.trans (HF15.out.trans HF57.out)) (Nat.le_refl _) fun _ h => h.elim)).up (by omega)) (hst7.lower (by show w1.heap.size ≤ w1.drew.heap.size; exact Nat.le_refl _)) HK7.out HF15.out.size ?_ ?_ ?_
        · have := HST.out.v.lt; omega
        · intro hm
          have := HST.out.lo _ hm
          omega
        · intro e
          have := (HST.out.row.lt _ e).2
          omega
      · go_simp
        obtain ⟨w6, hw6⟩ : ∃ w6, w6 = (w1.alloc (.cells #[.int .i64 0, .slice none 0 0, .int .i64 0, .int .i64 0, .int .i64 0, .slice none 0 0, .slice none 0 0, .int .u8 0, .int .u8 0, .int .i64 0, .int .i64 0, .int .i64 0, .int .i64 0, .slice none 0 0, .slice none 0 0] 57)).drew := ⟨_, rfl⟩
        have hf6 : Fr NoT w1 w6 := by rw [hw6]; exact ((Fr.refl _ _).alloc _).drew
        have kr : Bk w6 w1.heap.size 57 #[.int .i64 0, .slice none 0 0, .int .i64 0, .int .i64 0, .int .i64 0, .slice none 0 0, .slice none 0 0, .int .u8 0, .int .u8 0, .int .i64 0, .int .i64 0, .int .i64 0, .int .i64 0, .slice none 0 0, .slice none 0 0] := by rw [hw6]; exact (Bk.new _ _ _).fr0 (Fr.refl _ _).drew
        rw [← hw6]
        have HW6 := Lib.hid hw6
        clear hw6
        have hS6 := HS.out w6 hf6
        have HF6 := Lib.hid hf6
        have HKR := Lib.hid kr
        refine hK.out _ _ hS6 ?_
        clear hK K hf6 kr
        try simp only [Act.put, List.setIfInBounds_toArray, List.set_cons_zero, List.set_cons_succ]
        refine wpF_next 6 rfl (by kernel_rfl) (fun K hK => ?_)
        go_simp
        go_at_call 14
        refine (HBG.out w6 (HF02.out.trans HF6.out)).mono ?_
        rintro _ w5 ⟨bv, A, c, bs, rfl, hst5, hf5⟩
        have hf15 : Fr NoT w1 w5 := HF6.out.trans hf5
        have HF5 := Lib.hid hf5
        have HF15 := Lib.hid hf15
        have HST := Lib.hid hst5
        have hS := HS.out w5 hf15
        have kr := HKR.out.fr0 hf5
        have HKR5 := Lib.hid kr
        clear hst5 hf5 hHeld
        have hHeld := hS
        unfold stVals
        try dsimp only
        refine hK.out _ _ hS ?_
        clear hK K
        try simp only [Act.put, List.setIfInBounds_toArray, List.set_cons_zero, List.set_cons_succ]
        refine wpF_take 7 (v := ?_) rfl (by kernel_rfl) (by kernel_rfl) (by kernel_rfl) (by kernel_rfl) (fun _ _ _ h => h) hHeld (by rfl) ?_ ?_
        rotate_left
        · intro wz hSz
          (try dsimp only at hSz)
          go_simp
          try with_reducible rfl
        try simp only [Act.put, List.setIfInBounds_toArray, List.set_cons_zero, List.set_cons_succ]
        refine wpF_take 8 (v := ?_) rfl (by kernel_rfl) (by kernel_rfl) (by kernel_rfl) (by kernel_rfl) (fun _ _ _ h => h) hHeld (by rfl) ?_ ?_
        rotate_left
        · intro wz hSz
          (try dsimp only at hSz)
          go_simp
          try with_reducible rfl
        try simp only [Act.put, List.setIfInBounds_toArray, List.set_cons_zero, List.set_cons_succ]
        have u0 := kr.cell 0
        have uf0 := kr.frozen 0
        have u1 := kr.cell 1
        have uf1 := kr.frozen 1
        have u2 := kr.cell 2
        have uf2 := kr.frozen 2
        have u3 := kr.cell 3
        have uf3 := kr.frozen 3
        have u4 := kr.cell 4
        have uf4 := kr.frozen 4
        have u5 := kr.cell 5
        have uf5 := kr.frozen 5
        have u6 := kr.cell 6
        have uf6 := kr.frozen 6
        have u7 := kr.cell 7
        have uf7 := kr.frozen 7
        have u8 := kr.cell 8
        have uf8 := kr.frozen 8
        have u9 := kr.cell 9
        have uf9 := kr.frozen 9
        have u10 := kr.cell 10
        have uf10 := kr.frozen 10
        have u11 := kr.cell 11
        have uf11 := kr.frozen 11
        have u12 := kr.cell 12
        have uf12 := kr.frozen 12
        have u13 := kr.cell 13
        have uf13 := kr.frozen 13
        have u14 := kr.cell 14
        have uf14 := kr.frozen 14
        have ul := kr.lt
        simp only [List.getElem?_toArray, List.getElem?_cons_succ, List.getElem?_cons_zero] at u0 u1 u2 u3 u4 u5 u6 u7 u8 u9 u10 u11 u12 u13 u14
        clear kr
        refine wpF_next 10 rfl (by kernel_rfl) (fun K hK => ?_)
        go_simp
        obtain ⟨w7, hw7⟩ : ∃ w7, w7 = (((((((((((((((w5.setCell ⟨w1.heap.size, 0, none⟩ (.int .i64 g.vars)).setCell ⟨w1.heap.size, 1, none⟩ (.slice Aa na ca)).setCell ⟨w1.heap.size, 2, none⟩ (.int .i64 g.nodes)).setCell ⟨w1.heap.size, 3, none⟩ (.int .i64 g.start)).setCell ⟨w1.heap.size, 4, none⟩ (.int .i64 g.last)).setCell ⟨w1.heap.size, 5, none⟩ (.slice Ae ne ce)).setCell ⟨w1.heap.size, 6, none⟩ (.slice As ns cs)).setCell ⟨w1.heap.size, 7, none⟩ (.int .u8 0)).setCell ⟨w1.heap.size, 8, none⟩ (.int .u8 0)).setCell ⟨w1.heap.size, 9, none⟩ (.int .i64 0)).setCell ⟨w1.heap.size, 10, none⟩ (.int .i64 g.start)).setCell ⟨w1.heap.size, 11, none⟩ (.int .i64 0)).setCell ⟨w1.heap.size, 12, none⟩ (.int .i64 st)).setCell ⟨w1.heap.size, 13, none⟩ (.slice (some ⟨bv, 0, none⟩) g.vars.toNat g.vars.toNat)).setCell ⟨w1.heap.size, 14, none⟩ (.slice A g.arrays.length c)) := ⟨_, rfl⟩
        have hf7 : Fr (fun x => x = w1.heap.size) w5 w7 := by rw [hw7]; exact (Fr.own (Fr.own (Fr.own (Fr.own (Fr.own (Fr.own (Fr.own (Fr.own (Fr.own (Fr.own (Fr.own (Fr.own (Fr.own (Fr.own (Fr.own (Fr.refl _ _) _ _) _ _) _ _) _ _) _ _) _ _) _ _) _ _) _ _) _ _) _ _) _ _) _ _) _ _) _ _)
        rw [← hw7]
        have hf17 : Fr NoT w1 w7 := HF15.out.then hf7 fun i hi e => by have e : i = w1.heap.size := e; omega
        refine hK.out _ _ (HS.out w7 hf17) ?_
        clear hK K
        refine wpF_done (by kernel_rfl) ?_
        have k7 : Bk w7 w1.heap.size 57 #[.int .i64 g.vars, .slice Aa na ca, .int .i64 g.nodes, .int .i64 g.start, .int .i64 g.last, .slice Ae ne ce, .slice As ns cs, .int .u8 0, .int .u8 0, .int .i64 0, .int .i64 g.start, .int .i64 0, .int .i64 st, .slice (some ⟨bv, 0, none⟩) g.vars.toNat g.vars.toNat, .slice A g.arrays.length c] := by
          have := (((((((((((((((HKR5.out.set_ 0 (.int .i64 g.vars)).set_ 1 (.slice Aa na ca)).set_ 2 (.int .i64 g.nodes)).set_ 3 (.int .i64 g.start)).set_ 4 (.int .i64 g.last)).set_ 5 (.slice Ae ne ce)).set_ 6 (.slice As ns cs)).set_ 7 (.int .u8 0)).set_ 8 (.int .u8 0)).set_ 9 (.int .i64 0)).set_ 10 (.int .i64 g.start)).set_ 11 (.int .i64 0)).set_ 12 (.int .i64 st)).set_ 13 (.slice (some ⟨bv, 0, none⟩) g.vars.toNat g.vars.toNat)).set_ 14 (.slice A g.arrays.length c))
          rw [hw7]; simpa using this
        have HK7 := Lib.hid k7
        have HF7 := Lib.hid hf7
        have HF17 := Lib.hid hf17
        clear k7 hf17 hf7 hw7
        go_wp2_with fail
        go_meet
        refine ⟨w1.heap.size, bv, A, c, bs, rfl, Lib.hid ?_, Lib.hid HF17.out⟩
        have h61 : w1.heap.size < w6.heap.size := HKR.out.lt
        have hv5 := HST.out.vl
        have hst7 := HST.out.fr HF7.out (by show ¬ bv = w1.heap.size; omega) (fun b hb e => by have e : b = w1.heap.size := e; have := HST.out.lo2 b hb; omega) (fun b hb e => by have e : b = w1.heap.size := e; have := (HST.out.row.lt b hb).1; omega)
        refine run0_is HML.out.2.2.1 HNA.out HNE.out HNS.out ((HG.out.keep (Same.of_fr (HF02.out.trans HF17.out) (Nat.le_refl _) fun _ h => h.elim)).up (by omega)) ((HSC.out.keep (Same.of_fr (HF02.out.trans HF17.out) (Nat.le_refl _) fun _ h => h.elim)).up (by omega)) (hst7.lower (by omega)) HK7.out (Nat.le_refl _) ?_ ?_ ?_
        · omega
        · intro hm
          have := HST.out.lo2 _ hm
          omega
        · intro e
          have := (HST.out.row.lt _ e).1
          omega
    case rest =>
      obtain ⟨R, bv, A, cr, bs, rfl, hr0, hfx⟩ := hcut
      obtain ⟨c, hcg, hcR, hcL, hr0'⟩ : ∃ c : RW, c.g = g ∧ c.R = R ∧ c.L = w1.heap.size ∧ RnR 57 c wc (run0 g script st) As cs 0 0 0 0 := ⟨_, rfl, rfl, rfl, hr0.out⟩
      have HLOW := Lib.hid hr0'.low
      have hnT0 : ¬ c.T w.heap.size := fun h => by have := hr0'.low _ h; omega
      have hnT1 : ¬ c.T (w.heap.size + 1) := fun h => by have := hr0'.low _ h; omega
      have HKX0 := Lib.hid (HK0'.out.fr0 hfx.out)
      have HKX := Lib.hid (HK1'.out.fr0 hfx.out)
      have HFX := hfx
      have hnR1 : ¬ w.heap.size + 1 = R := fun e => hnT1 (by rw [e, ← hcR]; exact c.tR)
      have hnR2 : ¬ R = w.heap.size + 1 := fun e => hnR1 e.symm
      have HR0 := Lib.hid hr0'
      clear hr0 hr0'
      go_wp2_with fail
      go_loopw [] (fun wr => ∃ (s : Rs) (As' : Option Addr) (cs' : Nat), Hid (RnR 57 c wr s As' cs' 0 0 0 0) ∧ Hid (Fr c.T wc wr) ∧ s.left ≤ 65536 ∧ Hid (∀ en, Ends g s en → Ends g (run0 g script st) en)) (fun wr => measW g R wr)
      case atStart => exact ⟨run0 g script st, As, cs, HR0, Lib.hid (Fr.refl _ _), by simpa [run0] using hst, Lib.hid fun _ h => h⟩
      case round =>
        obtain ⟨s, As', cs', hr, hfr, hlf, hen⟩ := hrel
        have k0 := HKX0.out.fr hfr.out hnT0
        have c4 := k0.cell 4
        have c4l := k0.lt
        simp only [List.getElem?_toArray, List.getElem?_cons_succ, List.getElem?_cons_zero] at c4
        have q7 := hr.out.blk.cell 7
        have q8 := hr.out.blk.cell 8
        have q9 := hr.out.blk.cell 9
        have q10 := hr.out.blk.cell 10
        have q11 := hr.out.blk.cell 11
        have q12 := hr.out.blk.cell 12
        have q13 := hr.out.blk.cell 13
        have q14 := hr.out.blk.cell 14
        have ql := hr.out.blk.lt
        simp only [rnC, List.getElem?_toArray, List.getElem?_cons_succ, List.getElem?_cons_zero] at q7 q8 q9 q10 q11 q12 q13 q14
        rw [hcR] at q7 q8 q9 q10 q11 q12 q13 q14 ql
        have g7 := hr.out.blk.frozen 7
        rw [hcR] at g7
        by_cases hl : s.node = g.last
        · have hl' : (s.node != g.last) = false := by simp [hl]
          have hfv : Fr (fun b => b = R) wr (wr.setCell ⟨R, 7, none⟩ (.int .u8 1)) := Fr.own (Fr.refl _ _) _ _
          have HFV := Lib.hid (show Fr c.T wc (wr.setCell ⟨R, 7, none⟩ (.int .u8 1)) from hfr.out.trans (hfv.mono fun b _ e => by have e : b = R := e; rw [e, ← hcR]; exact c.tR))
          have HRF := Lib.hid (show RnR 57 c (wr.setCell ⟨R, 7, none⟩ (.int .u8 1)) s As' cs' 1 0 0 0 from by
            refine hr.out.own (by rw [hcR]; exact hfv) rfl rfl hr.out.sc ?_
            have := hr.out.blk.set_ 7 (.int .u8 1)
            rw [← hcR]
            simpa [rnC] using this)
          have HEN := Lib.hid (hen.out _ (Ends.done hl))
          have kS := HKX.out.fr HFV.out hnT1
          have v0 := kS.cell 0
          have vf0 := kS.frozen 0
          have v1 := kS.cell 1
          have vf1 := kS.frozen 1
          have v2 := kS.cell 2
          have vf2 := kS.frozen 2
          have v3 := kS.cell 3
          have vf3 := kS.frozen 3
          have v4 := kS.cell 4
          have vf4 := kS.frozen 4
          have v5 := kS.cell 5
          have vf5 := kS.frozen 5
          have v6 := kS.cell 6
          have vf6 := kS.frozen 6
          have v7 := kS.cell 7
          have vf7 := kS.frozen 7
          have vl := kS.lt
          simp only [List.getElem?_toArray, List.getElem?_cons_succ, List.getElem?_cons_zero] at v0 v1 v2 v3 v4 v5 v6 v7 vf0 vf1 vf2 vf3 vf4 vf5 vf6 vf7 vl
          obtain ⟨wf, hwf⟩ : ∃ wf, wf = (((((((((wr.setCell ⟨R, 7, none⟩ (.int .u8 1)).setCell ⟨w.heap.size + 1, 0, none⟩ (.int .u8 1)).setCell ⟨w.heap.size + 1, 1, none⟩ (.int .u8 0)).setCell ⟨w.heap.size + 1, 2, none⟩ (.int .i64 0)).setCell ⟨w.heap.size + 1, 3, none⟩ (.int .i64 s.node)).setCell ⟨w.heap.size + 1, 4, none⟩ (.int .i64 0)).setCell ⟨w.heap.size + 1, 5, none⟩ (.int .i64 s.left)).setCell ⟨w.heap.size + 1, 6, none⟩ (.slice (some ⟨c.bv, 0, none⟩) s.vs.length s.vs.length)).setCell ⟨w.heap.size + 1, 7, none⟩ (.slice c.Ar s.ls.length c.cr)) := ⟨_, rfl⟩
          have hff : Fr (fun b => b = w.heap.size + 1) (wr.setCell ⟨R, 7, none⟩ (.int .u8 1)) wf := by rw [hwf]; exact (Fr.own (Fr.own (Fr.own (Fr.own (Fr.own (Fr.own (Fr.own (Fr.own (Fr.refl _ _) _ _) _ _) _ _) _ _) _ _) _ _) _ _) _ _)
          have kf : Bk wf (w.heap.size + 1) 30 #[.int .u8 1, .int .u8 0, .int .i64 0, .int .i64 s.node, .int .i64 0, .int .i64 s.left, .slice (some ⟨c.bv, 0, none⟩) s.vs.length s.vs.length, .slice c.Ar s.ls.length c.cr] := by
            have := ((((((((kS.set_ 0 (.int .u8 1)).set_ 1 (.int .u8 0)).set_ 2 (.int .i64 0)).set_ 3 (.int .i64 s.node)).set_ 4 (.int .i64 0)).set_ 5 (.int .i64 s.left)).set_ 6 (.slice (some ⟨c.bv, 0, none⟩) s.vs.length s.vs.length)).set_ 7 (.slice c.Ar s.ls.length c.cr))
            rw [hwf]; simpa using this
          have hfw : Fr NoT w wf := ((HF02.out.trans HFX.out).then HFV.out fun i hi ht => absurd (HLOW.out i ht) (by have := HF02.out.size; omega)).then hff fun i hi e => by have e : i = w.heap.size + 1 := e; omega
          have hstF := HRF.out.sto.fr hff (fun e => by have e : c.bv = w.heap.size + 1 := e; have := HRF.out.sto.vl; omega) (fun b hb e => by have e : b = w.heap.size + 1 := e; have := HRF.out.sto.lo2 b hb; omega) (fun b hb e => by have e : b = w.heap.size + 1 := e; have := (HRF.out.sto.row.lt b hb).1; omega)
          have HPP := Lib.hid (show RunP g script st w (.returned (.tuple #[.agg #[.int .u8 1, .int .u8 0, .int .i64 0, .int .i64 s.node, .int .i64 0, .int .i64 s.left, .slice (some ⟨c.bv, 0, none⟩) s.vs.length s.vs.length, .slice c.Ar s.ls.length c.cr], .int .i64 0])) wf from ⟨hfw, by
            rw [if_pos HE.out]
            exact ⟨_, _, HEN.out, HRF.out.end_ hstF.stSl, rfl⟩⟩)
          have HKF := Lib.hid kf
          have HWF := Lib.hid hwf
          have hl2 : (s.node == g.last) = true := by simp [hl]
          clear kf hwf hff hfw hstF hl hfv v0 v1 v2 v3 v4 v5 v6 v7 vf0 vf1 vf2 vf3 vf4 vf5 vf6 vf7 vl
          have kW := HKX.out.fr hfr.out hnT1
          have v0 := kW.cell 0
          have vf0 := kW.frozen 0
          have v1 := kW.cell 1
          have vf1 := kW.frozen 1
          have v2 := kW.cell 2
          have vf2 := kW.frozen 2
          have v3 := kW.cell 3
          have vf3 := kW.frozen 3
          have v4 := kW.cell 4
          have vf4 := kW.frozen 4
          have v5 := kW.cell 5
          have vf5 := kW.frozen 5
          have v6 := kW.cell 6
          have vf6 := kW.frozen 6
          have v7 := kW.cell 7
          have vf7 := kW.frozen 7
          have vl := kW.lt
          simp only [List.getElem?_toArray, List.getElem?_cons_succ, List.getElem?_cons_zero] at v0 v1 v2 v3 v4 v5 v6 v7 vf0 vf1 vf2 vf3 vf4 vf5 vf6 vf7 vl
          clear kW
          clear kS
          go_wp2_with fail
          rw [← HWF.out]
          refine bodyPost_ret (results_cell_tmp (p := 6) (q := 7) (ty := 30) rfl _ _ (w.heap.size + 1) 30 _ (0, 0) _ rfl HKF.out Try.underlying30 rfl infoEnd) rfl ?_
          exact HPP.out
        · have hl' : (s.node != g.last) = true := by simpa using hl
          have hl2 : (s.node == g.last) = false := by simpa using hl
          have HST := Lib.hid (by have := rstep_any c wr s As' cs' hr.out (by rw [hcg]; exact HM.out) hlf; rw [hcR] at this; exact this : Calls Try.prog 15 #[.pointer (some ⟨R, 0, none⟩)] wr (StepP c s wr))
          have HL := Lib.hid hl
          clear hl g7
          go_wp2_with fail
          go_at_call 15
          refine HST.out.mono ?_
          rintro e w4 ⟨hf4, hd⟩
          rw [hcg] at hd
          cases hs : stepG g s with
          | inl t =>
            rw [hs] at hd
            obtain ⟨rfl, As2, cs2, ht⟩ := hd
            have HMS := Lib.hid (show measW g R w4 < measW g R wr from by
              have e1 := measW_is ht
              have e2 := measW_is hr.out
              rw [hcg, hcR] at e1 e2
              rw [e1, e2]
              exact step_meas HM.out hs)
            have HT := Lib.hid ht
            have HF4 := Lib.hid hf4
            have HS2 := Lib.hid hs
            clear hs ht hf4
            go_wp2_with fail
            go_roundw
            case rel => exact ⟨t, As2, cs2, HT, Lib.hid (hfr.out.trans HF4.out), Nat.le_trans (step_left_le HM.out HS2.out) hlf, Lib.hid fun en h => hen.out en (.go HL.out HS2.out h)⟩
            case measure => exact HMS.out
          | inr z =>
            rw [hs] at hd
            obtain ⟨rfl, As2, cs2, t, k, wq, at_, ed, hz, ht⟩ := hd
            have HEN := Lib.hid (show Ends g (run0 g script st) (t.stop k wq at_ ed) from hen.out _ (.stop HL.out (by rw [hs, hz])))
            have HRF := Lib.hid ht
            have HFV := Lib.hid (hfr.out.trans hf4)
            clear hs hz hf4
            have p7 := ht.blk.cell 7
            have p8 := ht.blk.cell 8
            have p9 := ht.blk.cell 9
            have p10 := ht.blk.cell 10
            have p11 := ht.blk.cell 11
            have p12 := ht.blk.cell 12
            have p13 := ht.blk.cell 13
            have p14 := ht.blk.cell 14
            have pl := ht.blk.lt
            simp only [rnC, List.getElem?_toArray, List.getElem?_cons_succ, List.getElem?_cons_zero] at p7 p8 p9 p10 p11 p12 p13 p14
            rw [hcR] at p7 p8 p9 p10 p11 p12 p13 p14 pl
            clear ht q7 q8 q9 q10 q11 q12 q13 q14 ql
            have kS := HKX.out.fr HFV.out hnT1
            have v0 := kS.cell 0
            have vf0 := kS.frozen 0
            have v1 := kS.cell 1
            have vf1 := kS.frozen 1
            have v2 := kS.cell 2
            have vf2 := kS.frozen 2
            have v3 := kS.cell 3
            have vf3 := kS.frozen 3
            have v4 := kS.cell 4
            have vf4 := kS.frozen 4
            have v5 := kS.cell 5
            have vf5 := kS.frozen 5
            have v6 := kS.cell 6
            have vf6 := kS.frozen 6
            have v7 := kS.cell 7
            have vf7 := kS.frozen 7
            have vl := kS.lt
            simp only [List.getElem?_toArray, List.getElem?_cons_succ, List.getElem?_cons_zero] at v0 v1 v2 v3 v4 v5 v6 v7 vf0 vf1 vf2 vf3 vf4 vf5 vf6 vf7 vl
            obtain ⟨wf, hwf⟩ : ∃ wf, wf = ((((((((w4.setCell ⟨w.heap.size + 1, 0, none⟩ (.int .u8 k)).setCell ⟨w.heap.size + 1, 1, none⟩ (.int .u8 wq)).setCell ⟨w.heap.size + 1, 2, none⟩ (.int .i64 at_)).setCell ⟨w.heap.size + 1, 3, none⟩ (.int .i64 t.node)).setCell ⟨w.heap.size + 1, 4, none⟩ (.int .i64 ed)).setCell ⟨w.heap.size + 1, 5, none⟩ (.int .i64 t.left)).setCell ⟨w.heap.size + 1, 6, none⟩ (.slice (some ⟨c.bv, 0, none⟩) t.vs.length t.vs.length)).setCell ⟨w.heap.size + 1, 7, none⟩ (.slice c.Ar t.ls.length c.cr)) := ⟨_, rfl⟩
            have hff : Fr (fun b => b = w.heap.size + 1) w4 wf := by rw [hwf]; exact (Fr.own (Fr.own (Fr.own (Fr.own (Fr.own (Fr.own (Fr.own (Fr.own (Fr.refl _ _) _ _) _ _) _ _) _ _) _ _) _ _) _ _) _ _)
            have kf : Bk wf (w.heap.size + 1) 30 #[.int .u8 k, .int .u8 wq, .int .i64 at_, .int .i64 t.node, .int .i64 ed, .int .i64 t.left, .slice (some ⟨c.bv, 0, none⟩) t.vs.length t.vs.length, .slice c.Ar t.ls.length c.cr] := by
              have := ((((((((kS.set_ 0 (.int .u8 k)).set_ 1 (.int .u8 wq)).set_ 2 (.int .i64 at_)).set_ 3 (.int .i64 t.node)).set_ 4 (.int .i64 ed)).set_ 5 (.int .i64 t.left)).set_ 6 (.slice (some ⟨c.bv, 0, none⟩) t.vs.length t.vs.length)).set_ 7 (.slice c.Ar t.ls.length c.cr))
              rw [hwf]; simpa using this
            have hfw : Fr NoT w wf := ((HF02.out.trans HFX.out).then HFV.out fun i hi ht => absurd (HLOW.out i ht) (by have := HF02.out.size; omega)).then hff fun i hi e => by have e : i = w.heap.size + 1 := e; omega
            have hstF := HRF.out.sto.fr hff (fun e => by have e : c.bv = w.heap.size + 1 := e; have := HRF.out.sto.vl; omega) (fun b hb e => by have e : b = w.heap.size + 1 := e; have := HRF.out.sto.lo2 b hb; omega) (fun b hb e => by have e : b = w.heap.size + 1 := e; have := (HRF.out.sto.row.lt b hb).1; omega)
            have HPP := Lib.hid (show RunP g script st w (.returned (.tuple #[.agg #[.int .u8 k, .int .u8 wq, .int .i64 at_, .int .i64 t.node, .int .i64 ed, .int .i64 t.left, .slice (some ⟨c.bv, 0, none⟩) t.vs.length t.vs.length, .slice c.Ar t.ls.length c.cr], .int .i64 0])) wf from ⟨hfw, by
              rw [if_pos HE.out]
              exact ⟨_, _, HEN.out, HRF.out.end_ hstF.stSl, rfl⟩⟩)
            have HKF := Lib.hid kf
            have HWF := Lib.hid hwf
            clear kf hwf hff hfw hstF kS
            go_wp2_with fail
            rw [← HWF.out]
            refine bodyPost_ret (results_cell_tmp (p := 6) (q := 7) (ty := 30) rfl _ _ (w.heap.size + 1) 30 _ (0, 0) _ rfl HKF.out Try.underlying30 rfl infoEnd) rfl ?_
            exact HPP.out
end Go.Proofs.Ytdflbaipbmkdgaa
