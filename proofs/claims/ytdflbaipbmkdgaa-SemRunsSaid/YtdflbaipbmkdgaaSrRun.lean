/-
  A run of ref14 in memory; ref14's ends. 
-/
import Derived.Test.YtdflbaipbmkdgaaSrSto
import Derived.Test.YtdflbaipbmkdgaaSrPlain
import Derived.Test.YtdflbaipbmkdgaaSvRHas
import Derived.Test.YtdflbaipbmkdgaaJnSv
namespace Go.Proofs.Ytdflbaipbmkdgaa
open Go.RowKit Go.Shelf
set_option linter.unusedVariables false
set_option linter.unusedSimpArgs false

/-- where a run lies: its graph, its block, its store -/
structure RW where
  g : Gr
  Aa : Option Addr
  ca : Nat
  Ae : Option Addr
  ce : Nat
  L : Nat
  R : Nat
  bv : Nat
  Ar : Option Addr
  cr : Nat
  bs : List Nat
/-- the blocks that turn -/
def RW.T (c : RW) : Nat → Prop := fun b => b = c.R ∨ b = c.bv ∨ b ∈ c.bs
/-- what its block holds -/
def rnC (c : RW) (s : Rs) (As : Option Addr) (cs : Nat) (k wr at_ ed : Int) : List Value :=
  [.int .i64 c.g.vars, .slice c.Aa c.g.arrays.length c.ca, .int .i64 c.g.nodes, .int .i64 c.g.start, .int .i64 c.g.last, .slice c.Ae c.g.edges.length c.ce, .slice As s.script.length cs,
   .int .u8 k, .int .u8 wr, .int .i64 at_, .int .i64 s.node, .int .i64 ed, .int .i64 s.left, .slice (some ⟨c.bv, 0, none⟩) s.vs.length s.vs.length, .slice c.Ar s.ls.length c.cr]
/-- A RUN IN MEMORY -/
structure RnR (ty : TypeId) (c : RW) (w : World) (s : Rs) (As : Option Addr) (cs : Nat) (k wr at_ ed : Int) : Prop where
  blk : Bk w c.R ty (rnC c s As cs k wr at_ ed).toArray
  sto : Sto w c.L s.vs s.ls c.bv c.Ar c.cr c.bs
  gr : GrSl w c.L c.g c.Aa c.ca c.Ae c.ce
  sc : IsSl w c.L s.script As cs
  rl : c.L ≤ c.R
  rv : c.R ≠ c.bv
  rb : c.R ∉ c.bs
  rr : (Value.slice c.Ar s.ls.length c.cr).ownBlock ≠ some c.R
  nv : (s.vs.length : Int) = c.g.vars
  na : s.ls.length = c.g.arrays.length
theorem Same.of_fr {T : Nat → Prop} {L : Nat} {w w' : World} (hf : Fr T w w') (hL : L ≤ w.heap.size) (hT : ∀ b, T b → L ≤ b) : Same L w w' := fun p hp => hf.cell (Nat.lt_of_lt_of_le hp hL) fun ht => absurd hp (Nat.not_lt.2 (hT _ ht))
theorem RnR.lt {ty : TypeId} {c : RW} {w : World} {s : Rs} {As : Option Addr} {cs : Nat} {k wr at_ ed : Int} (h : RnR ty c w s As cs k wr at_ ed) : c.L ≤ w.heap.size := Nat.le_trans h.rl (Nat.le_of_lt h.blk.lt)
theorem RnR.low {ty : TypeId} {c : RW} {w : World} {s : Rs} {As : Option Addr} {cs : Nat} {k wr at_ ed : Int} (h : RnR ty c w s As cs k wr at_ ed) : ∀ b, c.T b → c.L ≤ b := by
  rintro b (rfl | rfl | hb)
  · exact h.rl
  · exact h.sto.vl
  · obtain ⟨i, hi⟩ := List.getElem?_of_mem hb
    have hil := (List.getElem?_eq_some_iff.1 hi).1
    rw [h.sto.len] at hil
    exact (h.sto.each i b _ hi (List.getElem?_eq_getElem hil)).1
/-- what turns no block of it -/
theorem RnR.fr0 {ty : TypeId} {c : RW} {w w' : World} {s : Rs} {As : Option Addr} {cs : Nat} {k wr at_ ed : Int} (h : RnR ty c w s As cs k wr at_ ed) (hf : Fr NoT w w') : RnR ty c w' s As cs k wr at_ ed :=
  ⟨h.blk.fr0 hf, h.sto.fr0 hf, h.gr.keep (Same.of_fr hf h.lt fun _ h => h.elim), h.sc.keep (Same.of_fr hf h.lt fun _ h => h.elim), h.rl, h.rv, h.rb, h.rr, h.nv, h.na⟩
/-- its own block turns -/
theorem RnR.own {ty : TypeId} {c : RW} {w w' : World} {s : Rs} {As : Option Addr} {cs : Nat} {k wr at_ ed : Int} (h : RnR ty c w s As cs k wr at_ ed) (hf : Fr (fun b => b = c.R) w w')
    {s' : Rs} {As' : Option Addr} {cs' : Nat} {k' wr' at' ed' : Int} (hv : s'.vs = s.vs) (hl : s'.ls = s.ls) (hs : IsSl w c.L s'.script As' cs') (hb : Bk w' c.R ty (rnC c s' As' cs' k' wr' at' ed').toArray) : RnR ty c w' s' As' cs' k' wr' at' ed' := by
  have hlow : ∀ b, b = c.R → c.L ≤ b := fun b e => e ▸ h.rl
  refine ⟨hb, ?_, h.gr.keep (Same.of_fr hf h.lt hlow), hs.keep (Same.of_fr hf h.lt hlow), h.rl, h.rv, h.rb, by rw [hl]; exact h.rr, by rw [hv]; exact h.nv, by rw [hl]; exact h.na⟩
  rw [hv, hl]
  exact h.sto.fr hf (fun e => h.rv (by have e : c.bv = c.R := e; exact e.symm)) (fun b hb e => h.rb (by have e : b = c.R := e; exact e ▸ hb)) fun b e e' => h.rr (by have e' : b = c.R := e'; rw [e, e'])
/-- its store turns -/
theorem RnR.store {ty : TypeId} {c : RW} {w w' : World} {s : Rs} {As : Option Addr} {cs : Nat} {k wr at_ ed : Int} (h : RnR ty c w s As cs k wr at_ ed) {b : Nat} (hbT : b = c.bv ∨ b ∈ c.bs) (hf : Fr (fun x => x = b) w w')
    {s' : Rs} (hn : s'.node = s.node) (hsc : s'.script = s.script) (hlf : s'.left = s.left) (hv : s'.vs.length = s.vs.length) (hl : s'.ls.length = s.ls.length) (hs : Sto w' c.L s'.vs s'.ls c.bv c.Ar c.cr c.bs) : RnR ty c w' s' As cs k wr at_ ed := by
  have hbL : c.L ≤ b := h.low b (.inr hbT)
  have hlow : ∀ x, x = b → c.L ≤ x := fun x e => e ▸ hbL
  have hne : ¬ c.R = b := fun e => hbT.elim (fun e' => h.rv (e.trans e')) fun hm => h.rb (e ▸ hm)
  refine ⟨?_, hs, h.gr.keep (Same.of_fr hf h.lt hlow), ?_, h.rl, h.rv, h.rb, by rw [hl]; exact h.rr, by rw [hv]; exact h.nv, by rw [hl]; exact h.na⟩
  · have := h.blk.fr hf hne
    unfold rnC at this ⊢
    rw [hn, hsc, hlf, hv, hl]
    exact this
  · rw [hsc]; exact h.sc.keep (Same.of_fr hf h.lt hlow)
theorem RnR.below {ty : TypeId} {c : RW} {w : World} {s : Rs} {As : Option Addr} {cs : Nat} {k wr at_ ed : Int} (h : RnR ty c w s As cs k wr at_ ed) : ∀ b, c.T b → b < w.heap.size := by
  rintro b (rfl | rfl | hb)
  · exact h.blk.lt
  · exact h.sto.v.lt
  · obtain ⟨i, hi⟩ := List.getElem?_of_mem hb
    have hil := (List.getElem?_eq_some_iff.1 hi).1
    rw [h.sto.len] at hil
    exact (h.sto.each i b _ hi (List.getElem?_eq_getElem hil)).2.lt
/-- what turns only blocks that a world did not have in which it was a run already -/
theorem RnR.far {ty : TypeId} {c : RW} {w0 w w' : World} {s0 s : Rs} {As0 As : Option Addr} {cs0 cs : Nat} {a0 b0 d0 e0 k wr at_ ed : Int} (h0 : RnR ty c w0 s0 As0 cs0 a0 b0 d0 e0) (h : RnR ty c w s As cs k wr at_ ed)
    (hf : Fr (fun x => w0.heap.size ≤ x) w w') : RnR ty c w' s As cs k wr at_ ed := by
  have hT := h0.below
  have hlow : ∀ x, w0.heap.size ≤ x → c.L ≤ x := fun x hx => Nat.le_trans h0.lt hx
  refine ⟨h.blk.fr hf (Nat.not_le.2 (hT _ (.inl rfl))), h.sto.fr hf (Nat.not_le.2 (hT _ (.inr (.inl rfl)))) (fun b hb => Nat.not_le.2 (hT _ (.inr (.inr hb)))) (fun b hb => ?_), h.gr.keep (Same.of_fr hf h.lt hlow), h.sc.keep (Same.of_fr hf h.lt hlow), h.rl, h.rv, h.rb, h.rr, h.nv, h.na⟩
  have hl : s.ls.length = s0.ls.length := h.na.trans h0.na.symm
  rw [hl] at hb
  exact Nat.not_le.2 (h0.sto.row.lt b hb).2
theorem Fr.toT {c : RW} {w w' : World} {b : Nat} (h : Fr (fun x => x = b) w w') (hb : c.T b) : Fr c.T w w' := h.mono fun i _ e => by have e : i = b := e; exact e ▸ hb
theorem RW.tR (c : RW) : c.T c.R := .inl rfl

theorem results_cell_tmp {P : Program} {fn : Func} {p q : Tmp} {ty : TypeId} (h : fn.results = #[.cell p ty, .tmp q]) (tmps : Array Value) (w : World) (g : Nat) (t : TypeId) (cs : Array Value) (fr : Nat × Nat) (d : TypeDesc)
    (hp : tmps.getD p undef = .pointer (some ⟨g, 0, none⟩)) (hg : w.heap[g]? = some (.cells cs t fr))
    (hu : P.underlying ty = some d) (hd : (match d with | .struct _ | .array _ _ => true | _ => false) = true) (hi : (P.info? ty).map (·.size) = some cs.size) :
    (results fn tmps).run P w = .ok (.tuple #[.agg cs, tmps.getD q undef]) w := by
  have hp' : tmps[p]?.getD undef = .pointer (some ⟨g, 0, none⟩) := by simpa using hp
  simp [results, h, hp', asAddr, run_loadVar_row w g t ty cs fr d hg hu hd hi]
theorem infoTwo : (Try.prog.info? 84).map (·.size) = some 2 := by kernel_rfl
theorem Fr.then {T U : Nat → Prop} {a b c : World} (h : Fr T a b) (k : Fr U b c) (ht : ∀ i, i < a.heap.size → U i → T i) : Fr T a c :=
  ⟨k.os.trans h.os, k.tape.trans h.tape, k.output.trans h.output, Nat.le_trans h.size k.size, fun i hi hn => (k.block i (Nat.lt_of_lt_of_le hi h.size) fun hu => hn (ht i hi hu)).trans (h.block i hi hn)⟩
/-- THE CONTRACT of ref14's ends -/
def EndsP (c : RW) (s : Rs) (As : Option Addr) (cs : Nat) (k wr at_ ed : Int) (w : World) (e : Ending) (w' : World) : Prop := e = .returned (.bool false) ∧ RnR 57 c w' s As cs k wr at_ ed ∧ Fr (fun b => b = c.R) w w'
set_option maxRecDepth 100000 in
theorem ends_any (c : RW) (w : World) (s : Rs) (As : Option Addr) (cs : Nat) (k0 wr0 at0 ed0 k wr at_ ed : Int) (h : RnR 57 c w s As cs k0 wr0 at0 ed0) :
    Calls Try.prog 38 #[.pointer (some ⟨c.R, 0, none⟩), .int .u8 k, .int .u8 wr, .int .i64 at_, .int .i64 ed] w (EndsP c s As cs k wr at_ ed w) := by
  have q7 := h.blk.cell 7
  have q8 := h.blk.cell 8
  have q9 := h.blk.cell 9
  have q11 := h.blk.cell 11
  have g7 := h.blk.frozen 7
  have g8 := h.blk.frozen 8
  have g9 := h.blk.frozen 9
  have g11 := h.blk.frozen 11
  simp only [rnC, List.getElem?_toArray, List.getElem?_cons_succ, List.getElem?_cons_zero] at q7 q8 q9 q11
  have hR : c.R < w.heap.size := h.blk.lt
  have hk : EndsP c s As cs k wr at_ ed w (.returned (.bool false)) ((((w.setCell ⟨c.R, 7, none⟩ (.int .u8 k)).setCell ⟨c.R, 8, none⟩ (.int .u8 wr)).setCell ⟨c.R, 9, none⟩ (.int .i64 at_)).setCell ⟨c.R, 11, none⟩ (.int .i64 ed)) := by
    have hf : Fr (fun b => b = c.R) w ((((w.setCell ⟨c.R, 7, none⟩ (.int .u8 k)).setCell ⟨c.R, 8, none⟩ (.int .u8 wr)).setCell ⟨c.R, 9, none⟩ (.int .i64 at_)).setCell ⟨c.R, 11, none⟩ (.int .i64 ed)) := Fr.own (Fr.own (Fr.own (Fr.own (Fr.refl _ _) _ _) _ _) _ _) _ _
    refine ⟨rfl, h.own hf rfl rfl h.sc ?_, hf⟩
    have := (((h.blk.set_ 7 (.int .u8 k)).set_ 8 (.int .u8 wr)).set_ 9 (.int .i64 at_)).set_ 11 (.int .i64 ed)
    simpa [rnC] using this
  have HK := Lib.hid hk
  obtain ⟨R, hRR⟩ : ∃ R, R = c.R := ⟨_, rfl⟩
  rw [← hRR] at HK q7 q8 q9 q11 g7 g8 g9 g11 hR ⊢
  clear hk h hRR
  go_enter Try.func38, Try.ntmps38
  go_wp2_with fail
  go_ret
  exact HK.out
end Go.Proofs.Ytdflbaipbmkdgaa
