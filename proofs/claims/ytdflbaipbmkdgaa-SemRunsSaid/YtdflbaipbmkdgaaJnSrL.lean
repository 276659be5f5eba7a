/-
  Runs come to one end; what both runs answer is the same.
-/
import Derived.Test.YtdflbaipbmkdgaaJnSrR
import Derived.Test.YtdflbaipbmkdgaaJnSrS
import Derived.Laws.AppendOwnNone
import Derived.Test.YtdflbaipbmkdgaaJnSmR
import Derived.Test.YtdflbaipbmkdgaaFlGreat
namespace Go.Proofs.Ytdflbaipbmkdgaa
open Go.RowKit Go.Shelf
set_option linter.unusedVariables false
set_option linter.unusedSimpArgs false

theorem Ends.uniq {g : Gr} {s : Rs} {en : En} (h : Ends g s en) : ∀ en', Ends g s en' → en' = en := by
  induction h with
  | done hl => exact fun en' h' => h'.at_last hl
  | stop hl he => exact fun en' h' => h'.stops hl he
  | go hl he _ ih => exact fun en' h' => ih en' (h'.goes hl he)
/-- two ends as data -/
def enEq (a b : En) : Bool := eq6 a.kind b.kind a.wrong b.wrong a.at_ b.at_ a.node b.node a.edge b.edge a.left b.left (a.vs == b.vs) (a.ls == b.ls)
theorem enEq_refl (a : En) : enEq a a = true := by simp [enEq, eq6]
def zeroEn : En := ⟨0, 0, 0, 0, 0, 0, [], []⟩
theorem zero_is (w : World) : EndIs w zeroEn zeroEnd := by
  refine ⟨none, 0, none, 0, rfl, ⟨⟨by simp [zeroEn], by decide, fun h => by simp [zeroEn] at h⟩, ⟨by simp [zeroEn], by decide, fun h => by simp [zeroEn] at h⟩⟩⟩
/-- what a run answers: an end, and a number -/
theorem RunP.out {g : Gr} {script : List Int} {steps : Int} {w w' : World} {e : Ending} (h : RunP g script steps w e w') : ∃ en v, e = .returned (.tuple #[v, .int .i64 (errNo g script.length steps)]) ∧ EndIs w' en v ∧ Fr NoT w w' ∧ (errNo g script.length steps = 0 → Ends g (run0 g script steps) en) ∧ (errNo g script.length steps ≠ 0 → en = zeroEn) := by
  obtain ⟨hf, h⟩ := h
  by_cases h0 : errNo g script.length steps = 0
  · rw [if_pos h0] at h
    obtain ⟨en, v, he, hv, e1⟩ := h
    exact ⟨en, v, by rw [e1, h0], hv, hf, fun _ => he, fun h => absurd h0 h⟩
  · rw [if_neg h0] at h
    exact ⟨zeroEn, zeroEnd, h, zero_is w', hf, fun h => absurd h h0, fun _ => rfl⟩
theorem EndIs.keep {w w' : World} {en : En} {v : Value} (h : EndIs w en v) (hf : Fr NoT w w') : EndIs w' en v := by
  obtain ⟨Av, cv, Aa, ca, e, hs⟩ := h
  have h1 := hs.keep (Same.of_fr hf (Nat.le_refl _) fun _ h => h.elim)
  exact ⟨Av, cv, Aa, ca, e, ⟨h1.vars.up hf.size, ⟨h1.arrs.1, h1.arrs.2.1, fun hp => by
    obtain ⟨b, o, e', hb, hh⟩ := h1.arrs.2.2 hp
    exact ⟨b, o, e', Nat.lt_of_lt_of_le hb hf.size, fun i l hi => by obtain ⟨A, c, hc, hsl⟩ := hh i l hi; exact ⟨A, c, hc, hsl.up hf.size⟩⟩⟩⟩⟩
theorem rsame_ends {w : World} {a b : En} {va vb : Value} (h : EndIs w a va) (h' : EndIs w b vb) : Calls Try.prog 7 #[va, vb] w (BoolPost (enEq a b) w) := by
  obtain ⟨Av, cv, Aa, ca, rfl, hs⟩ := h
  obtain ⟨Av', cv', Aa', ca', rfl, hs'⟩ := h'
  exact rsame_any _ _ _ _ _ _ _ _ _ _ _ _ a.vs b.vs a.ls b.ls Av Av' Aa Aa' cv cv' ca ca' w.heap.size w (Nat.le_refl _) hs hs'
theorem same_ends {w : World} {a b : En} {va vb : Value} (h : EndIs w a va) (h' : EndIs w b vb) : Calls Try.prog 9 #[va, vb] w (BoolPost (enEq a b) w) := by
  obtain ⟨Av, cv, Aa, ca, rfl, hs⟩ := h
  obtain ⟨Av', cv', Aa', ca', rfl, hs'⟩ := h'
  exact same_any _ _ _ _ _ _ _ _ _ _ _ _ a.vs b.vs a.ls b.ls Av Av' Aa Aa' cv cv' ca ca' w.heap.size w (Nat.le_refl _) hs hs'
theorem isSl_of_int {w : World} {base : Nat} {v : Value} {l : List Int} (h : w.ownsRow base 3 1 v l.length (intL l)) (h64 : ∀ n ∈ l, in64 n) : ∃ A c, v = .slice A l.length c ∧ IsSl w w.heap.size l A c := by
  have hown := h
  obtain ⟨hl, h | ⟨g, cap, cur, rfl, hb, hg, hn, hc, hs, ht⟩⟩ := h
  · obtain ⟨rfl, h0⟩ := h
    have e0 : l = [] := List.length_eq_zero_iff.1 h0
    subst e0
    exact ⟨none, 0, rfl, by simp, by decide, by simp⟩
  · have hgl : g < w.heap.size := (Array.getElem?_eq_some_iff.1 hg).1
    refine ⟨some ⟨g, 0, none⟩, cap, rfl, hn, by simpa [maxLen] using hc, fun _ => ⟨g, 0, rfl, hgl, fun i n hi => ?_⟩⟩
    have hil := (List.getElem?_eq_some_iff.1 hi).1
    have hc := hown.cellAt i (by omega)
    exact ⟨by rw [Nat.zero_add, hc, intL, List.getElem?_map, hi]; rfl, h64 n (List.mem_of_getElem? hi)⟩
end Go.Proofs.Ytdflbaipbmkdgaa

/-
  append(nil, script...): a copy.
-/
namespace Go.Proofs.Ytdflbaipbmkdgaa
open Go.RowKit Go.Shelf
set_option linter.unusedVariables false
set_option linter.unusedSimpArgs false

theorem wpList_copy {ops : Array Oper} {rest : List Oper} {o : Oper} {a : Act} {Q : Exit → Act → World → Prop} {w W0 : World} (hgd : o.guard = none) (s x : Operand) (t : TypeId)
    (ho : o.op = .call { callee := .builtin .append, args := #[s, x], argTypes := #[t, t] }) (ht : Try.prog.underlying t = some (.slice 3)) (hf : Fr NoT W0 w) {As : Option Addr} {cs ns : Nat} {script : List Int} (hn : ns = script.length)
    (hs : a.eval s = .slice none 0 0) (hx : a.eval x = .slice As ns cs) (hsl : IsSl W0 W0.heap.size script As cs) (hnil : As = none → cs = 0) (hlen : ns ≤ 10000)
    (h : ∀ Ac cc w3, Fr NoT w w3 → IsSl w3 w3.heap.size script Ac cc → wpList Try.prog ops Q rest (a.put o.dst (.slice Ac ns cc)) w3) : wpList Try.prog ops Q (o :: rest) a w := by
  obtain ⟨i0, hi0, hz0, hz1, hz2⟩ := info_parts infoInt
  cases As with
  | none =>
    have h0 : script.length = 0 := by
      rcases Nat.eq_zero_or_pos script.length with h0 | h0
      · exact h0
      · obtain ⟨b, o, e, _⟩ := hsl.2.2 h0; cases e
    rw [hnil rfl, hn, h0] at hx
    refine wpList_append_own_none hgd s x t ho w.heap.size 3 i0 1 ht hi0 (.slice none 0 0) 0 [] hs (World.ownsRow_nil _ _ _ _) hx ?_
    have := h none 0 w (Fr.refl _ _) ⟨by omega, by decide, fun h => by omega⟩
    rw [hn, h0] at this
    exact this
  | some ad =>
    refine wpList_append_own _ hgd s x t ho w.heap.size 3 i0 (.int .i64 0) 1 8 ht hi0 hz0 hz1 hz2 rfl (by decide) (.slice none 0 0) 0 [] hs (World.ownsRow_nil _ _ _ _) ad ns cs (intL script) hx (by simp [intL]; exact hn.symm) ?_ ?_ ?_ ?_ (Nat.le_refl _) ?_
    · intro j u hj
      rw [intL, List.getElem?_map] at hj
      cases hsj : script[j]? with
      | none => rw [hsj] at hj; simp at hj
      | some n =>
        rw [hsj] at hj
        simp only [Option.map_some, Option.some.injEq] at hj
        subst hj
        have hjl := (List.getElem?_eq_some_iff.1 hsj).1
        obtain ⟨bs, os, e, hat⟩ := hsl.2.2 (by omega)
        cases e
        have e1 : (⟨bs, os, none⟩ : Addr).add j = ⟨bs, os + j, none⟩ := by unfold Addr.add; split <;> simp_all
        rw [e1]
        exact (hf.cell (p := ⟨bs, os + j, none⟩) hat.1 id).trans (hat.2 j n hsj).1
    · intro u hu; simp only [intL, List.mem_map] at hu; obtain ⟨n, _, rfl⟩ := hu; rfl
    · unfold maxLen; omega
    · omega
    · intro v' w3 hown hgrow _
      have hown' : w3.ownsRow w.heap.size 3 1 v' script.length (intL script) := by
        rw [← hn]
        simpa using hown
      obtain ⟨Ac, cc, rfl, hsc⟩ := isSl_of_int hown' (fun n hnn => (is64_sl hsl n hnn |> fun h => by unfold is64 at h; unfold in64; omega))
      have := h Ac cc w3 (Fr.grown hgrow fun g' e' _ => by simp [Value.ownBlock] at e') hsc
      rw [← hn]
      exact this
end Go.Proofs.Ytdflbaipbmkdgaa

/-
  The law of runs: the walk.
-/
namespace Go.Proofs.Ytdflbaipbmkdgaa
open Go.RowKit Go.Shelf
set_option linter.unusedVariables false
set_option linter.unusedSimpArgs false

/-- eight cells of a block, in every world behind -/
theorem bk8 {w0 w : World} {b : Nat} {t : TypeId} {c0 c1 c2 c3 c4 c5 c6 c7 : Value} (h : Bk w0 b t #[c0, c1, c2, c3, c4, c5, c6, c7]) (hf : Fr NoT w0 w) (z : HeldW (Fr NoT w)) :
    z.w.cell? ⟨b, 0, none⟩ = some c0 ∧ z.w.cell? ⟨b, 1, none⟩ = some c1 ∧ z.w.cell? ⟨b, 2, none⟩ = some c2 ∧ z.w.cell? ⟨b, 3, none⟩ = some c3 ∧ z.w.cell? ⟨b, 4, none⟩ = some c4 ∧ z.w.cell? ⟨b, 5, none⟩ = some c5 ∧ z.w.cell? ⟨b, 6, none⟩ = some c6 ∧ z.w.cell? ⟨b, 7, none⟩ = some c7 := by
  have k := (h.fr0 hf).fr0 z.h
  exact ⟨k.cell 0, k.cell 1, k.cell 2, k.cell 3, k.cell 4, k.cell 5, k.cell 6, k.cell 7⟩
theorem held_bool {f : FuncId} {args : Array Value} {w7 : World} {b : Bool} (h : ∀ W, Fr NoT w7 W → Calls Try.prog f args W (BoolPost b W)) : ∀ W, Fr NoT w7 W → Calls Try.prog f args W fun e w' => e = .returned (.bool b) ∧ Fr NoT w7 w' :=
  fun W hf => (h W hf).mono fun e w' h2 => ⟨h2.1, hf.trans (Fr.below h2.2)⟩

set_option maxRecDepth 100000 in
set_option maxHeartbeats 3200000 in
theorem law_runs (g : Gr) (Aa Ae As : Option Addr) (ca ce cs : Nat) (script : List Int) (steps : Int) (en : En) (ve : Value) (w : World) (hg : GrSl w w.heap.size g Aa ca Ae ce) (hs : IsSl w w.heap.size script As cs) (hnil : As = none → cs = 0) (he : EndIs w en ve) :
    Calls Try.prog 3 #[grV g.vars Aa g.arrays.length ca g.nodes g.start g.last Ae g.edges.length ce, .slice As script.length cs, .int .i64 steps, ve] w (BoolPost true w) := by
  have hla := Nat.le_trans hg.arrays.1 hg.arrays.2.1
  have hls := Nat.le_trans hs.1 hs.2.1
  have hgr := fun (W : World) (hf : Fr NoT w W) => great_any g.vars Aa g.arrays.length ca g.nodes g.start g.last g.edges Ae ce w.heap.size W hf.size (hg.edges.keep (Same.of_fr hf (Nat.le_refl _) fun _ h => h.elim)) hla
  have HE := Lib.hid he
  obtain ⟨Av, cv, Al, cl, rfl, hst⟩ := he
  unfold grV at hgr ⊢
  obtain ⟨na, hna⟩ : ∃ n, n = g.arrays.length := ⟨_, rfl⟩
  obtain ⟨ne, hne⟩ : ∃ n, n = g.edges.length := ⟨_, rfl⟩
  obtain ⟨ns, hns⟩ : ∃ n, n = script.length := ⟨_, rfl⟩
  rw [← hna, ← hne] at hgr
  rw [← hns] at hls
  rw [← hna, ← hne, ← hns]
  have HGR := Lib.hid hgr
  have HG := Lib.hid hg
  have HS := Lib.hid hs
  have HNIL := Lib.hid hnil
  have HNA := Lib.hid hna
  have HNE := Lib.hid hne
  have HNS := Lib.hid hns
  obtain ⟨v1, hv1⟩ : ∃ n, n = en.vs.length := ⟨_, rfl⟩
  obtain ⟨v2, hv2⟩ : ∃ n, n = en.ls.length := ⟨_, rfl⟩
  rw [← hv1, ← hv2] at HE ⊢
  obtain ⟨w1, hw1⟩ : ∃ w1, w1 = (w.alloc (.cells #[.int .i64 g.vars, .slice Aa na ca, .int .i64 g.nodes, .int .i64 g.start, .int .i64 g.last, .slice Ae ne ce] 25)).alloc (.cells #[.int .u8 en.kind, .int .u8 en.wrong, .int .i64 en.at_, .int .i64 en.node, .int .i64 en.edge, .int .i64 en.left, .slice Av v1 cv, .slice Al v2 cl] 30) := ⟨_, rfl⟩
  have hf1 : Fr NoT w w1 := by rw [hw1]; exact ((Fr.refl _ _).alloc _).alloc _
  have kk := bk_alloc2 w #[.int .i64 g.vars, .slice Aa na ca, .int .i64 g.nodes, .int .i64 g.start, .int .i64 g.last, .slice Ae ne ce] #[.int .u8 en.kind, .int .u8 en.wrong, .int .i64 en.at_, .int .i64 en.node, .int .i64 en.edge, .int .i64 en.left, .slice Av v1 cv, .slice Al v2 cl] 25 30
  rw [← hw1] at kk
  have HK0 := Lib.hid kk.1
  have HK1 := Lib.hid kk.2
  have HW1 := Lib.hid hw1
  have HF1 := Lib.hid hf1
  clear hg hs hgr hna hne hns hv1 hv2 hst hw1 hf1 hla kk hnil
  go_enter Try.func3, Try.ntmps3
  go_wp2_with fail
  rw [← HW1.out]
  go_at_call 4
  refine (HGR.out w1 HF1.out).mono ?_
  rintro _ w2 ⟨b, rfl, hb2⟩
  have HF12 := Lib.hid (Fr.below hb2 : Fr NoT w1 w2)
  have HF2 := Lib.hid (HF1.out.trans (Fr.below hb2))
  clear hb2
  cases b with
  | true =>
    go_wp2_with fail
    go_ret
    exact ⟨rfl, HF2.out.plain⟩
  | false =>
    by_cases h1 : 10000 < ns
    · have h1' : (10000 : Int) < (ns : Int) := by omega
      go_wp2_with fail
      go_ret
      exact ⟨rfl, HF2.out.plain⟩
    have h1' : ¬ (10000 : Int) < (ns : Int) := by omega
    by_cases h2 : 2000 < steps ∧ steps ≤ 65536
    · obtain ⟨h3, h4⟩ := h2
      go_wp2_with fail
      go_ret
      exact ⟨rfl, HF2.out.plain⟩
    have h2a : 2000 < steps → ¬ steps ≤ 65536 := fun h3 h4 => h2 ⟨h3, h4⟩
    have hn10 : ns ≤ 10000 := by omega
    have HN10 := Lib.hid hn10
    clear h2 hn10
    by_cases h3 : 2000 < steps
    case pos =>
      have h4 := h2a h3
      clear h2a
      go_wp2_with (first | (at_builtin; refine wpList_copy rfl _ _ 22 rfl rfl HF2.out HNS.out rfl rfl HS.out HNIL.out HN10.out ?_))
      intro Ac cc w3 hf23 hsc
      have HF3 := Lib.hid (HF2.out.trans hf23)
      have HSC := Lib.hid hsc
      have hf13 : Fr NoT w1 w3 := HF12.out.trans hf23
      have HF13 := Lib.hid hf13
      have k0 := HK0.out.fr0 hf13
      have g0 := k0.cell 0
      have g1 := k0.cell 1
      have g2 := k0.cell 2
      have g3 := k0.cell 3
      have g4 := k0.cell 4
      have g5 := k0.cell 5
      have gl := k0.lt
      simp only [List.getElem?_toArray, List.getElem?_cons_succ, List.getElem?_cons_zero] at g0 g1 g2 g3 g4 g5
      clear k0 hf13 hf23 hsc
      have hrun := mrun_any g Aa Ae Ac ca ce cc script steps w3 ((HG.out.keep (Same.of_fr HF3.out (Nat.le_refl _) fun _ h => h.elim)).up HF3.out.size) HSC.out
      unfold grV at hrun
      rw [← HNA.out, ← HNE.out, ← HNS.out] at hrun
      have HRUN := Lib.hid hrun
      clear hrun
      go_wp2_with fail
      go_at_call 5
      refine HRUN.out.mono ?_
      rintro e4 w4 h4'
      obtain ⟨en1, va, rfl, hen1, hf34, hE1, hZ1⟩ := h4'.out
      obtain ⟨A1, c1, A2, c2, rfl, hs1⟩ := id hen1
      obtain ⟨w5, hw5⟩ : ∃ w5, w5 = w4.alloc (.cells #[.int .u8 en1.kind, .int .u8 en1.wrong, .int .i64 en1.at_, .int .i64 en1.node, .int .i64 en1.edge, .int .i64 en1.left, .slice A1 en1.vs.length c1, .slice A2 en1.ls.length c2] 30) := ⟨_, rfl⟩
      have hf35 : Fr NoT w3 w5 := by rw [hw5]; exact hf34.alloc _
      have hf45 : Fr NoT w4 w5 := by rw [hw5]; exact (Fr.refl _ _).alloc _
      have k5 : Bk w5 w4.heap.size 30 #[.int .u8 en1.kind, .int .u8 en1.wrong, .int .i64 en1.at_, .int .i64 en1.node, .int .i64 en1.edge, .int .i64 en1.left, .slice A1 en1.vs.length c1, .slice A2 en1.ls.length c2] := by rw [hw5]; exact Bk.new _ _ _
      have HF5 := Lib.hid (HF3.out.trans hf35)
      have hrun2 := rrun_any g Aa Ae As ca ce cs script steps w5 ((HG.out.keep (Same.of_fr HF5.out (Nat.le_refl _) fun _ h => h.elim)).up HF5.out.size) ((HS.out.keep (Same.of_fr HF5.out (Nat.le_refl _) fun _ h => h.elim)).up HF5.out.size)
      unfold grV at hrun2
      rw [← HNA.out, ← HNE.out, ← HNS.out] at hrun2
      have HRUN2 := Lib.hid hrun2
      have g0' := (hf34.cell (p := ⟨w.heap.size, 0, none⟩) gl id).trans g0
      have g1' := (hf34.cell (p := ⟨w.heap.size, 1, none⟩) gl id).trans g1
      have g2' := (hf34.cell (p := ⟨w.heap.size, 2, none⟩) gl id).trans g2
      have g3' := (hf34.cell (p := ⟨w.heap.size, 3, none⟩) gl id).trans g3
      have g4' := (hf34.cell (p := ⟨w.heap.size, 4, none⟩) gl id).trans g4
      have g5' := (hf34.cell (p := ⟨w.heap.size, 5, none⟩) gl id).trans g5
      have gl' := hf34.low gl
      have HW5 := Lib.hid hw5
      have HF35 := Lib.hid hf35
      have HN1 := Lib.hid (hen1.keep hf45)
      have HK5 := Lib.hid k5
      have HE1 := Lib.hid hE1
      have HZ1 := Lib.hid hZ1
      clear hrun2 hw5 hf35 hen1 hs1 hf45 hf34 k5 hE1 hZ1 h4'
      go_wp2_with fail
      rw [← HW5.out]
      go_at_call 6
      refine HRUN2.out.mono ?_
      rintro e6 w6 h6
      obtain ⟨en2, vb, rfl, hen2, hf56, hE2, hZ2⟩ := h6.out
      have heq : en2 = en1 := by
        by_cases h0 : errNo g script.length steps = 0
        · exact (HE1.out h0).uniq _ (hE2 h0)
        · rw [HZ1.out h0, hZ2 h0]
      subst heq
      obtain ⟨A3, c3, A4, c4, rfl, hs2⟩ := id hen2
      obtain ⟨w7, hw7⟩ : ∃ w7, w7 = w6.alloc (.cells #[.int .u8 en2.kind, .int .u8 en2.wrong, .int .i64 en2.at_, .int .i64 en2.node, .int .i64 en2.edge, .int .i64 en2.left, .slice A3 en2.vs.length c3, .slice A4 en2.ls.length c4] 30) := ⟨_, rfl⟩
      have hf67 : Fr NoT w6 w7 := by rw [hw7]; exact (Fr.refl _ _).alloc _
      have k7 : Bk w7 w6.heap.size 30 #[.int .u8 en2.kind, .int .u8 en2.wrong, .int .i64 en2.at_, .int .i64 en2.node, .int .i64 en2.edge, .int .i64 en2.left, .slice A3 en2.vs.length c3, .slice A4 en2.ls.length c4] := by rw [hw7]; exact Bk.new _ _ _
      have hf57 := hf56.trans hf67
      have hf37 := HF35.out.trans hf57
      have HF7 := Lib.hid (HF3.out.trans hf37)
      have z10 := fun z => bk8 HK5.out hf57 z
      have z12 := fun z => bk8 k7 (Fr.refl _ _) z
      have z7 := fun z => bk8 HK1.out (HF13.out.trans hf37) z
      have r := fun z => (z10 z).1
      have hb := HN1.out.keep hf57
      have hc := hen2.keep hf67
      have hd := HE.out.keep HF7.out
      have C1 := Lib.hid (held_bool fun W hf => (enEq_refl en2) ▸ rsame_ends (hb.keep hf) (hc.keep hf))
      have C2 := Lib.hid (held_bool fun W hf => same_ends (hb.keep hf) (hd.keep hf))
      have C3 := Lib.hid (held_bool fun W hf => rsame_ends (hc.keep hf) (hd.keep hf))
      have C4 := Lib.hid (held_bool fun W hf => (enEq_refl en2) ▸ same_ends (hb.keep hf) (hc.keep hf))
      have hi1 := (HSC.out.keep (Same.of_fr hf37 (Nat.le_refl _) fun _ h => h.elim)).up hf37.size
      have hi2 := (HS.out.keep (Same.of_fr HF7.out (Nat.le_refl _) fun _ h => h.elim)).up HF7.out.size
      have hints : ∀ W, Fr NoT w7 W → Calls Try.prog 8 #[.slice Ac ns cc, .slice As ns cs] W fun e w' => e = .returned (.bool true) ∧ Fr NoT w7 w' := fun W hf => by
        have := rints_any script script Ac As cc cs W w7.heap.size (hi1.keep (Same.of_fr hf (Nat.le_refl _) fun _ h => h.elim)) (hi2.keep (Same.of_fr hf (Nat.le_refl _) fun _ h => h.elim))
        rw [← HNS.out] at this
        refine this.mono fun e w' h2 => ?_
        obtain ⟨q, rfl⟩ := h2.2
        exact ⟨by rw [h2.1]; simp, hf.drewN q⟩
      have C5 := Lib.hid hints
      have hS : Fr NoT w7 w7.drew := (Fr.refl _ _).drew
      have hnon : Nonempty (HeldW (Fr NoT w7)) := ⟨⟨_, hS⟩⟩
      have HW7 := Lib.hid hw7
      clear hs2 hw7 hf56 hen2 h6 hE2 hZ2 hf67 k7 hf57 hf37 hb hc hd hi1 hi2 hints r
      go_wp2_with fail
      rw [← HW7.out]
      have a0 := fun z => (z10 z).1
      have a1 := fun z => (z10 z).2.1
      have a2 := fun z => (z10 z).2.2.1
      have a3 := fun z => (z10 z).2.2.2.1
      have a4 := fun z => (z10 z).2.2.2.2.1
      have a5 := fun z => (z10 z).2.2.2.2.2.1
      have a6 := fun z => (z10 z).2.2.2.2.2.2.1
      have a7 := fun z => (z10 z).2.2.2.2.2.2.2
      have b0 := fun z => (z12 z).1
      have b1 := fun z => (z12 z).2.1
      have b2 := fun z => (z12 z).2.2.1
      have b3 := fun z => (z12 z).2.2.2.1
      have b4 := fun z => (z12 z).2.2.2.2.1
      have b5 := fun z => (z12 z).2.2.2.2.2.1
      have b6 := fun z => (z12 z).2.2.2.2.2.2.1
      have b7 := fun z => (z12 z).2.2.2.2.2.2.2
      have d0 := fun z => (z7 z).1
      have d1 := fun z => (z7 z).2.1
      have d2 := fun z => (z7 z).2.2.1
      have d3 := fun z => (z7 z).2.2.2.1
      have d4 := fun z => (z7 z).2.2.2.2.1
      have d5 := fun z => (z7 z).2.2.2.2.2.1
      have d6 := fun z => (z7 z).2.2.2.2.2.2.1
      have d7 := fun z => (z7 z).2.2.2.2.2.2.2
      clear z10 z12 z7
      refine wp_region_held (Fr NoT w7) hS (by kernel_rfl) (by kernel_rfl) ?_
      repeat (go_big_quiet_step (first | (go_at_call 7; with_reducible first | exact held_call C1.out | exact held_call C3.out) | (go_at_call 8; with_reducible exact held_call C5.out) | (go_at_call 9; with_reducible first | exact held_call C2.out | exact held_call C4.out)))
      refine wpQuiet_nil ?_
      intro _ hw'
      obtain ⟨z, rfl⟩ := hw'
      go_wp2_with fail
      go_ret
      exact ⟨by simp, (HF7.out.trans z.h).plain⟩
    case neg =>
      clear h2a
      go_wp2_with (first | (at_builtin; refine wpList_copy rfl _ _ 22 rfl rfl HF2.out HNS.out rfl rfl HS.out HNIL.out HN10.out ?_))
      intro Ac cc w3 hf23 hsc
      have HF3 := Lib.hid (HF2.out.trans hf23)
      have HSC := Lib.hid hsc
      have hf13 : Fr NoT w1 w3 := HF12.out.trans hf23
      have HF13 := Lib.hid hf13
      have k0 := HK0.out.fr0 hf13
      have g0 := k0.cell 0
      have g1 := k0.cell 1
      have g2 := k0.cell 2
      have g3 := k0.cell 3
      have g4 := k0.cell 4
      have g5 := k0.cell 5
      have gl := k0.lt
      simp only [List.getElem?_toArray, List.getElem?_cons_succ, List.getElem?_cons_zero] at g0 g1 g2 g3 g4 g5
      clear k0 hf13 hf23 hsc
      have hrun := mrun_any g Aa Ae Ac ca ce cc script steps w3 ((HG.out.keep (Same.of_fr HF3.out (Nat.le_refl _) fun _ h => h.elim)).up HF3.out.size) HSC.out
      unfold grV at hrun
      rw [← HNA.out, ← HNE.out, ← HNS.out] at hrun
      have HRUN := Lib.hid hrun
      clear hrun
      go_wp2_with fail
      go_at_call 5
      refine HRUN.out.mono ?_
      rintro e4 w4 h4'
      obtain ⟨en1, va, rfl, hen1, hf34, hE1, hZ1⟩ := h4'.out
      obtain ⟨A1, c1, A2, c2, rfl, hs1⟩ := id hen1
      obtain ⟨w5, hw5⟩ : ∃ w5, w5 = w4.alloc (.cells #[.int .u8 en1.kind, .int .u8 en1.wrong, .int .i64 en1.at_, .int .i64 en1.node, .int .i64 en1.edge, .int .i64 en1.left, .slice A1 en1.vs.length c1, .slice A2 en1.ls.length c2] 30) := ⟨_, rfl⟩
      have hf35 : Fr NoT w3 w5 := by rw [hw5]; exact hf34.alloc _
      have hf45 : Fr NoT w4 w5 := by rw [hw5]; exact (Fr.refl _ _).alloc _
      have k5 : Bk w5 w4.heap.size 30 #[.int .u8 en1.kind, .int .u8 en1.wrong, .int .i64 en1.at_, .int .i64 en1.node, .int .i64 en1.edge, .int .i64 en1.left, .slice A1 en1.vs.length c1, .slice A2 en1.ls.length c2] := by rw [hw5]; exact Bk.new _ _ _
      have HF5 := Lib.hid (HF3.out.trans hf35)
      have hrun2 := rrun_any g Aa Ae As ca ce cs script steps w5 ((HG.out.keep (Same.of_fr HF5.out (Nat.le_refl _) fun _ h => h.elim)).up HF5.out.size) ((HS.out.keep (Same.of_fr HF5.out (Nat.le_refl _) fun _ h => h.elim)).up HF5.out.size)
      unfold grV at hrun2
      rw [← HNA.out, ← HNE.out, ← HNS.out] at hrun2
      have HRUN2 := Lib.hid hrun2
      have g0' := (hf34.cell (p := ⟨w.heap.size, 0, none⟩) gl id).trans g0
      have g1' := (hf34.cell (p := ⟨w.heap.size, 1, none⟩) gl id).trans g1
      have g2' := (hf34.cell (p := ⟨w.heap.size, 2, none⟩) gl id).trans g2
      have g3' := (hf34.cell (p := ⟨w.heap.size, 3, none⟩) gl id).trans g3
      have g4' := (hf34.cell (p := ⟨w.heap.size, 4, none⟩) gl id).trans g4
      have g5' := (hf34.cell (p := ⟨w.heap.size, 5, none⟩) gl id).trans g5
      have gl' := hf34.low gl
      have HW5 := Lib.hid hw5
      have HF35 := Lib.hid hf35
      have HN1 := Lib.hid (hen1.keep hf45)
      have HK5 := Lib.hid k5
      have HE1 := Lib.hid hE1
      have HZ1 := Lib.hid hZ1
      clear hrun2 hw5 hf35 hen1 hs1 hf45 hf34 k5 hE1 hZ1 h4'
      go_wp2_with fail
      rw [← HW5.out]
      go_at_call 6
      refine HRUN2.out.mono ?_
      rintro e6 w6 h6
      obtain ⟨en2, vb, rfl, hen2, hf56, hE2, hZ2⟩ := h6.out
      have heq : en2 = en1 := by
        by_cases h0 : errNo g script.length steps = 0
        · exact (HE1.out h0).uniq _ (hE2 h0)
        · rw [HZ1.out h0, hZ2 h0]
      subst heq
      obtain ⟨A3, c3, A4, c4, rfl, hs2⟩ := id hen2
      obtain ⟨w7, hw7⟩ : ∃ w7, w7 = w6.alloc (.cells #[.int .u8 en2.kind, .int .u8 en2.wrong, .int .i64 en2.at_, .int .i64 en2.node, .int .i64 en2.edge, .int .i64 en2.left, .slice A3 en2.vs.length c3, .slice A4 en2.ls.length c4] 30) := ⟨_, rfl⟩
      have hf67 : Fr NoT w6 w7 := by rw [hw7]; exact (Fr.refl _ _).alloc _
      have k7 : Bk w7 w6.heap.size 30 #[.int .u8 en2.kind, .int .u8 en2.wrong, .int .i64 en2.at_, .int .i64 en2.node, .int .i64 en2.edge, .int .i64 en2.left, .slice A3 en2.vs.length c3, .slice A4 en2.ls.length c4] := by rw [hw7]; exact Bk.new _ _ _
      have hf57 := hf56.trans hf67
      have hf37 := HF35.out.trans hf57
      have HF7 := Lib.hid (HF3.out.trans hf37)
      have z10 := fun z => bk8 HK5.out hf57 z
      have z12 := fun z => bk8 k7 (Fr.refl _ _) z
      have z7 := fun z => bk8 HK1.out (HF13.out.trans hf37) z
      have r := fun z => (z10 z).1
      have hb := HN1.out.keep hf57
      have hc := hen2.keep hf67
      have hd := HE.out.keep HF7.out
      have C1 := Lib.hid (held_bool fun W hf => (enEq_refl en2) ▸ rsame_ends (hb.keep hf) (hc.keep hf))
      have C2 := Lib.hid (held_bool fun W hf => same_ends (hb.keep hf) (hd.keep hf))
      have C3 := Lib.hid (held_bool fun W hf => rsame_ends (hc.keep hf) (hd.keep hf))
      have C4 := Lib.hid (held_bool fun W hf => (enEq_refl en2) ▸ same_ends (hb.keep hf) (hc.keep hf))
      have hi1 := (HSC.out.keep (Same.of_fr hf37 (Nat.le_refl _) fun _ h => h.elim)).up hf37.size
      have hi2 := (HS.out.keep (Same.of_fr HF7.out (Nat.le_refl _) fun _ h => h.elim)).up HF7.out.size
      have hints : ∀ W, Fr NoT w7 W → Calls Try.prog 8 #[.slice Ac ns cc, .slice As ns cs] W fun e w' => e = .returned (.bool true) ∧ Fr NoT w7 w' := fun W hf => by
        have := rints_any script script Ac As cc cs W w7.heap.size (hi1.keep (Same.of_fr hf (Nat.le_refl _) fun _ h => h.elim)) (hi2.keep (Same.of_fr hf (Nat.le_refl _) fun _ h => h.elim))
        rw [← HNS.out] at this
        refine this.mono fun e w' h2 => ?_
        obtain ⟨q, rfl⟩ := h2.2
        exact ⟨by rw [h2.1]; simp, hf.drewN q⟩
      have C5 := Lib.hid hints
      have hS : Fr NoT w7 w7.drew := (Fr.refl _ _).drew
      have hnon : Nonempty (HeldW (Fr NoT w7)) := ⟨⟨_, hS⟩⟩
      have HW7 := Lib.hid hw7
      clear hs2 hw7 hf56 hen2 h6 hE2 hZ2 hf67 k7 hf57 hf37 hb hc hd hi1 hi2 hints r
      go_wp2_with fail
      rw [← HW7.out]
      have a0 := fun z => (z10 z).1
      have a1 := fun z => (z10 z).2.1
      have a2 := fun z => (z10 z).2.2.1
      have a3 := fun z => (z10 z).2.2.2.1
      have a4 := fun z => (z10 z).2.2.2.2.1
      have a5 := fun z => (z10 z).2.2.2.2.2.1
      have a6 := fun z => (z10 z).2.2.2.2.2.2.1
      have a7 := fun z => (z10 z).2.2.2.2.2.2.2
      have b0 := fun z => (z12 z).1
      have b1 := fun z => (z12 z).2.1
      have b2 := fun z => (z12 z).2.2.1
      have b3 := fun z => (z12 z).2.2.2.1
      have b4 := fun z => (z12 z).2.2.2.2.1
      have b5 := fun z => (z12 z).2.2.2.2.2.1
      have b6 := fun z => (z12 z).2.2.2.2.2.2.1
      have b7 := fun z => (z12 z).2.2.2.2.2.2.2
      have d0 := fun z => (z7 z).1
      have d1 := fun z => (z7 z).2.1
      have d2 := fun z => (z7 z).2.2.1
      have d3 := fun z => (z7 z).2.2.2.1
      have d4 := fun z => (z7 z).2.2.2.2.1
      have d5 := fun z => (z7 z).2.2.2.2.2.1
      have d6 := fun z => (z7 z).2.2.2.2.2.2.1
      have d7 := fun z => (z7 z).2.2.2.2.2.2.2
      clear z10 z12 z7
      refine wp_region_held (Fr NoT w7) hS (by kernel_rfl) (by kernel_rfl) ?_
      repeat (go_big_quiet_step (first | (go_at_call 7; with_reducible first | exact held_call C1.out | exact held_call C3.out) | (go_at_call 8; with_reducible exact held_call C5.out) | (go_at_call 9; with_reducible first | exact held_call C2.out | exact held_call C4.out)))
      refine wpQuiet_nil ?_
      intro _ hw'
      obtain ⟨z, rfl⟩ := hw'
      go_wp2_with fail
      go_ret
      exact ⟨by simp, (HF7.out.trans z.h).plain⟩
end Go.Proofs.Ytdflbaipbmkdgaa
