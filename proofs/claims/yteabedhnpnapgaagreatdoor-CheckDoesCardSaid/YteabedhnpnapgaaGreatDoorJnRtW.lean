/-
  A row of one-cell values put behind nothing, and one more behind it.
-/
import Derived.Test.YteabedhnpnapgaaGreatDoorRtStmt
import Derived.Test.YteabedhnpnapgaaGreatDoorRwApp
import Derived.Deep.AppendLies
namespace Go.Proofs.YteabedhnpnapgaaGreatDoor
open Go.RowKit Go.Shelf
set_option linter.unusedVariables false
set_option linter.unusedSimpArgs false

theorem Fr.back0 {a b c : World} (h : Fr NoT a b) (k : Fr (fun x => a.heap.size ≤ x) b c) : Fr NoT a c :=
  ⟨k.os.trans h.os, k.tape.trans h.tape, k.output.trans h.output, Nat.le_trans h.size k.size, fun i hi _ => (k.block i (Nat.lt_of_lt_of_le hi h.size) (by omega)).trans (h.block i hi id)⟩
theorem dbl_app {w : World} {xs : List Value} {A : Option Addr} {c : Nat} (h : RwR w xs A c) (h1 : ∀ u ∈ xs, u.oneCell' = true) (x : Value) (hx1 : x.oneCell' = true) (t e : TypeId) (i : TypeInfo) (z : Value) (B : Nat) (ht : Tryz.prog.underlying t = some (.slice e)) (hi : Tryz.prog.info? e = some i) (hz : i.zero = some z) (hs : i.size = 1) (hB : i.bytes = B) (hzs : z.cells.size = 1) (hB16 : B ≤ 16) (hn : xs.length ≤ 1000) (t1 t2 : TypeId) :
    ∃ v1 w1 g cap w2, (Builtin.append_ #[t, t] t1 #[.slice none 0 0, .slice A xs.length c]).run Tryz.prog w = .ok v1 w1 ∧ (Builtin.append_ #[t, t] t2 #[v1, .slice (some ⟨w1.heap.size, 0, none⟩) 1 1]).run Tryz.prog (w1.alloc (.cells #[x] e)) = .ok (.slice (some ⟨g, 0, none⟩) (xs.length + 1) cap) w2 ∧
      Fr NoT w w2 ∧ RwR w2 (xs ++ [x]) (some ⟨g, 0, none⟩) cap ∧ w.heap.size ≤ g := by
  have hm : xs.length ≤ 9223372036854775807 := by omega
  have first : ∃ v1 w1, (Builtin.append_ #[t, t] t1 #[.slice none 0 0, .slice A xs.length c]).run Tryz.prog w = .ok v1 w1 ∧ w1.ownsRow w.heap.size e 1 v1 xs.length xs ∧ Fr NoT w w1 := by
    by_cases h0 : 0 < xs.length
    · obtain ⟨b, rfl, hb, hat⟩ := h.2.2 h0
      obtain ⟨v', w', hr, ho, hg, _⟩ := run_append_own (P := Tryz.prog) w w.heap.size t t1 e i z 1 B ht hi hz hs hB hzs (by decide) (.slice none 0 0) 0 [] (World.ownsRow_nil _ _ _ _) ⟨b, 0, none⟩ xs.length c xs (by simp)
        (fun j u hj => by
          have e : (⟨b, 0, none⟩ : Addr).add j = ⟨b, j, none⟩ := by unfold Addr.add; split <;> simp_all
          rw [e]; exact hat j u hj) h1 (by unfold maxLen; omega) (by have := Nat.mul_le_mul hn hB16; simp only [Nat.zero_add]; omega) (Nat.le_refl _)
      exact ⟨v', w', hr, by simpa using ho, Fr.grown hg fun g e _ => by simp [Value.ownBlock] at e⟩
    · have hxn : xs = [] := by cases xs with | nil => rfl | cons => simp at h0
      subst hxn
      cases A with
      | some a =>
        obtain ⟨v', w', hr, ho, hg, _⟩ := run_append_own (P := Tryz.prog) w w.heap.size t t1 e i z 1 B ht hi hz hs hB hzs (by decide) (.slice none 0 0) 0 [] (World.ownsRow_nil _ _ _ _) a 0 c [] rfl (fun j u hj => by simp at hj) (fun u hu => by simp at hu) (by decide) (by simp) (Nat.le_refl _)
        exact ⟨v', w', hr, ho, Fr.grown hg fun g e _ => by simp [Value.ownBlock] at e⟩
      | none =>
        refine ⟨.slice none 0 0, w, ?_, World.ownsRow_nil _ _ _ _, Fr.refl _ _⟩
        simp [Builtin.append_, run_underlying ht, sizeOf, typeInfo, hi, Builtin.lenOf, Builtin.firstCells]
  obtain ⟨v1, w1, hr1, ho1, hf1⟩ := first
  have hk := Bk.new w1 e #[x]
  have hfa : Fr NoT w1 (w1.alloc (.cells #[x] e)) := (Fr.refl _ _).alloc _
  obtain ⟨v', w', hr, ho2, hg, _⟩ := run_append_own (P := Tryz.prog) (w1.alloc (.cells #[x] e)) w.heap.size t t2 e i z 1 B ht hi hz hs hB hzs (by decide) v1 xs.length xs (ho1.alloc _) ⟨w1.heap.size, 0, none⟩ 1 1 [x] rfl
    (fun j u hj => by
      have := hk.cell j
      have e : (⟨w1.heap.size, 0, none⟩ : Addr).add j = ⟨w1.heap.size, j, none⟩ := by unfold Addr.add; split <;> simp_all
      rw [e, this]; simpa using hj) (fun u hu => by simp at hu; rw [hu]; exact hx1) (by unfold maxLen; omega) (by have := Nat.mul_le_mul (show xs.length + 1 ≤ 1001 by omega) hB16; omega) (Nat.le_trans hf1.size hfa.size)
  obtain ⟨g, cap, rfl, hg1, hg2⟩ := ho2.form (by omega)
  have hcap : xs.length + 1 ≤ cap ∧ cap ≤ 9223372036854775807 := by
    rcases ho2.2 with ⟨h, _⟩ | ⟨g', cap', cur, h, _, _, h3, h4, _⟩
    · simp at h
    · simp only [Value.slice.injEq, Option.some.injEq] at h
      obtain ⟨_, _, rfl⟩ := h
      exact ⟨h3, by simpa [maxLen] using h4⟩
  have hf2 : Fr (fun b => w.heap.size ≤ b) (w1.alloc (.cells #[x] e)) w' := Fr.grown hg fun g' e _ => (ho1.lt g' e).1
  refine ⟨v1, w1, g, cap, w', hr1, hr, Fr.back0 (hf1.trans hfa) hf2, ⟨by simpa using hcap.1, hcap.2, fun _ => ⟨g, rfl, hg2, fun j u hj => ?_⟩⟩, hg1⟩
  have hj2 : j < (xs.length + 1) * 1 := by
    have h1 := (List.getElem?_eq_some_iff.1 hj).1
    simp at h1
    omega
  rw [ho2.cellAt j hj2]
  exact hj
end Go.Proofs.YteabedhnpnapgaaGreatDoor

/-
  ref11: with.
-/
namespace Go.Proofs.YteabedhnpnapgaaGreatDoor
open Go.RowKit Go.Shelf
set_option linter.unusedVariables false
set_option linter.unusedSimpArgs false

theorem infoStr0 : (Tryz.prog.info? 9).map (fun i => (i.zero, i.size, i.bytes)) = some (some (.string ⟨#[]⟩), 1, 16) := by kernel_rfl
theorem infoInt0 : (Tryz.prog.info? 3).map (fun i => (i.zero, i.size, i.bytes)) = some (some (.int .i64 0), 1, 8) := by kernel_rfl
theorem infoWd : (Tryz.prog.info? 63).map (·.size) = some 3 := by kernel_rfl
theorem RwR.keepT {w w' : World} {T : Nat → Prop} {xs : List Value} {g c : Nat} (h : RwR w xs (some ⟨g, 0, none⟩) c) (hf : Fr T w w') (hg : ¬ T g) : RwR w' xs (some ⟨g, 0, none⟩) c :=
  ⟨h.1, h.2.1, fun h0 => by
    obtain ⟨b, e, hb, hc⟩ := h.2.2 h0
    simp only [Option.some.injEq, Addr.mk.injEq, and_true] at e
    subst e
    exact ⟨g, rfl, Nat.lt_of_lt_of_le hb hf.size, fun i u hi => (hf.cell (p := ⟨g, i, none⟩) hb hg).trans (hc i u hi)⟩⟩
/-- what `with` answers: new rows -/
def WithP (ws : Wl) (x : ByteArray × Int × Int) (W : World) (e : Ending) (w' : World) : Prop := ∃ g1 g2 g3 c1 c2 c3, e = .returned (wdV (ws ++ [x]) (some ⟨g1, 0, none⟩) (some ⟨g2, 0, none⟩) (some ⟨g3, 0, none⟩) c1 c2 c3) ∧ WdR w' (ws ++ [x]) (some ⟨g1, 0, none⟩) (some ⟨g2, 0, none⟩) (some ⟨g3, 0, none⟩) c1 c2 c3 ∧ (W.heap.size ≤ g1 ∧ W.heap.size ≤ g2 ∧ W.heap.size ≤ g3) ∧ Fr NoT W w'
set_option maxRecDepth 100000 in
set_option maxHeartbeats 3200000 in
theorem rwith_any (ws : Wl) (nm : ByteArray) (kind many : Int) (w : World) (An Ak Am : Option Addr) (cn ck cm : Nat) (hx : WdR w ws An Ak Am cn ck cm) (hn : ws.length ≤ 1000) :
    Calls Tryz.prog 48 #[wdV ws An Ak Am cn ck cm, .string nm, .int .i64 kind, .int .i64 many] w (WithP ws (nm, kind, many) w) := by
  obtain ⟨iS, hiS, hzS, hsS, hbS⟩ := info_parts infoStr0
  obtain ⟨iI, hiI, hzI, hsI, hbI⟩ := info_parts infoInt0
  have hl : ws.length ≤ 9223372036854775807 := by omega
  -- the boxes
  obtain ⟨w3, hw3⟩ : ∃ w3, w3 = ((w.alloc (.cells #[.slice An ws.length cn, .slice Ak ws.length ck, .slice Am ws.length cm] 63)).alloc (.cells #[.slice none 0 0, .slice none 0 0, .slice none 0 0] 63)).alloc (.cells #[.slice none 0 0, .slice none 0 0, .slice none 0 0] 63) := ⟨_, rfl⟩
  have hf3 : Fr NoT w w3 := by rw [hw3]; exact (((Fr.refl _ _).alloc _).alloc _).alloc _
  have k4 : Bk w3 w.heap.size 63 #[.slice An ws.length cn, .slice Ak ws.length ck, .slice Am ws.length cm] := by
    rw [hw3]; exact (Bk.new _ _ _).fr0 (((Fr.refl _ _).alloc _).alloc _)
  have k8 : Bk w3 (w.heap.size + 1) 63 #[.slice none 0 0, .slice none 0 0, .slice none 0 0] := by
    rw [hw3]
    have := (Bk.new (w.alloc (.cells #[.slice An ws.length cn, .slice Ak ws.length ck, .slice Am ws.length cm] 63)) 63 #[.slice none 0 0, .slice none 0 0, .slice none 0 0]).fr0 ((Fr.refl NoT _).alloc (.cells #[.slice none 0 0, .slice none 0 0, .slice none 0 0] 63))
    simpa using this
  have k9 : Bk w3 (w.heap.size + 1 + 1) 63 #[.slice none 0 0, .slice none 0 0, .slice none 0 0] := by
    rw [hw3]
    have := Bk.new ((w.alloc (.cells #[.slice An ws.length cn, .slice Ak ws.length ck, .slice Am ws.length cm] 63)).alloc (.cells #[.slice none 0 0, .slice none 0 0, .slice none 0 0] 63)) 63 #[.slice none 0 0, .slice none 0 0, .slice none 0 0]
    simpa using this
  -- names
  have hnS : ∀ u ∈ ws.map (fun x : ByteArray × Int × Int => Value.string x.1), u.oneCell' = true := by intro u hu; simp only [List.mem_map] at hu; obtain ⟨y, _, rfl⟩ := hu; rfl
  have hnK : ∀ u ∈ ws.map (fun x : ByteArray × Int × Int => Value.int .i64 x.2.1), u.oneCell' = true := by intro u hu; simp only [List.mem_map] at hu; obtain ⟨y, _, rfl⟩ := hu; rfl
  have hnM : ∀ u ∈ ws.map (fun x : ByteArray × Int × Int => Value.int .i64 x.2.2), u.oneCell' = true := by intro u hu; simp only [List.mem_map] at hu; obtain ⟨y, _, rfl⟩ := hu; rfl
  obtain ⟨v1, wa, g1, c1, w5, hr1, hr2, hf5, hrow1, hg1⟩ := dbl_app (hx.names.keep hf3) hnS (.string nm) rfl 60 9 iS _ 16 Tryz.underlying60 hiS hzS hsS hbS rfl (by decide) (by simpa using hn) 60 60
  rw [List.length_map] at hr1 hr2
  have k4a := k4.fr0 hf5
  have k8a := k8.fr0 hf5
  have k9a := k9.fr0 hf5
  have hf5' := hf3.trans hf5
  obtain ⟨w6, hw6⟩ : ∃ y, y = w5.setCell ⟨w.heap.size + 1 + 1, 0, none⟩ (.slice (some ⟨g1, 0, none⟩) (ws.length + 1) c1) := ⟨_, rfl⟩
  have hf6 : Fr NoT w w6 := by rw [hw6]; exact Fr.high hf5' (by omega) 0 _
  have ft6 : Fr (fun b => b = w.heap.size + 1 ∨ b = w.heap.size + 1 + 1) w5 w6 := by rw [hw6]; exact Fr.setCell (Fr.refl _ _) (.inl (.inr rfl)) _
  have k4b := k4a.far (p := ⟨w.heap.size + 1 + 1, 0, none⟩) (by simp; omega) (.slice (some ⟨g1, 0, none⟩) (ws.length + 1) c1)
  rw [← hw6] at k4b
  have k8b := k8a.far (p := ⟨w.heap.size + 1 + 1, 0, none⟩) (by simp) (.slice (some ⟨g1, 0, none⟩) (ws.length + 1) c1)
  rw [← hw6] at k8b
  have k9b := k9a.set_ 0 (.slice (some ⟨g1, 0, none⟩) (ws.length + 1) c1)
  rw [← hw6] at k9b
  -- kinds
  obtain ⟨v2, wb, g2, c2, w8, hr3, hr4, hf8, hrow2, hg2⟩ := dbl_app (hx.kinds.keep hf6) hnK (.int .i64 kind) rfl 61 3 iI _ 8 Tryz.underlying61 hiI hzI hsI hbI rfl (by decide) (by simpa using hn) 61 61
  rw [List.length_map] at hr3 hr4
  have k4c := k4b.fr0 hf8
  have k8c := k8b.fr0 hf8
  have k9c := k9b.fr0 hf8
  have hf8' := hf6.trans hf8
  obtain ⟨w9, hw9⟩ : ∃ y, y = w8.setCell ⟨w.heap.size + 1 + 1, 1, none⟩ (.slice (some ⟨g2, 0, none⟩) (ws.length + 1) c2) := ⟨_, rfl⟩
  have hf9 : Fr NoT w w9 := by rw [hw9]; exact Fr.high hf8' (by omega) 1 _
  have ft9 : Fr (fun b => b = w.heap.size + 1 ∨ b = w.heap.size + 1 + 1) w8 w9 := by rw [hw9]; exact Fr.setCell (Fr.refl _ _) (.inl (.inr rfl)) _
  have k4d := k4c.far (p := ⟨w.heap.size + 1 + 1, 1, none⟩) (by simp; omega) (.slice (some ⟨g2, 0, none⟩) (ws.length + 1) c2)
  rw [← hw9] at k4d
  have k8d := k8c.far (p := ⟨w.heap.size + 1 + 1, 1, none⟩) (by simp) (.slice (some ⟨g2, 0, none⟩) (ws.length + 1) c2)
  rw [← hw9] at k8d
  have k9d := k9c.set_ 1 (.slice (some ⟨g2, 0, none⟩) (ws.length + 1) c2)
  rw [← hw9] at k9d
  -- how many
  obtain ⟨v3, wc, g3, c3, w11, hr5, hr6, hf11, hrow3, hg3⟩ := dbl_app (hx.many.keep hf9) hnM (.int .i64 many) rfl 61 3 iI _ 8 Tryz.underlying61 hiI hzI hsI hbI rfl (by decide) (by simpa using hn) 61 61
  rw [List.length_map] at hr5 hr6
  have k8e := k8d.fr0 hf11
  have k9e := k9d.fr0 hf11
  have hf11' := hf9.trans hf11
  have ft : Fr (fun b => b = w.heap.size + 1 ∨ b = w.heap.size + 1 + 1) w11 ((((w11.setCell ⟨w.heap.size + 1 + 1, 2, none⟩ (.slice (some ⟨g3, 0, none⟩) (ws.length + 1) c3)).setCell ⟨w.heap.size + 1, 0, none⟩ (.slice (some ⟨g1, 0, none⟩) (ws.length + 1) c1)).setCell ⟨w.heap.size + 1, 1, none⟩ (.slice (some ⟨g2, 0, none⟩) (ws.length + 1) c2)).setCell ⟨w.heap.size + 1, 2, none⟩ (.slice (some ⟨g3, 0, none⟩) (ws.length + 1) c3)) :=
    Fr.setCell (Fr.setCell (Fr.setCell (Fr.setCell (Fr.refl _ _) (.inl (.inr rfl)) _) (.inl (.inl rfl)) _) (.inl (.inl rfl)) _) (.inl (.inl rfl)) _
  have hfF : Fr NoT w ((((w11.setCell ⟨w.heap.size + 1 + 1, 2, none⟩ (.slice (some ⟨g3, 0, none⟩) (ws.length + 1) c3)).setCell ⟨w.heap.size + 1, 0, none⟩ (.slice (some ⟨g1, 0, none⟩) (ws.length + 1) c1)).setCell ⟨w.heap.size + 1, 1, none⟩ (.slice (some ⟨g2, 0, none⟩) (ws.length + 1) c2)).setCell ⟨w.heap.size + 1, 2, none⟩ (.slice (some ⟨g3, 0, none⟩) (ws.length + 1) c3)) :=
    Fr.high (Fr.high (Fr.high (Fr.high hf11' (by omega) _ _) (by omega) _ _) (by omega) _ _) (by omega) _ _
  have hs3 : w3.heap.size = w.heap.size + 1 + 1 + 1 := by rw [hw3]; simp
  have hs6 : w3.heap.size ≤ w6.heap.size := Nat.le_trans hf5.size ft6.size
  have hs9 : w3.heap.size ≤ w9.heap.size := Nat.le_trans hs6 (Nat.le_trans hf8.size ft9.size)
  have HOUT := Lib.hid (show WdR _ (ws ++ [(nm, kind, many)]) (some ⟨g1, 0, none⟩) (some ⟨g2, 0, none⟩) (some ⟨g3, 0, none⟩) c1 c2 c3 from
    ⟨by rw [List.map_append]; exact (((((hrow1.keepT ft6 (by omega)).keep hf8).keepT ft9 (by omega)).keep hf11).keepT ft (by omega)), by rw [List.map_append]; exact (((hrow2.keepT ft9 (by omega)).keep hf11).keepT ft (by omega)), by rw [List.map_append]; exact hrow3.keepT ft (by omega)⟩)
  have HFF := Lib.hid hfF
  have HG := Lib.hid (show w.heap.size ≤ g1 ∧ w.heap.size ≤ g2 ∧ w.heap.size ≤ g3 from ⟨by omega, by omega, by omega⟩)
  have k8F := ((((k8e.far (p := ⟨w.heap.size + 1 + 1, 2, none⟩) (by simp) (.slice (some ⟨g3, 0, none⟩) (ws.length + 1) c3)).set_ 0 (.slice (some ⟨g1, 0, none⟩) (ws.length + 1) c1)).set_ 1 (.slice (some ⟨g2, 0, none⟩) (ws.length + 1) c2)).set_ 2 (.slice (some ⟨g3, 0, none⟩) (ws.length + 1) c3))
  simp only [List.setIfInBounds_toArray, List.set_cons_zero, List.set_cons_succ] at k8F
  have HK8 := Lib.hid k8F
  have y0 := k9a.cell 0
  have y1 := k9a.frozen 0
  have y2 := k9a.lt
  have z0 := k9c.cell 1
  have z1 := k9c.frozen 1
  have z2 := k9c.lt
  have x0 := k9e.cell 0
  have x1 := k9e.cell 1
  have x2 := k9e.cell 2
  have x3 := k9e.frozen 2
  have x4 := k9e.lt
  have u0 := k8e.cell 0
  have u1 := k8e.cell 1
  have u2 := k8e.cell 2
  have u3 := k8e.frozen 0
  have u4 := k8e.frozen 1
  have u5 := k8e.frozen 2
  have u6 := k8e.lt
  have t1 := k4a.cell 1
  have t2 := k4c.cell 2
  have t3 := k4a.lt
  have t4 := k4c.lt
  simp only [List.getElem?_toArray, List.getElem?_cons_succ, List.getElem?_cons_zero, List.setIfInBounds_toArray, List.set_cons_zero, List.set_cons_succ] at y0 z0 x0 x1 x2 u0 u1 u2 t1 t2
  rw [hw3] at hr1
  rw [hw6] at hr3
  rw [hw9] at hr5
  have HR1 := Lib.hid hr1
  have HR2 := Lib.hid hr2
  have HR3 := Lib.hid hr3
  have HR4 := Lib.hid hr4
  have HR5 := Lib.hid hr5
  have HR6 := Lib.hid hr6
  unfold wdV
  clear k8F hr1 hr2 hr3 hr4 hr5 hr6 hfF ft hf3 hf5 hf5' hf6 hf8 hf8' hf9 hf11 hf11' ft6 ft9 k4 k8 k9 k4a k8a k9a k4b k8b k9b k4c k8c k9c k4d k8d k9d k8e k9e hrow1 hrow2 hrow3 hnS hnK hnM hx hs3 hs6 hs9 hg1 hg2 hg3 hiS hzS hsS hbS hiI hzI hsI hbI hw3 hw6 hw9
  go_enter Tryz.func48, Tryz.ntmps48
  go_wp2_with (at_builtin; first | (refine wpList_append_run rfl _ _ 60 rfl (.slice none 0 0) (.slice An ws.length cn) v1 rfl rfl HR1.out ?_; clear HR1) | (refine wpList_append_run rfl _ _ 60 rfl v1 _ _ rfl rfl HR2.out ?_; clear HR2) | (refine wpList_append_run rfl _ _ 61 rfl (.slice none 0 0) (.slice Ak ws.length ck) v2 rfl rfl HR3.out ?_; clear HR3) | (refine wpList_append_run rfl _ _ 61 rfl v2 _ _ rfl rfl HR4.out ?_; clear HR4) | (refine wpList_append_run rfl _ _ 61 rfl (.slice none 0 0) (.slice Am ws.length cm) v3 rfl rfl HR5.out ?_; clear HR5) | (refine wpList_append_run rfl _ _ 61 rfl v3 _ _ rfl rfl HR6.out ?_; clear HR6))
  refine bodyPost_ret (results_cell_row (p := 8) (ty := 63) rfl _ _ (w.heap.size + 1) 63 _ (0, 0) _ rfl HK8.out Tryz.underlying63 rfl infoWd) rfl ⟨_, _, _, _, _, _, ?_, HOUT.out, HG.out, HFF.out⟩
  unfold wdV
  rw [show (ws ++ [(nm, kind, many)]).length = ws.length + 1 from by simp]
end Go.Proofs.YteabedhnpnapgaaGreatDoor
