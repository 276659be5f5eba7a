/-
  ref14.Begin: the store with which a run begins.
-/
import Derived.Test.YtdflbaipbmkdgaaSrSto
import Derived.Test.YtdflbaipbmkdgaaRwSeq
import Derived.Test.YtdflbaipbmkdgaaJnRC
import Derived.Laws.MakeOwn
import Derived.Deep.AppendLies
namespace Go.Proofs.Ytdflbaipbmkdgaa
open Go.RowKit Go.Shelf
set_option linter.unusedVariables false
set_option linter.unusedSimpArgs false

theorem infoSlI : (Try.prog.info? 22).map (fun i => (i.zero, i.size, i.bytes)) = some (some (.slice none 0 0), 1, 24) := by kernel_rfl
theorem infoStore : (Try.prog.info? 28).map (·.size) = some 2 := by kernel_rfl
def zeros (n : Nat) : List Int := List.replicate n 0
/-- numbers are made -/
theorem run_mk (n : Nat) (hn : n ≤ 100000) (w : World) : (Instr.makeSlice 22 (.int .i64 n) (.int .i64 n)).run Try.prog w = .ok (.slice (some ⟨w.heap.size, 0, none⟩) n n) (w.alloc (.cells (intL (zeros n)).toArray 3)) := by
  obtain ⟨i0, hi, hz0, hz1, hz2⟩ := info_parts infoInt
  have h := run_makeSlice (P := Try.prog) w 22 3 i0 (.int .i64 0) Try.underlying22 hi hz0 .i64 .i64 (n : Int) n (by omega) (Int.le_refl _) (by rw [hz1]; simp; omega) (by rw [hz2]; omega) (by omega)
  simp only [Int.toNat_natCast, hz1, Nat.mul_one] at h
  have e : madeCells (Value.int .i64 0).cells n = (intL (zeros n)).toArray := by
    apply Array.ext
    · simp [size_madeCells, intL, zeros]
    · intro j h1 h2
      have e1 : j % 1 = 0 := Nat.mod_one j
      simp [madeCells, intL, zeros, Value.cells, e1]
  rw [e] at h
  exact h
def stVals (nv bv : Nat) (A : Option Addr) (na c : Nat) : Value := .agg #[.slice (some ⟨bv, 0, none⟩) nv nv, .slice A na c]
/-- the arrays that a run begins with -/
def begA (g : List Int) : List (List Int) := g.map fun n => zeros n.toNat
def BegP (g : Gr) (W : World) (e : Ending) (w' : World) : Prop := ∃ bv A c bs, e = .returned (stVals g.vars.toNat bv A g.arrays.length c) ∧ Sto w' W.heap.size (zeros g.vars.toNat) (begA g.arrays) bv A c bs ∧ Fr NoT W w'
/-- the arrays under way -/
structure BgX (w1 : World) (L P bv nv : Nat) (zs : List Int) (v : Value) (wr : World) (bs : List Nat) (k : Nat) : Prop where
  fr : Fr (fun b => b = P) w1 wr
  bk : Bk wr P 28 #[.slice (some ⟨bv, 0, none⟩) nv nv, v]
  row : wr.ownsRow w1.heap.size 22 1 v k (rowL bs (begA (zs.take k)))
  len : bs.length = k
  each : ∀ (i b : Nat) (l : List Int), bs[i]? = some b → (begA zs)[i]? = some l → w1.heap.size ≤ b ∧ Bk wr b 3 (intL l).toArray
  nd : bs.Nodup
  rb : ∀ b ∈ bs, v.ownBlock ≠ some b
  lt : ∀ b ∈ bs, b < wr.heap.size
theorem Fr.backT {T : Nat → Prop} {a b c : World} (h : Fr T a b) (k : Fr (fun x => a.heap.size ≤ x) b c) : Fr T a c :=
  ⟨k.os.trans h.os, k.tape.trans h.tape, k.output.trans h.output, Nat.le_trans h.size k.size, fun i hi ht => (k.block i (Nat.lt_of_lt_of_le hi h.size) (by omega)).trans (h.block i hi ht)⟩
theorem zeros_len (n : Nat) : (zeros n).length = n := by simp [zeros]
theorem BgX.step {w1 : World} {L P bv nv : Nat} {zs : List Int} {v : Value} {wr : World} {bs : List Nat} {k : Nat} (h : BgX w1 L P bv nv zs v wr bs k) (hP0 : L ≤ P) (hP : P < w1.heap.size) (hL : L ≤ w1.heap.size) {n : Int} (hn : zs[k]? = some n) {w8 w9 : World} (hf8 : Fr NoT wr w8)
    (hb8 : Bk w8 wr.heap.size 3 (intL (zeros n.toNat)).toArray) (hz8 : w8.heap.size = wr.heap.size + 1 + 1) {g cap : Nat}
    (hown : w9.ownsRow w1.heap.size 22 1 (.slice (some ⟨g, 0, none⟩) (k + 1) cap) (k + 1) (rowL bs (begA (zs.take k)) ++ [slL wr.heap.size n.toNat])) (hg : w8.grownBy w9 v.ownBlock) (hsp : v.ownBlock = some g ∨ g = w8.heap.size) :
    BgX w1 L P bv nv zs (.slice (some ⟨g, 0, none⟩) (k + 1) cap) (w9.setCell ⟨P, 1, none⟩ (.slice (some ⟨g, 0, none⟩) (k + 1) cap)) (bs ++ [wr.heap.size]) (k + 1) := by
  have hlt := h.row.lt
  have hgf : Fr (fun b => v.ownBlock = some b) w8 w9 := Fr.grown hg fun g e _ => e
  have hrf : Fr (fun b => v.ownBlock = some b) wr w9 := hf8.any.trans hgf
  have hfp : Fr (fun b => b = P) w9 (w9.setCell ⟨P, 1, none⟩ (.slice (some ⟨g, 0, none⟩) (k + 1) cap)) := Fr.own (Fr.refl _ _) _ _
  have hvP : ¬ v.ownBlock = some P := fun e => by have := (hlt _ e).1; omega
  have hsz := hf8.size
  have hgs := hgf.size
  have hbk : ∀ b ∈ bs, b < wr.heap.size := h.lt
  have htk : zs.take (k + 1) = zs.take k ++ [n] := by rw [List.take_add_one, hn]; rfl
  have hgne : ∀ b, b < w8.heap.size → v.ownBlock ≠ some b → g ≠ b := fun b hb hn' e => by
    rcases hsp with e2 | e2
    · rw [e] at e2; exact hn' e2
    · omega
  refine ⟨?_, ?_, ?_, by simp [h.len], fun i b l hi hl => ?_, ?_, fun b hb => ?_, fun b hb => ?_⟩
  · have h1 : Fr (fun b => w1.heap.size ≤ b) wr w9 := hrf.mono fun b _ e => (hlt _ e).1
    exact (h.fr.backT h1).trans hfp
  · have := (h.bk.fr hrf hvP).set_ 1 (.slice (some ⟨g, 0, none⟩) (k + 1) cap)
    simpa using this
  · rw [htk]
    have e : rowL (bs ++ [wr.heap.size]) (begA (zs.take k ++ [n])) = rowL bs (begA (zs.take k)) ++ [slL wr.heap.size n.toNat] := by
      unfold begA
      rw [List.map_append, List.map_cons, List.map_nil, rowL_snoc _ _ (by
        have := (List.getElem?_eq_some_iff.1 hn).1
        rw [h.len, List.length_map, List.length_take]; omega), zeros_len]
    rw [e]
    have := ownsRow_setCell_below hown (a := ⟨P, 1, none⟩) hP (.slice (some ⟨g, 0, none⟩) (k + 1) cap)
    simpa using this
  · have hbl : b < wr.heap.size ∧ ¬ v.ownBlock = some b ∧ w1.heap.size ≤ b ∧ Bk wr b 3 (intL l).toArray ∨ b = wr.heap.size ∧ l = zeros n.toNat := by
      rcases Nat.lt_or_ge i bs.length with hi2 | hi2
      · rw [List.getElem?_append_left hi2] at hi
        have hm := List.mem_of_getElem? hi
        have := h.each i b l hi hl
        exact .inl ⟨hbk b hm, h.rb b hm, this.1, this.2⟩
      · rw [List.getElem?_append_right hi2] at hi
        have e0 : i - bs.length = 0 := by
          have := (List.getElem?_eq_some_iff.1 hi).1
          simp at this; omega
        rw [e0] at hi
        simp only [List.getElem?_cons_zero, Option.some.injEq] at hi
        have ei : i = k := by rw [← h.len]; omega
        subst ei
        unfold begA at hl
        rw [List.getElem?_map, hn] at hl
        simp only [Option.map_some, Option.some.injEq] at hl
        exact .inr ⟨hi.symm, hl.symm⟩
    have hw1 : w1.heap.size ≤ wr.heap.size := h.fr.size
    rcases hbl with ⟨h1, h2, h3, h4⟩ | ⟨rfl, rfl⟩
    · exact ⟨h3, (h4.fr hrf h2).far (p := ⟨P, 1, none⟩) (by show b ≠ P; omega) _⟩
    · refine ⟨hw1, ((hb8.fr hgf fun e => ?_)).far (p := ⟨P, 1, none⟩) (by show wr.heap.size ≠ P; omega) _⟩
      have := (hlt _ e).2
      omega
  · rw [List.nodup_append]
    refine ⟨h.nd, by simp, fun a ha b hb => ?_⟩
    simp only [List.mem_singleton] at hb
    rw [hb]
    have := hbk a ha
    omega
  · have e : (Value.slice (some ⟨g, 0, none⟩) (k + 1) cap).ownBlock = some g := rfl
    rw [e]
    rcases List.mem_append.1 hb with hb | hb
    · exact fun e => hgne b (by have := hbk b hb; omega) (h.rb b hb) (by simpa using e)
    · simp only [List.mem_singleton] at hb
      rw [hb]
      refine fun e => hgne wr.heap.size (by omega) (fun e' => ?_) (by simpa using e)
      have := (hlt _ e').2
      omega
  · rcases List.mem_append.1 hb with hb | hb
    · have := hbk b hb
      have := hfp.size
      omega
    · simp only [List.mem_singleton] at hb
      have := hfp.size
      omega
end Go.Proofs.Ytdflbaipbmkdgaa

/-
  ref14.Begin: the walk.
-/
namespace Go.Proofs.Ytdflbaipbmkdgaa
open Go.RowKit Go.Shelf
set_option linter.unusedVariables false
set_option linter.unusedSimpArgs false

theorem Bk.newsL {w : World} {g : Nat} {t : TypeId} {cs : List Value} (h : Bk w g t cs.toArray) : ∀ j u, cs[j]? = some u → w.cell? ((⟨g, 0, none⟩ : Addr).add j) = some u := fun j u hj => by
  have e : (⟨g, 0, none⟩ : Addr).add j = ⟨g, j, none⟩ := by unfold Addr.add; split <;> simp_all
  rw [e, h.cell j]; simpa using hj
theorem Fr.back0 {a b c : World} (h : Fr NoT a b) (k : Fr (fun x => a.heap.size ≤ x) b c) : Fr NoT a c :=
  ⟨k.os.trans h.os, k.tape.trans h.tape, k.output.trans h.output, Nat.le_trans h.size k.size, fun i hi _ => (k.block i (Nat.lt_of_lt_of_le hi h.size) (by omega)).trans (h.block i hi id)⟩
theorem bk_alloc2 (w : World) (c0 c1 : Array Value) (t0 t1 : TypeId) : Bk ((w.alloc (.cells c0 t0)).alloc (.cells c1 t1)) w.heap.size t0 c0 ∧ Bk ((w.alloc (.cells c0 t0)).alloc (.cells c1 t1)) (w.heap.size + 1) t1 c1 :=
  ⟨(Bk.new _ _ _).alloc _, Bk.new_at _ _ _ (by simp)⟩
set_option maxRecDepth 100000 in
set_option maxHeartbeats 1600000 in
theorem rbegin_any (g : Gr) (Aa Ae : Option Addr) (ca ce ne B : Nat) (w : World) (hB : B ≤ w.heap.size) (hx : IsSl w B g.arrays Aa ca) (hv : 0 ≤ g.vars ∧ g.vars ≤ 1000) (hn : g.arrays.length ≤ 100) (hz : ∀ n ∈ g.arrays, 0 ≤ n ∧ n ≤ 1000) :
    Calls Try.prog 14 #[grV g.vars Aa g.arrays.length ca g.nodes g.start g.last Ae ne ce] w (BegP g w) := by
  unfold grV
  obtain ⟨vars, arrays, nodes, start, last, edges⟩ := g
  simp only at hx hv hn hz ⊢
  obtain ⟨nv, rfl⟩ : ∃ nv : Nat, vars = nv := ⟨vars.toNat, by omega⟩
  have hnv : nv ≤ 1000 := by omega
  obtain ⟨iS, hiS, hsz0, hsz1, hsz2⟩ := info_parts infoSlI
  have HI := Lib.hid (And.intro hiS (And.intro hsz0 (And.intro hsz1 hsz2)))
  have hmk := fun (W : World) => run_mk nv (by omega) W
  have HX := Lib.hid hx
  have HB := Lib.hid hB
  have HZ := Lib.hid hz
  obtain ⟨m, hm⟩ : ∃ m, m = arrays.length := ⟨_, rfl⟩
  rw [← hm] at hn ⊢
  have HM := Lib.hid hm
  have hl : m ≤ 9223372036854775807 := by omega
  obtain ⟨zv, hzv⟩ : ∃ z, z = (intL (zeros nv)).toArray := ⟨_, rfl⟩
  simp only [← hzv] at hmk
  have HZV := Lib.hid hzv
  -- the world ahead of the loop
  obtain ⟨w0, hw0⟩ : ∃ w0, w0 = (w.alloc (.cells #[.int .i64 nv, .slice Aa m ca, .int .i64 nodes, .int .i64 start, .int .i64 last, .slice Ae ne ce] 25)).alloc (.cells #[.slice none 0 0, .slice none 0 0] 28) := ⟨_, rfl⟩
  have hz0 : w0.heap.size = w.heap.size + 1 + 1 := by rw [hw0]; simp
  obtain ⟨w1, hw1⟩ : ∃ w1, w1 = (w0.alloc (.cells zv 3)).alloc (.cells #[.slice (some ⟨w0.heap.size, 0, none⟩) nv nv, .slice none 0 0] 28) := ⟨_, rfl⟩
  have hf0 : Fr NoT w w0 := by rw [hw0]; exact ((Fr.refl _ _).alloc _).alloc _
  have hf1 : Fr NoT w0 w1 := by rw [hw1]; exact ((Fr.refl _ _).alloc _).alloc _
  have k1 : Bk w1 w.heap.size 25 #[.int .i64 nv, .slice Aa m ca, .int .i64 nodes, .int .i64 start, .int .i64 last, .slice Ae ne ce] := by
    refine Bk.fr0 ?_ hf1; rw [hw0]; exact (bk_alloc2 _ _ _ _ _).1
  have k2 : Bk w1 (w.heap.size + 1) 28 #[.slice none 0 0, .slice none 0 0] := by
    refine Bk.fr0 ?_ hf1; rw [hw0]; exact (bk_alloc2 _ _ _ _ _).2
  have k3 : Bk w1 w0.heap.size 3 zv ∧ Bk w1 (w0.heap.size + 1) 28 #[.slice (some ⟨w0.heap.size, 0, none⟩) nv nv, .slice none 0 0] := by rw [hw1]; exact bk_alloc2 _ _ _ _ _
  have HF0 := Lib.hid hf0
  have HF1 := Lib.hid (hf0.trans hf1)
  have HK1 := Lib.hid k1
  have HK2 := Lib.hid k2
  have HK3 := Lib.hid k3.1
  have HW0 := Lib.hid hw0
  have HW1 := Lib.hid hw1
  have HZ0 := Lib.hid hz0
  have HS1 := Lib.hid (show w1.heap.size = w0.heap.size + 1 + 1 from by rw [hw1]; simp)
  have HU0 := Lib.hid (show BgX w1 w.heap.size (w0.heap.size + 1) w0.heap.size nv arrays (.slice none 0 0) w1 [] 0 from ⟨Fr.refl _ _, k3.2, World.ownsRow_nil _ _ _ _, rfl, fun i b l hi => by simp at hi, List.nodup_nil, fun b hb => by simp at hb, fun b hb => by simp at hb⟩)
  clear hx hB hz hm hzv hw0 hw1 hf0 hf1 k1 k2 k3 hz0 hiS hsz0 hsz1 hsz2 hv
  go_enter Try.func14, Try.ntmps14
  go_wp2_with fail
  rw [← HW0.out, ← HZ0.out, ← HW1.out]
  clear hmk
  go_loopw [4] (fun i wr => ∃ k : Nat, k ≤ m ∧ i = .int .i64 k ∧ ∃ (v : Value) (bs : List Nat), Hid (BgX w1 w.heap.size (w0.heap.size + 1) w0.heap.size nv arrays v wr bs k)) (fun i _ => m - (intOf i).toNat)
  case atStart => exact ⟨0, Nat.zero_le _, rfl, _, [], HU0⟩
  case round =>
    clear HU0
    obtain ⟨k, hk, rfl, v, bs, hb⟩ := hrel
    have hk1 := HK1.out.fr hb.out.fr (by show ¬ w.heap.size = w0.heap.size + 1; have := HZ0.out; omega)
    have y1 := hk1.cell 1
    have yl := hk1.lt
    have q1 := hb.out.bk.cell 1
    have g1 := hb.out.bk.frozen 1
    have pl := hb.out.bk.lt
    simp only [List.getElem?_toArray, List.getElem?_cons_succ, List.getElem?_cons_zero] at y1 q1
    clear hk1
    by_cases hlt : k < m
    · obtain ⟨n, hnk⟩ : ∃ n, arrays[k]? = some n := ⟨_, List.getElem?_eq_getElem (by rw [← HM.out]; exact hlt)⟩
      obtain ⟨b, o, rfl, hat⟩ := HX.out.2.2 (by rw [← HM.out]; omega)
      have hbw : b < w.heap.size := Nat.lt_of_lt_of_le hat.1 HB.out
      have hc := (hat.2 k n hnk).1
      have hnp : ¬ b = w0.heap.size + 1 := by have := HZ0.out; omega
      have d0 := (hb.out.fr.cell (p := ⟨b, o + k, none⟩) (by show b < w1.heap.size; have := HF1.out.size; omega) hnp).trans ((HF1.out.cell (p := ⟨b, o + k, none⟩) hbw id).trans hc)
      have hxr : b < wr.heap.size := by have := HF1.out.size; have := hb.out.fr.size; omega
      have hlt' : (k : Int) < (m : Int) := by omega
      have hge : (0 : Int) ≤ (k : Int) := by omega
      have hn2 := HZ.out n (List.mem_of_getElem? hnk)
      obtain ⟨nn, rfl⟩ : ∃ nn : Nat, n = nn := ⟨n.toNat, by omega⟩
      have hmk := fun (W : World) => run_mk nn (by omega) W
      obtain ⟨zn, hzn⟩ : ∃ z, z = (intL (zeros nn)).toArray := ⟨_, rfl⟩
      simp only [← hzn] at hmk
      obtain ⟨w8, hw8⟩ : ∃ w8, w8 = ((wr.alloc (.cells zn 3)).alloc (.cells #[.slice (some ⟨wr.heap.size, 0, none⟩) nn nn] 22)).drew := ⟨_, rfl⟩
      obtain ⟨w7, hw7⟩ : ∃ w7, w7 = (wr.alloc (.cells zn 3)).drew := ⟨_, rfl⟩
      have hf7 : Fr NoT wr w7 := by rw [hw7]; exact ((Fr.refl _ _).alloc _).drew
      have hf8 : Fr NoT wr w8 := by rw [hw8]; exact (((Fr.refl _ _).alloc _).alloc _).drew
      have hk8 : Bk w8 wr.heap.size 3 zn ∧ Bk w8 (wr.heap.size + 1) 22 ([.slice (some ⟨wr.heap.size, 0, none⟩) nn nn] : List Value).toArray := by rw [hw8]; exact bk_alloc2 _ _ _ _ _
      have hz8 : w8.heap.size = wr.heap.size + 1 + 1 := by rw [hw8]; simp [World.drew]
      have hrow8 := World.ownsRow.kept (w' := w8) hb.out.row (row := none) ⟨hf8.os, hf8.tape, hf8.output, hf8.size, fun i hi _ => hf8.block i hi id⟩ (Classical.em _)
      have HROW8 := Lib.hid hrow8
      have HK8 := Lib.hid hk8.1
      have HK9 := Lib.hid hk8.2
      have HF7 := Lib.hid hf7
      have HF8 := Lib.hid hf8
      have HW7 := Lib.hid hw7
      have HW8 := Lib.hid hw8
      have HZ8 := Lib.hid hz8
      have HNK := Lib.hid hnk
      have HZN := Lib.hid hzn
      have hbase : w1.heap.size ≤ w8.heap.size := by have := hb.out.fr.size; omega
      have q8 := (hf8.cell (p := ⟨w0.heap.size + 1, 1, none⟩) pl id).trans q1
      have f8 := (hf8.frozen (p := ⟨w0.heap.size + 1, 1, none⟩) pl id).trans g1
      have hnP : ¬ w0.heap.size + 1 = b := fun e => hnp e.symm
      have hnB : ¬ w.heap.size = w0.heap.size + 1 := by have := HZ0.out; omega
      clear hat hc hrow8 hk8 hw7 hw8 hz8 hnk hzn hn2
      go_wp2_with fail
      refine wp_region_F (fun W' => W'.cell? ⟨w.heap.size, 1, none⟩ = some (.slice (some ⟨b, o, none⟩) m ca) ∧ W'.cell? ⟨b, o + k, none⟩ = some (.int .i64 nn) ∧ W'.cell? ⟨w0.heap.size + 1, 1, none⟩ = some v) 10 (by kernel_rfl) ⟨y1, d0, q1⟩ (fun hHeld => ?_)
      refine wpF_take 0 (v := ?_) rfl (by kernel_rfl) (by kernel_rfl) (by kernel_rfl) (by kernel_rfl) (fun _ _ _ h => h) hHeld (by rfl) ?_ ?_
      rotate_left
      · intro wz hSz
        (try dsimp only at hSz)
        go_simp
        try with_reducible rfl
      try simp only [Act.put, List.setIfInBounds_toArray, List.set_cons_zero, List.set_cons_succ]
      refine wpF_take 1 (v := ?_) rfl (by kernel_rfl) (by kernel_rfl) (by kernel_rfl) (by kernel_rfl) (fun _ _ _ h => h) hHeld (by rfl) ?_ ?_
      rotate_left
      · intro wz hSz
        (try dsimp only at hSz)
        go_simp
        try with_reducible rfl
      try simp only [Act.put, List.setIfInBounds_toArray, List.set_cons_zero, List.set_cons_succ]
      refine wpF_take 2 (v := ?_) rfl (by kernel_rfl) (by kernel_rfl) (by kernel_rfl) (by kernel_rfl) (fun _ _ _ h => h) hHeld (by rfl) ?_ ?_
      rotate_left
      · intro wz hSz
        (try dsimp only at hSz)
        go_simp
        try with_reducible rfl
      try simp only [Act.put, List.setIfInBounds_toArray, List.set_cons_zero, List.set_cons_succ]
      refine wpF_take 3 (v := ?_) rfl (by kernel_rfl) (by kernel_rfl) (by kernel_rfl) (by kernel_rfl) (fun _ _ _ h => h) hHeld (by rfl) ?_ ?_
      rotate_left
      · intro wz hSz
        (try dsimp only at hSz)
        go_simp
        try with_reducible rfl
      try simp only [Act.put, List.setIfInBounds_toArray, List.set_cons_zero, List.set_cons_succ]
      refine wpF_take 4 (v := ?_) rfl (by kernel_rfl) (by kernel_rfl) (by kernel_rfl) (by kernel_rfl) (fun _ _ _ h => h) hHeld (by rfl) ?_ ?_
      rotate_left
      · intro wz hSz
        (try dsimp only at hSz)
        go_simp
        try with_reducible rfl
      try simp only [Act.put, List.setIfInBounds_toArray, List.set_cons_zero, List.set_cons_succ]
      refine wpF_take 5 (v := ?_) rfl (by kernel_rfl) (by kernel_rfl) (by kernel_rfl) (by kernel_rfl) (fun _ _ _ h => h) hHeld (by rfl) ?_ ?_
      rotate_left
      · intro wz hSz
        (try dsimp only at hSz)
        go_simp
        try with_reducible rfl
      try simp only [Act.put, List.setIfInBounds_toArray, List.set_cons_zero, List.set_cons_succ]
      refine wpF_take 6 (v := ?_) rfl (by kernel_rfl) (by kernel_rfl) (by kernel_rfl) (by kernel_rfl) (fun _ _ _ h => h) hHeld (by rfl) ?_ ?_
      rotate_left
      · intro wz hSz
        (try dsimp only at hSz)
        go_simp
        try with_reducible rfl
      try simp only [Act.put, List.setIfInBounds_toArray, List.set_cons_zero, List.set_cons_succ]
      refine wpF_next 7 rfl (by kernel_rfl) (fun K hK => ?_)
      go_simp
      rw [← HW7.out]
      refine hK.out _ _ ⟨(HF7.out.cell (p := ⟨w.heap.size, 1, none⟩) yl id).trans y1, (HF7.out.cell (p := ⟨b, o + k, none⟩) hxr id).trans d0, (HF7.out.cell (p := ⟨w0.heap.size + 1, 1, none⟩) pl id).trans q1⟩ ?_
      clear hK K hmk hHeld
      refine wpF_next 8 rfl (by kernel_rfl) (fun K hK => ?_)
      go_simp
      rw [show (w7.alloc (.cells #[.slice (some ⟨wr.heap.size, 0, none⟩) nn nn] 22)) = w8 from by rw [HW7.out, HW8.out]; rfl]
      refine hK.out _ _ ⟨(HF8.out.cell (p := ⟨w.heap.size, 1, none⟩) yl id).trans y1, (HF8.out.cell (p := ⟨b, o + k, none⟩) hxr id).trans d0, q8⟩ ?_
      clear hK K
      try simp only [Act.put, List.setIfInBounds_toArray, List.set_cons_zero, List.set_cons_succ]
      refine wpF_next 9 rfl (by kernel_rfl) (fun K hK => ?_)
      have hz7 : w7.heap.size = wr.heap.size + 1 := by rw [HW7.out]; simp [World.drew]
      rw [hz7]
      refine step_append_lies _ (by rfl) _ _ _ (by rfl) w1.heap.size 22 iS (.slice none 0 0) 1 24 Try.underlying26 HI.out.1 HI.out.2.1 HI.out.2.2.1 HI.out.2.2.2 rfl (by decide) v k (rowL bs (begA (arrays.take k))) (by rfl) HROW8.out
        ⟨wr.heap.size + 1, 0, none⟩ 1 1 _ (by rfl) (by rfl) HK9.out.newsL (by simp [Value.oneCell']) (by omega) (by unfold maxLen; omega) (by omega) hbase _ rfl ?_
      intro gg cap w9 hown hgrow hsp hlt9
      have hf9 : Fr (fun b => w1.heap.size ≤ b) wr w9 := HF8.out.any.trans (Fr.grown hgrow fun g e _ => (HROW8.out.lt g e).1)
      have hne : some (w0.heap.size + 1) ≠ v.ownBlock := fun e => by have := (HROW8.out.lt _ e.symm).1; have := HS1.out; omega
      have pl8 : w0.heap.size + 1 < w8.heap.size := Nat.lt_of_lt_of_le pl HF8.out.size
      have q9 := (hgrow.cell_far ⟨w0.heap.size + 1, 1, none⟩ pl8 hne).trans q8
      have f9 := (hgrow.frozen_far ⟨w0.heap.size + 1, 1, none⟩ pl8 hne).trans f8
      have p9 : w0.heap.size + 1 < w9.heap.size := by have := hf9.size; omega
      have hin1 : ¬ w1.heap.size ≤ w.heap.size := by have := HS1.out; have := HZ0.out; omega
      have hin2 : ¬ w1.heap.size ≤ b := by have := HS1.out; have := HZ0.out; omega
      have HN := Lib.hid (hb.out.step (by have := HZ0.out; omega) (by have := HS1.out; omega) (by have := HF1.out.size; omega) HNK.out HF8.out (by rw [Int.toNat_natCast, ← HZN.out]; exact HK8.out) HZ8.out (by rw [Int.toNat_natCast]; exact hown) hgrow hsp)
      refine hK.out _ _ ⟨(hf9.cell (p := ⟨w.heap.size, 1, none⟩) yl hin1).trans y1, (hf9.cell (p := ⟨b, o + k, none⟩) hxr hin2).trans d0, q9⟩ ?_
      clear hK K hown hgrow hsp hne hin1 hin2
      try simp only [Act.put, List.setIfInBounds_toArray, List.set_cons_zero, List.set_cons_succ]
      refine wpF_last 10 rfl (by kernel_rfl) (by decide) (fun K hK => ?_)
      go_simp
      refine hK.out _ _ ?_
      clear hK K
      refine wpF_last 11 rfl (by kernel_rfl) (by decide) (fun K hK => ?_)
      go_simp
      refine hK.out _ _ ?_
      clear hK K
      refine wpF_done (by kernel_rfl) ?_
      go_wp2_with fail
      go_roundw
      case rel => exact ⟨k + 1, by omega, by go_num, _, _, HN⟩
      case measure => simp [intOf]; omega
    · have hlt' : ¬ (k : Int) < (m : Int) := by omega
      have hkm : k = m := by omega
      subst hkm
      have hrow := hb.out.row
      rw [List.take_of_length_le (by rw [← HM.out]; omega)] at hrow
      have hba : (begA arrays).length = k := by rw [begA, List.length_map, HM.out]
      have hva : ∃ A c, v = .slice A k c := by
        rcases hrow.2 with ⟨e, h0⟩ | ⟨g, cap, cur, e, _⟩
        · exact ⟨none, 0, by rw [e, h0]⟩
        · exact ⟨_, _, e⟩
      obtain ⟨A, c, rfl⟩ := hva
      have hk2 := HK2.out.fr hb.out.fr (by show ¬ w.heap.size + 1 = w0.heap.size + 1; have := HZ0.out; omega)
      have hk3 := HK3.out.fr hb.out.fr (by show ¬ w0.heap.size = w0.heap.size + 1; omega)
      obtain ⟨wf, hwf⟩ : ∃ wf, wf = (wr.setCell ⟨w.heap.size + 1, 0, none⟩ (.slice (some ⟨w0.heap.size, 0, none⟩) nv nv)).setCell ⟨w.heap.size + 1, 1, none⟩ (.slice A k c) := ⟨_, rfl⟩
      have hff : Fr (fun b => b = w.heap.size + 1) wr wf := by rw [hwf]; exact Fr.own (Fr.own (Fr.refl _ _) _ _) _ _
      have hkf : Bk wf (w.heap.size + 1) 28 #[.slice (some ⟨w0.heap.size, 0, none⟩) nv nv, .slice A k c] := by
        have := (hk2.set_ 0 (.slice (some ⟨w0.heap.size, 0, none⟩) nv nv)).set_ 1 (.slice A k c)
        rw [hwf]; simpa using this
      have hz0 := HZ0.out
      have hs1 := HS1.out
      have hlow : ∀ b ∈ bs, w1.heap.size ≤ b := fun b hbm => by
        obtain ⟨i, hi⟩ := List.getElem?_of_mem hbm
        have hil := (List.getElem?_eq_some_iff.1 hi).1
        rw [hb.out.len] at hil
        exact (hb.out.each i b _ hi (List.getElem?_eq_getElem (by rw [hba]; exact hil))).1
      have hsto : Sto wr w.heap.size (zeros nv) (begA arrays) w0.heap.size A c bs := by
        refine ⟨by rw [← HZV.out]; exact hk3, by omega, ?_, by rw [hb.out.len, hba], fun i b l hi hl => ⟨by have := (hb.out.each i b l hi hl).1; omega, (hb.out.each i b l hi hl).2⟩, hb.out.nd, fun hm => by have := hlow _ hm; omega, ?_, ?_, ⟨?_, ?_⟩, by rw [zeros_len]; omega, by rw [hba]; omega, ?_⟩
        · rw [hba]
          refine ⟨hrow.1, ?_⟩
          rcases hrow.2 with h2 | ⟨g, cap, cur, e, h3, r⟩
          · exact .inl h2
          · exact .inr ⟨g, cap, cur, e, by omega, r⟩
        · rw [hba]; intro e; have := (hb.out.row.lt _ e).1; omega
        · rw [hba]; exact hb.out.rb
        · intro n hn; rw [zeros, List.mem_replicate] at hn; rw [hn.2]; simp [is64]
        · intro l hl n hn
          obtain ⟨z, _, rfl⟩ := List.mem_map.1 hl
          rw [zeros, List.mem_replicate] at hn; rw [hn.2]; simp [is64]
        · intro l hl
          obtain ⟨z, hz, rfl⟩ := List.mem_map.1 hl
          rw [zeros_len]
          have := HZ.out z hz
          omega
      have HST := Lib.hid (hsto.fr hff (by show ¬ w0.heap.size = w.heap.size + 1; omega) (fun b hbm e => by have e : b = w.heap.size + 1 := e; have := hlow b hbm; omega) (fun b e => by rw [hba] at e; have := (hb.out.row.lt b e).1; intro e2; have e2 : b = w.heap.size + 1 := e2; omega))
      have HFF := Lib.hid (show Fr NoT w wf from Fr.back0 HF1.out ((hb.out.fr.mono fun b _ e => by have e : b = w0.heap.size + 1 := e; show w.heap.size ≤ b; omega).trans (hff.mono fun b _ e => by have e : b = w.heap.size + 1 := e; show w.heap.size ≤ b; omega)))
      have q0 := hb.out.bk.cell 0
      have z0 := hk2.cell 0
      have z1 := hk2.cell 1
      have f0 := hk2.frozen 0
      have f1 := hk2.frozen 1
      have zl := hk2.lt
      simp only [List.getElem?_toArray, List.getElem?_cons_succ, List.getElem?_cons_zero] at q0 z0 z1
      have HKF := Lib.hid hkf
      have HWF := Lib.hid hwf
      have HBA := Lib.hid hba
      clear hrow hba hk2 hk3 hwf hff hkf hz0 hs1 hlow hsto
      go_wp2_with fail
      rw [← HWF.out]
      refine bodyPost_ret (results_cell_row (p := 2) (ty := 28) rfl _ _ (w.heap.size + 1) 28 _ (0, 0) _ rfl HKF.out Try.underlying28 rfl infoStore) rfl ⟨w0.heap.size, A, c, bs, ?_, ?_, HFF.out⟩
      · unfold stVals; simp only [Int.toNat_natCast]; rw [HM.out]
      · simp only [Int.toNat_natCast]; exact HST.out
end Go.Proofs.Ytdflbaipbmkdgaa
