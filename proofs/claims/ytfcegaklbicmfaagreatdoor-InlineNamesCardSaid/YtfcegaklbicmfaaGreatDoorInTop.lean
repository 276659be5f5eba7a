/-
  inline.Inline. Printed by wip/gen_in/reg.py.
-/
import Derived.Test.YtfcegaklbicmfaaGreatDoorJnInS
import Derived.Test.YtfcegaklbicmfaaGreatDoorJnCkF
set_option linter.unusedVariables false
set_option linter.unusedSimpArgs false
namespace Go.Proofs.YtfcegaklbicmfaaGreatDoor
open Go.RowKit Go.Shelf Go.Maps

theorem res_cell_tmp {P : Program} {fn : Func} {p q : Tmp} {ty : TypeId} (h : fn.results = #[.cell p ty, .tmp q]) (tmps : Array Value) (w : World) (g : Nat) (t : TypeId) (cs : Array Value) (fr : Nat × Nat) (d : TypeDesc)
  (hp : tmps.getD p undef = .pointer (some ⟨g, 0, none⟩)) (hg : w.heap[g]? = some (.cells cs t fr))
  (hu : P.underlying ty = some d) (hd : (match d with | .struct _ | .array _ _ => true | _ => false) = true) (hi : (P.info? ty).map (·.size) = some cs.size) :
  (results fn tmps).run P w = .ok (.tuple #[.agg cs, tmps.getD q undef]) w := by
 have hp' : tmps[p]?.getD undef = .pointer (some ⟨g, 0, none⟩) := by simpa using hp
 simp [results, h, hp', asAddr, run_loadVar_row w g t ty cs fr d hg hu hd hi]
theorem bk_two (w : World) (c0 c1 : Array Value) (t0 t1 : TypeId) : Bk ((w.alloc (.cells c0 t0)).alloc (.cells c1 t1)) w.heap.size t0 c0 ∧ Bk ((w.alloc (.cells c0 t0)).alloc (.cells c1 t1)) (w.heap.size + 1) t1 c1 :=
 ⟨(Bk.new _ _ _).alloc _, Bk.new_at _ _ _ (by simp)⟩
theorem sizeTr : (Tryz.prog.info? 27).map (·.size) = some 4 := by kernel_rfl
theorem prR_in {w : World} {S : Nat → Prop} {Z : Prop} : ∀ {xs : List Prc} {b o : Nat}, PrR w S Z xs b o → ∀ x ∈ xs, in64 x.at_ ∧ ∀ v ∈ x.params, in64 v.at_
 | [], _, _, _, _, h => by simp at h
 | p :: r, b, o, ⟨⟨_, _, h1, _⟩, ⟨A, c, _, hs⟩, _, hr⟩, x, hx => by
  rcases List.mem_cons.1 hx with rfl | hx
  ·refine ⟨h1, fun v hv => ?_⟩
   have hp : 0 < x.params.length := List.length_pos_iff.2 fun e => by rw [e] at hv; simp at hv
   obtain ⟨b', o', _, hva⟩ := hs.2.2 hp
   have : ∀ {l : List Va} {b o : Nat}, VaR w S Z l b o → v ∈ l → in64 v.at_ := by
    intro l
    induction l with
    | nil => intro b o _ h; simp at h
    | cons u r ih =>
     intro b o h hm
     rcases List.mem_cons.1 hm with rfl | hm
     ·exact h.1.2.2.1
     ·exact ih h.2 hm
   exact this hva hv
  ·exact prR_in hr x hx
def InlP (r : Tre × Int) (W : World) (e : Ending) (w' : World) : Prop := ∃ Av Aa Ap Am cv ca cp cm, e = .returned (.tuple #[trV r.1 Av Aa Ap Am cv ca cp cm, .int .i64 r.2]) ∧ TrR w' (New W.heap.size w') False r.1 Av Aa Ap Am cv ca cp cm ∧ Fr NoT W w'
theorem noTre_at (w : World) (S : Nat → Prop) : TrR w S False noTre none none none none 0 0 0 0 := ⟨slr0, slr0, slr0, slr0⟩
theorem procsOf_snoc : ∀ (l : List Prc) (x : Prc) (y : List UInt8), procsOf (l ++ [x]) y = if y = x.nm.data.toList then some x else procsOf l y
 | [], x, y => by simp [procsOf]
 | p :: r, x, y => by
  simp only [List.cons_append, procsOf, procsOf_snoc r x y]
  by_cases e : y = x.nm.data.toList
  ·simp [e]
  ·simp [e]
def PrM (W0 : World) (S : Nat → Prop) (procs : List UInt8 → Option Prc) (f : List UInt8 → Option Value) : Prop :=
 (∀ y, procs y = none → f y = none) ∧ ∀ y x, procs y = some x → ∃ A c B e, f y = some (prcV x A c B e) ∧ SlR (VaR W0 S False x.params) x.params.length 24 A c ∧ SlR (StR W0 S False x.body) x.body.len 128 B e
theorem PrM.put {W0 : World} {S : Nat → Prop} {l : List Prc} {f : List UInt8 → Option Value} (h : PrM W0 S (procsOf l) f) {x : Prc} {A : Option Addr} {c : Nat} {B : Option Addr} {e : Nat} (h1 : SlR (VaR W0 S False x.params) x.params.length 24 A c) (h2 : SlR (StR W0 S False x.body) x.body.len 128 B e) :
  PrM W0 S (procsOf (l ++ [x])) (fun y => if y = x.nm.data.toList then some (prcV x A c B e) else f y) := by
 refine ⟨fun y hy => ?_, fun y z hy => ?_⟩
 ·rw [procsOf_snoc] at hy
  by_cases e9 : y = x.nm.data.toList
  ·rw [if_pos e9] at hy; cases hy
  ·rw [if_neg e9] at hy; simp only [if_neg e9]; exact h.1 y hy
 ·rw [procsOf_snoc] at hy
  by_cases e9 : y = x.nm.data.toList
  ·rw [if_pos e9] at hy
   have hy := Option.some.inj hy
   subst hy
   exact ⟨A, c, B, e, by simp only [if_pos e9], h1, h2⟩
  ·rw [if_neg e9] at hy; simp only [if_neg e9]; exact h.2 y z hy
theorem procs_few {t : Tre} (h : OkT t) (hz : SzT t) (hx : ∀ x ∈ t.procs, in64 x.at_ ∧ ∀ v ∈ x.params, in64 v.at_) {y : List UInt8} {x : Prc} (e : procsOf t.procs y = some x) : x.params.length ≤ 4 ∧ x.nm.size ≤ 16 ∧ (∀ v ∈ x.params, v.nm.size ≤ 16 ∧ in64 v.at_) ∧ szS x.body ∧ in64 x.at_ := by
 obtain ⟨hm, _⟩ := procsOf_in e
 have hs : ∀ {b : ByteArray}, nameB b.data.toList = true → b.size ≤ 16 := fun {b} h => by
  unfold nameB at h
  simp only [Bool.and_eq_true, beq_iff_eq, decide_eq_true_eq] at h
  have := h.1.1.1.1
  have := h.1.1.2
  have e : b.size = b.data.toList.length := by rw [Array.length_toList]; rfl
  omega
 have ht := h.tree
 unfold okTr okPs allPr okVs allVa at ht
 simp only [Bool.and_eq_true, List.all_eq_true] at ht
 have h1 := ht.2 x hm
 have h4 : ∀ {l : List Prc} {kn : Kn}, okPs' l kn → x ∈ l → x.params.length ≤ 4 := by
  intro l
  induction l with
  | nil => intro kn _ h; simp at h
  | cons p r ih =>
   intro kn ⟨⟨h1, _, _⟩, h2⟩ h
   rcases List.mem_cons.1 h with rfl | h
   ·exact h1
   ·exact ih h2 h
 exact ⟨h4 h.each hm, hs h1.1.1, fun v hv => ⟨hs (h1.1.2 v hv), (hx x hm).2 v hv⟩, (hz.procs x hm).2.2, (hx x hm).1⟩
theorem RowR.anyV {w w' : World} {S S' : Nat → Prop} : ∀ {xs : List Va} {cs : List Value}, RowR oneV w S xs cs → RowR oneV w' S' xs cs
 | [], _, h => h
 | x :: r, cs, ⟨ys, cs', e, h1, h2⟩ => ⟨ys, cs', e, h1, RowR.anyV h2⟩
theorem RowR.anyA {w w' : World} {S S' : Nat → Prop} : ∀ {xs : List Arr} {cs : List Value}, RowR oneA w S xs cs → RowR oneA w' S' xs cs
 | [], _, h => h
 | x :: r, cs, ⟨ys, cs', e, h1, h2⟩ => ⟨ys, cs', e, h1, RowR.anyA h2⟩
set_option maxRecDepth 100000 in
set_option maxHeartbeats 3200000 in
theorem inl_any (t : Tre) (w : World) (S : Nat → Prop) (Z : Prop) (Av Aa Ap Am : Option Addr) (cv ca cp cm : Nat) (he : SpEnv w) (htab : Lib.TabIs Tryz.prog w "internal/strconv.uint64pow10" .u64 Lib.pow10Tab) (hS : ∀ b, S b → b < w.heap.size) (hsz : SzT t) (hx : TrR w S Z t Av Aa Ap Am cv ca cp cm) :
  Calls Tryz.prog 14 #[trV t Av Aa Ap Am cv ca cp cm] w (InlP (inlT t) w) := by
 have hpin : ∀ x ∈ t.procs, in64 x.at_ ∧ ∀ v ∈ x.params, in64 v.at_ := fun x hm => by
  obtain ⟨b, o, _, h⟩ := hx.procs.2.2 (List.length_pos_iff.2 fun e => by rw [e] at hm; simp at hm)
  exact prR_in h x hm
 obtain ⟨n1, hn1⟩ : ∃ m, m = t.vars.length := ⟨_, rfl⟩
 obtain ⟨n2, hn2⟩ : ∃ m, m = t.arrays.length := ⟨_, rfl⟩
 obtain ⟨n3, hn3⟩ : ∃ m, m = t.procs.length := ⟨_, rfl⟩
 obtain ⟨n4, hn4⟩ : ∃ m, m = t.main.len := ⟨_, rfl⟩
 have hl3 := Nat.le_trans hx.procs.1 hx.procs.2.1.1
 obtain ⟨F, hF⟩ : ∃ F, F = treeC t := ⟨_, rfl⟩
 obtain ⟨w1, hw1⟩ : ∃ w1, w1 = (w.alloc (.cells #[.slice Av n1 cv, .slice Aa n2 ca, .slice Ap n3 cp, .slice Am n4 cm] 27)).alloc (.cells #[.slice none 0 0, .slice none 0 0, .slice none 0 0, .slice none 0 0] 27) := ⟨_, rfl⟩
 have hf1 : Fr NoT w w1 := by rw [hw1]; exact ((Fr.refl _ _).alloc _).alloc _
 have kk := bk_two w #[.slice Av n1 cv, .slice Aa n2 ca, .slice Ap n3 cp, .slice Am n4 cm] #[.slice none 0 0, .slice none 0 0, .slice none 0 0, .slice none 0 0] 27 27
 rw [← hw1] at kk
 have hch := ctree_any t w1 S Z Av Aa Ap Am cv ca cp cm (he.keep hf1.plain) (fun b hb => Nat.lt_of_lt_of_le (hS b hb) hf1.size) hsz (hx.keep (hf1.same fun b hb => ⟨hS b hb, id⟩))
 unfold trV at hch ⊢
 rw [← hn1, ← hn2, ← hn3, ← hn4, ← hF] at hch
 rw [← hn1, ← hn2, ← hn3, ← hn4]
 rw [← hn3] at hl3
 have HCH := Lib.hid hch
 have HN := Lib.hid (And.intro hn1 (And.intro hn2 (And.intro hn3 hn4)))
 have HX := Lib.hid (And.intro hS (And.intro hsz (And.intro hx (And.intro htab hpin))))
 have HW1 := Lib.hid hw1
 have HF1 := Lib.hid hf1
 have HK0 := Lib.hid kk.1
 have HK1 := Lib.hid kk.2
 have HFF := Lib.hid hF
 have HZ1 := Lib.hid (show w1.heap.size = w.heap.size + 2 from by rw [hw1]; simp)
 clear hch hn1 hn2 hn3 hn4 hS hsz hx htab hpin hw1 hf1 kk hF he
 obtain ⟨F1, F2⟩ := F
 go_enter Tryz.func14, Tryz.ntmps14
 go_wp2_with fail
 rw [← HW1.out]
 go_at_call 26
 refine HCH.out.mono ?_
 rintro _ w2 ⟨rfl, hf2⟩
 have HF2 := Lib.hid hf2
 have HF02 := Lib.hid (HF1.out.trans hf2)
 have hk0 := HK0.out.fr0 hf2
 have hk1 := HK1.out.fr0 hf2
 have HK02 := Lib.hid hk0
 have HK12 := Lib.hid hk1
 clear hf2
 by_cases h0 : F2 = 0
 ·subst h0
  have hk := hk0.cell 0
  have hkl := hk0.lt
  simp only [List.getElem?_toArray, List.getElem?_cons_succ, List.getElem?_cons_zero] at hk
  have HOK := Lib.hid (treeC_no (t := t) (by rw [← HFF.out]))
  have hmm := @run_makeMap Tryz.prog
  obtain ⟨w3, hw3⟩ : ∃ y, y = w2.alloc (.map #[] 0) := ⟨_, rfl⟩
  have hf3 : Fr NoT w2 w3 := by rw [hw3]; exact (Fr.refl _ _).alloc _
  have hm3 : MpV w3 w2.heap.size 0 fun _ => none := by rw [hw3]; exact MpV.made w2
  have hfw3 : Fr NoT w w3 := HF02.out.trans hf3
  obtain ⟨csv, hcl, hrowv, honev, hnilv, hcsv⟩ := slV HX.out.2.2.1.vars
  have hclv := cloneV_any Av n1 cv csv w3 (by rw [HN.out.1]; exact Nat.le_trans HX.out.2.2.1.vars.1 HX.out.2.2.1.vars.2.1.1) (by rw [HN.out.1]; exact HX.out.2.2.1.vars.2.1.2) (by rw [HN.out.1]; exact hcl) honev (fun e => by rw [HN.out.1]; exact hnilv e) (fun ad e j u hj => by
   have h1 := hcsv ad e j u hj
   exact (hfw3.cell (cell_low h1) id).trans h1)
  have HCLV := Lib.hid hclv
  have HW3 := Lib.hid hw3
  have HF3 := Lib.hid hf3
  have HM3 := Lib.hid hm3
  have HROWV := Lib.hid hrowv
  have HFW3 := Lib.hid hfw3
  clear hclv hw3 hf3 hm3 hcl hrowv honev hnilv hcsv hfw3
  go_wp2_with fail
  rw [← HW3.out]
  go_at_call 27
  refine HCLV.out.mono ?_
  rintro _ w4 ⟨v, rfl, hown4, hf4, Av', cv', rfl⟩
  obtain ⟨w5, hw5⟩ : ∃ y, y = w4.alloc (.cells #[.map (some w2.heap.size), .int .i64 0, .slice Av' n1 cv', .int .i64 0] 66) := ⟨_, rfl⟩
  have hf5 : Fr NoT w4 w5 := by rw [hw5]; exact (Fr.refl _ _).alloc _
  have hk5 : Bk w5 w4.heap.size 66 #[.map (some w2.heap.size), .int .i64 0, .slice Av' n1 cv', .int .i64 0] := by rw [hw5]; exact Bk.new _ _ _
  have hf35 : Fr NoT w3 w5 := hf4.trans hf5
  have hown5 := rw_keep hown4 hf5 fun _ _ => id
  have hk05 := (HK02.out.fr0 HF3.out).fr0 hf35
  have hk15 := (HK12.out.fr0 HF3.out).fr0 hf35
  have hk04 := (HK02.out.fr0 HF3.out).fr0 hf4
  have x2 := hk04.cell 2
  have x2l := hk04.lt
  simp only [List.getElem?_toArray, List.getElem?_cons_succ, List.getElem?_cons_zero] at x2
  have hz35 := hf4.size
  have hz23 : w3.heap.size = w2.heap.size + 1 := by rw [HW3.out]; simp
  have hzz : w.heap.size + 2 ≤ w2.heap.size := by have := HZ1.out; have := HF2.out.size; omega
  have hvl : ∀ i, (Value.slice Av' n1 cv').ownBlock = some i → w3.heap.size ≤ i ∧ i < w4.heap.size := fun i hi => row_lt hown4 hi
  have HVL := Lib.hid hvl
  have HB := Lib.hid (And.intro hk5 (And.intro hk05 (And.intro hk15 (And.intro hown5 (And.intro hz35 (And.intro hz23 hzz))))))
  have HST := Lib.hid (show MpV w5 w2.heap.size 0 (fun _ => none) ∧ PrM w S (procsOf (t.procs.take 0)) (fun _ => none) ∧ Fr NoT w5 w5 from ⟨HM3.out.fr hf35 id, ⟨fun _ _ => rfl, fun y x h => by simp [procsOf] at h⟩, Fr.refl _ _⟩)
  have HFW5 := Lib.hid (HFW3.out.trans hf35)
  have HW5 := Lib.hid hw5
  clear hvl hown4 hf4 hw5 hf5 hk5 hf35 hown5 hk05 hk15 hz35 hz23 hzz hk hkl hk0 hk1
  go_wp2_with fail
  rw [← HW5.out]
  clear x2 x2l hk04
  go_loopw [28] (fun i wr => ∃ k : Nat, k ≤ n3 ∧ i = .int .i64 k ∧ ∃ f : List UInt8 → Option Value, Hid (MpV wr w2.heap.size k f ∧ PrM w S (procsOf (t.procs.take k)) f ∧ Fr (fun i => i = w2.heap.size) w5 wr)) (fun i _ => n3 - (intOf i).toNat)
  case atStart => exact ⟨0, Nat.zero_le _, rfl, _, Lib.hid ⟨HST.out.1, HST.out.2.1, Fr.refl _ _⟩⟩
  case round =>
   clear HST
   obtain ⟨k, hk, rfl, f, hb⟩ := hrel
   by_cases hlt : k < n3
   ·
    obtain ⟨px, pr, hd, hd1⟩ := drop_head1 (show k < t.procs.length from by rw [← HN.out.2.2.1]; exact hlt)
    obtain ⟨gb, go, rfl, hat⟩ := HX.out.2.2.1.procs.2.2 (by rw [← HN.out.2.2.1]; omega)
    have hat1 := hat.drop k
    rw [hd] at hat1
    obtain ⟨⟨hbS, _, r1, d0, d3⟩, ⟨A1, q1, d1, s1⟩, ⟨A2, q2, d2, s2⟩, _⟩ := hat1
    have hbp : w.heap.size ≤ w2.heap.size := HF02.out.size
    have hfwr : Fr NoT w wr := Fr.back1 HFW5.out (hb.out.2.2.mono fun i _ e => (by have e : i = w2.heap.size := e; show w.heap.size ≤ i; omega)) (Nat.le_refl _)
    have hg0 := HX.out.1 _ hbS
    have c0 := (hfwr.cell (p := ⟨gb, go + k * 4, none⟩) hg0 id).trans d0
    have c1 := (hfwr.cell (p := ⟨gb, go + k * 4 + 1, none⟩) hg0 id).trans d1
    have c2 := (hfwr.cell (p := ⟨gb, go + k * 4 + 2, none⟩) hg0 id).trans d2
    have c3 := (hfwr.cell (p := ⟨gb, go + k * 4 + 3, none⟩) hg0 id).trans d3
    have hxr : gb < wr.heap.size := Nat.lt_of_lt_of_le hg0 hfwr.size
    have hlt' : (k : Int) < (n3 : Int) := by omega
    have hge : (0 : Int) ≤ (k : Int) := by omega
    obtain ⟨l1, hl1⟩ : ∃ y, y = px.params.length := ⟨_, rfl⟩
    obtain ⟨l2, hl2⟩ : ∃ y, y = px.body.len := ⟨_, rfl⟩
    rw [← hl1] at c1
    rw [← hl2] at c2
    obtain ⟨w6, hw6⟩ : ∃ y, y = wr.alloc (.cells #[.string px.nm, .slice A1 l1 q1, .slice A2 l2 q2, .int .i64 px.at_] 59) := ⟨_, rfl⟩
    have hf6 : Fr NoT wr w6 := by rw [hw6]; exact (Fr.refl _ _).alloc _
    have hk6 : Bk w6 wr.heap.size 59 #[.string px.nm, .slice A1 l1 q1, .slice A2 l2 q2, .int .i64 px.at_] := by rw [hw6]; exact Bk.new _ _ _
    have hkP := (HB.out.1.fr hb.out.2.2 (fun e => by have e : w4.heap.size = w2.heap.size := e; have := HB.out.2.2.2.2.1; have := HB.out.2.2.2.2.2.1; omega)).fr0 hf6
    obtain ⟨w7, hput, hm7, hg7⟩ := ((hb.out.1.fr hf6 id).fr ((Fr.refl NoT w6).drew) id).put Tryz.underlying63 (s := px.nm) ((HX.out.2.1.procs px (by have := List.mem_of_mem_drop (i := k) (l := t.procs) (a := px) (by rw [hd]; simp); exact this)).1) (.agg #[.string px.nm, .slice A1 l1 q1, .slice A2 l2 q2, .int .i64 px.at_]) (by have h1 := HN.out.2.2.1; unfold maxLen; omega)
    have p0 := hkP.cell 0
    have pl := hkP.lt
    have t0 := hk6.cell 0
    have t1 := hk6.cell 1
    have t2 := hk6.cell 2
    have t3 := hk6.cell 3
    have tl := hk6.lt
    simp only [List.getElem?_toArray, List.getElem?_cons_succ, List.getElem?_cons_zero] at p0 t0 t1 t2 t3
    have hf57 : Fr (fun i => i = w2.heap.size) w5 w7 := (hb.out.2.2.trans hf6.any).trans (((Fr.refl _ w6).drew).trans (Fr.grown hg7 fun g e _ => (Option.some.inj e).symm))
    have hNX : MpV w7 w2.heap.size (k + 1) (fun y => if y = px.nm.data.toList then some (prcV px A1 q1 A2 q2) else f y) ∧ PrM w S (procsOf (t.procs.take (k + 1))) (fun y => if y = px.nm.data.toList then some (prcV px A1 q1 A2 q2) else f y) ∧ Fr (fun i => i = w2.heap.size) w5 w7 := by
     refine ⟨?_, ?_, hf57⟩
     ·have := hm7
      rw [hl1, hl2] at this
      exact this
     ·have e9 : t.procs.take (k + 1) = t.procs.take k ++ [px] := by
       have h1 := List.take_add_one (l := t.procs) (i := k)
       have h2 : t.procs[k]? = some px := by
        have := congrArg List.head? hd
        rw [List.head?_drop] at this
        exact this
       rw [h1, h2]; rfl
      rw [e9]
      exact hb.out.2.1.put (s1.imp fun _ _ => VaR.lax) (s2.imp fun _ _ => StR.lax)
    have HNX := Lib.hid hNX
    have HW6 := Lib.hid hw6
    clear hd hd1 hat hbS r1 d0 d1 d2 d3 s1 s2 hfwr hg0 hl1 hl2 hw6 hf6 hk6 hkP hm7 hg7 hf57 hNX
    go_wp2_with fail
    rw [← HW6.out]
    clear c0 c1 c2 c3 hxr
    refine wp_region_E (fun W' => w4.heap.size < W'.heap.size ∧ wr.heap.size < W'.heap.size ∧ W'.cell? ⟨w4.heap.size, 0, none⟩ = some (.map (some w2.heap.size)) ∧ W'.cell? ⟨wr.heap.size, 0, none⟩ = some (.string px.nm) ∧ W'.cell? ⟨wr.heap.size, 1, none⟩ = some (.slice A1 l1 q1) ∧ W'.cell? ⟨wr.heap.size, 2, none⟩ = some (.slice A2 l2 q2) ∧ W'.cell? ⟨wr.heap.size, 3, none⟩ = some (.int .i64 px.at_)) (fun i => decide (i < 7)) (by kernel_rfl) ⟨pl, tl, p0, t0, t1, t2, t3⟩ (fun hHeld => ?_)
    refine wpE_pure 0 (v := ?_) rfl (by kernel_rfl) (fun _ _ _ h => h) (by rfl) ?_ ?_; rotate_left
    ·intro wz; go_simp; try with_reducible rfl
    try simp only [Act.put, List.setIfInBounds_toArray, List.set_cons_zero, List.set_cons_succ]
    refine wpE_pure 1 (v := ?_) rfl (by kernel_rfl) (fun _ _ _ h => h) (by rfl) ?_ ?_; rotate_left
    ·intro wz; go_simp; try with_reducible rfl
    try simp only [Act.put, List.setIfInBounds_toArray, List.set_cons_zero, List.set_cons_succ]
    refine wpE_pure 2 (v := ?_) rfl (by kernel_rfl) (fun _ _ _ h => h) (by rfl) ?_ ?_; rotate_left
    ·intro wz; go_simp; try with_reducible rfl
    try simp only [Act.put, List.setIfInBounds_toArray, List.set_cons_zero, List.set_cons_succ]
    refine wpE_pure 4 (v := ?_) rfl (by kernel_rfl) (fun _ _ _ h => h) (by rfl) ?_ ?_; rotate_left
    ·intro wz; go_simp; try with_reducible rfl
    try simp only [Act.put, List.setIfInBounds_toArray, List.set_cons_zero, List.set_cons_succ]
    refine wpE_take 3 (v := ?_) rfl (by kernel_rfl) (fun _ _ _ h => h) hHeld (by rfl) ?_ ?_; rotate_left
    ·intro wz hSz; (try dsimp only at hSz); go_simp; try with_reducible rfl
    try simp only [Act.put, List.setIfInBounds_toArray, List.set_cons_zero, List.set_cons_succ]
    refine wpE_take 5 (v := ?_) rfl (by kernel_rfl) (fun _ _ _ h => h) hHeld (by rfl) ?_ ?_; rotate_left
    ·intro wz hSz; (try dsimp only at hSz); go_simp; try with_reducible rfl
    try simp only [Act.put, List.setIfInBounds_toArray, List.set_cons_zero, List.set_cons_succ]
    refine wpE_take 6 (v := ?_) rfl (by kernel_rfl) (fun _ _ _ h => h) hHeld (by rfl) ?_ ?_; rotate_left
    ·intro wz hSz; (try dsimp only at hSz); go_simp; try with_reducible rfl
    try simp only [Act.put, List.setIfInBounds_toArray, List.set_cons_zero, List.set_cons_succ]
    refine wpE_next 7 rfl (by kernel_rfl) (fun KK hK => ?_)
    go_simp
    refine hK _ _ (fun h => absurd h (by decide)) ?_
    clear hK KK
    try simp only [Act.put, List.setIfInBounds_toArray, List.set_cons_zero, List.set_cons_succ]
    refine wpE_done (by kernel_rfl) ?_
    clear p0 pl t0 t1 t2 t3 tl hput hHeld
    go_wp2_with fail
    go_roundw
    case rel => exact ⟨k + 1, by omega, by go_num, _, HNX⟩
    case measure => simp [intOf]; omega
   ·have hlt' : ¬ (k : Int) < (n3 : Int) := by omega
    have htk : t.procs.take k = t.procs := List.take_of_length_le (by have := HN.out.2.2.1; omega)
    have hbp : w.heap.size ≤ w2.heap.size := HF02.out.size
    have hfwr : Fr NoT w wr := Fr.back1 HFW5.out (hb.out.2.2.mono fun i _ e => (by have e : i = w2.heap.size := e; show w.heap.size ≤ i; omega)) (Nat.le_refl _)
    have hz4 := HB.out.2.2.2.2.1
    have hz3 := HB.out.2.2.2.2.2.1
    have hz2 := HB.out.2.2.2.2.2.2
    have hz5 : w5.heap.size = w4.heap.size + 1 := by rw [HW5.out]; simp
    have hzr := hb.out.2.2.size
    have hprm := hb.out.2.1
    rw [htk] at hprm
    obtain ⟨w7, hw7⟩ : ∃ y, y = wr.alloc (.map #[] 0) := ⟨_, rfl⟩
    have hf7 : Fr NoT wr w7 := by rw [hw7]; exact (Fr.refl _ _).alloc _
    have hn7 : NmM w7 wr.heap.size 0 fun _ => none := by rw [hw7]; exact MpV.made wr
    obtain ⟨K, hKd⟩ : ∃ K : InK, K = ⟨w, S, w4.heap.size, w2.heap.size, k, f, procsOf t.procs⟩ := ⟨_, rfl⟩
    have hOk : K.Ok := by
     rw [hKd]
     exact ⟨HX.out.2.2.2.1, HX.out.1, hprm.1, hprm.2, fun y x e => procs_few HOK.out HX.out.2.1 HX.out.2.2.2.2 e⟩
    have hvbp : ∀ i, (Value.slice Av' n1 cv').ownBlock = some i → ¬ i = w2.heap.size := fun i hi e => by have := HVL.out i hi; omega
    have h7 : InAt K w7 ⟨0, t.vars, 0⟩ (.slice Av' n1 cv') := by
     rw [hKd]
     refine ⟨hfwr.trans hf7, (HB.out.1.fr hb.out.2.2 (fun e => by have e : w4.heap.size = w2.heap.size := e; omega)).fr0 hf7, hb.out.1.fr hf7 id, ⟨csv, ?_, (RowR.imp (w' := w) oneV_keep (SameS.refl _ _) (fun _ _ => trivial) HROWV.out : RowR oneV w (fun _ => True) t.vars csv).any⟩, ⟨by show w.heap.size ≤ w4.heap.size; omega, hbp⟩, ⟨by show w4.heap.size ≠ w2.heap.size; omega, fun e => ?_, fun e => hvbp _ e rfl⟩, by show 0 ≤ 261; omega, by show 0 ≤ 0 + 1; omega, ?_⟩
     ·show w7.ownsRow w.heap.size _ _ _ t.vars.length csv
      rw [← HN.out.1]
      exact row_lower (rw_keep (rw_keep HB.out.2.2.2.1 hb.out.2.2 hvbp) hf7 fun _ _ => id) (by omega)
     ·have := (HVL.out _ e).2
      simp at this
     ·have := (fewT_iff.1 HOK.out.few).1
      show t.vars.length ≤ 36
      omega
    have hinb : InB K (.slice Av' n1 cv') wr.heap.size := by
     rw [hKd]
     refine ⟨by show wr.heap.size ≠ w4.heap.size; omega, by show wr.heap.size ≠ w2.heap.size; omega, fun e => ?_⟩
     have := (HVL.out _ e).2
     omega
    have hstm := stc_all hOk t.procs.length t.main (by rw [hKd]; exact main_low HOK.out) HX.out.2.1.main w7 ⟨0, t.vars, 0⟩ (.slice Av' n1 cv') (fun _ => none) wr.heap.size 0 Am cm h7 (Nat.le_refl _) hn7 hinb (by rw [hKd]; exact HX.out.2.2.1.main.imp fun _ _ => StR.lax)
    have hQ : inlF K.procs t.procs.length t.main (fun _ => none) ⟨0, t.vars, 0⟩ = inlQ t := by rw [hKd]; rfl
    have hPe : K.P = w4.heap.size := by rw [hKd]
    rw [hQ, hPe, ← HN.out.2.2.2] at hstm
    have hkt := HB.out.2.1.fr hb.out.2.2 (fun e => by have e : w.heap.size = w2.heap.size := e; omega)
    have hku := HB.out.2.2.1.fr hb.out.2.2 (fun e => by have e : w.heap.size + 1 = w2.heap.size := e; omega)
    have x3 := hkt.cell 3
    have x3l := hkt.lt
    simp only [List.getElem?_toArray, List.getElem?_cons_succ, List.getElem?_cons_zero] at x3
    have HSTM := Lib.hid hstm
    have HW7 := Lib.hid hw7
    have HF7 := Lib.hid hf7
    have HKT := Lib.hid hkt
    have HKU := Lib.hid hku
    have HKd := Lib.hid hKd
    have HOk := Lib.hid hOk
    have HFWR := Lib.hid hfwr
    have HZ := Lib.hid (And.intro hz4 (And.intro hz3 (And.intro hz2 (And.intro hz5 hzr))))
    clear hstm hw7 hf7 hkt hku hKd hOk hfwr hz4 hz3 hz2 hz5 hzr hprm hn7 hvbp h7 hinb hQ hPe hbp hb
    go_wp2_with fail
    rw [← HW7.out]
    go_at_call 28
    refine HSTM.out.mono ?_
    rintro _ w8 ⟨v8, vo8, acc8, cs8, rfl, h8, hout8, hr8, hf8, hsp8, hm8, hc8⟩
    obtain ⟨A8, c8, rfl, hb8⟩ := hout8.slice (by have := h8.most.1; omega)
    obtain ⟨csv8, hrow8, hrows8⟩ := h8.row
    obtain ⟨V8, cV8, rfl, _⟩ := row_slice hrow8
    have hnT : ∀ i, i < w3.heap.size → ¬ InT K (.slice Av' n1 cv') i := fun i hi e => by
     rcases e with e | e
     ·rw [HKd.out] at e; have e : i = w4.heap.size := e; have := HZ.out.1; omega
     ·have := HVL.out i e; omega
    have hz := HZ.out
    have hku8 := (HKU.out.fr0 HF7.out).fr hf8 (hnT _ (by omega))
    have hkt8 := (HKT.out.fr0 HF7.out).fr hf8 (hnT _ (by omega))
    have hfw8 : Fr NoT w w8 := Fr.thenT (HFWR.out.trans HF7.out) hf8 fun i hi e => hnT i (by omega) e
    have hw78 : w7.heap.size ≤ w8.heap.size := hf8.size
    have hwr7 : wr.heap.size ≤ w7.heap.size := HF7.out.size
    have hfull := full_any K w8 (inlQ t).2 _ h8
    have hPe : K.P = w4.heap.size := by rw [HKd.out]
    rw [hPe] at hfull
    have hp8 := h8.bk
    rw [hPe] at hp8
    obtain ⟨s8, hs8⟩ : ∃ y, y = (inlQ t).2 := ⟨_, rfl⟩
    rw [← hs8] at hfull hp8 hrow8 hrows8
    have hvb : ∀ i, (Value.slice V8 s8.vars.length cV8).ownBlock = some i → ¬ i = w.heap.size + 1 := fun i hi e => by
     rw [hs8] at hi
     rcases hsp8 with k9 | ⟨g9, k9, hg9⟩
     ·have := HVL.out i (k9 ▸ hi); omega
     ·rw [k9] at hi; have := Option.some.inj hi; omega
    have hacc8 : acc8.length ≤ 261 := by have := h8.most.1; omega
    obtain ⟨vl, hvl⟩ : ∃ y, y = s8.vars.length := ⟨_, rfl⟩
    rw [← hvl] at hp8 hvb
    have HFULL := Lib.hid hfull
    have H8 := Lib.hid (And.intro hb8 (And.intro hrow8 (And.intro hrows8 (And.intro hr8 (And.intro hvb hacc8)))))
    have HS8 := Lib.hid (And.intro hs8 hvl)
    have HKU8 := Lib.hid hku8
    have HKT8 := Lib.hid hkt8
    have HFW8 := Lib.hid hfw8
    have HP8 := Lib.hid hp8
    have HZZ := Lib.hid (And.intro hw78 (And.intro hwr7 (by omega : w.heap.size + 2 ≤ w7.heap.size)))
    clear hb8 hrow8 hrows8 hr8 hvb hacc8 hs8 hvl hku8 hkt8 hfw8 hp8 hw78 hwr7 hfull hPe hz hnT hf8 hsp8 hm8 hc8 h8 hout8
    go_wp2_with fail
    go_at_call 29
    refine HFULL.out.mono ?_
    rintro _ w9 ⟨rfl, rfl⟩
    have z0 := HKU8.out.frozen 0
    have z1 := HKU8.out.frozen 1
    have z2 := HKU8.out.frozen 2
    have z3 := HKU8.out.frozen 3
    have y0 := HKU8.out.cell 0
    have y1 := HKU8.out.cell 1
    have y2 := HKU8.out.cell 2
    have y3 := HKU8.out.cell 3
    have yl := HKU8.out.lt
    simp only [List.getElem?_toArray, List.getElem?_cons_succ, List.getElem?_cons_zero] at y0 y1 y2 y3
    cases hfl : fullB s8 with
    | true =>
     have HR := Lib.hid (show inlT t = (noTre, 9) from by unfold inlT; rw [← HFF.out, if_pos rfl, ← HS8.out.1, hfl]; rfl)
     obtain ⟨wf, hwf⟩ : ∃ y, y = (((w9.setCell ⟨w.heap.size + 1, 0, none⟩ (.slice none 0 0)).setCell ⟨w.heap.size + 1, 1, none⟩ (.slice none 0 0)).setCell ⟨w.heap.size + 1, 2, none⟩ (.slice none 0 0)).setCell ⟨w.heap.size + 1, 3, none⟩ (.slice none 0 0) := ⟨_, rfl⟩
     have hff : Fr NoT w wf := by rw [hwf]; exact (((HFW8.out.high (by omega) _ _).high (by omega) _ _).high (by omega) _ _).high (by omega) _ _
     have hkf : Bk wf (w.heap.size + 1) 27 #[.slice none 0 0, .slice none 0 0, .slice none 0 0, .slice none 0 0] := by
      have := (((HKU8.out.set_ 0 (.slice none 0 0)).set_ 1 (.slice none 0 0)).set_ 2 (.slice none 0 0)).set_ 3 (.slice none 0 0)
      rw [hwf]; simpa using this
     have HWF := Lib.hid hwf
     have HFF2 := Lib.hid hff
     have HKF := Lib.hid hkf
     clear hwf hff hkf hfl
     go_wp2_with fail
     rw [← HWF.out]
     refine bodyPost_ret (res_cell_tmp (p := 2) (q := 3) (ty := 27) rfl _ _ (w.heap.size + 1) 27 _ (0, 0) _ rfl HKF.out Tryz.underlying27 rfl sizeTr) rfl ?_
     rw [HR.out]
     exact ⟨none, none, none, none, 0, 0, 0, 0, rfl, noTre_at _ _, HFF2.out⟩
    | false =>
     have HR := Lib.hid (show inlT t = (⟨s8.vars, t.arrays, [], stsOf acc8⟩, 0) from by
      unfold inlT
      rw [← HFF.out, if_pos rfl, ← HS8.out.1, hfl]
      simp only [Bool.false_eq_true, if_false, H8.out.2.2.2.1])
     obtain ⟨csa, hcla, hrowa, honea, hnila, hcsa⟩ := slA HX.out.2.2.1.arrays
     have hcla2 := fun (W : World) (hf : Fr NoT w9 W) => cloneA_any Aa n2 ca csa W (by rw [HN.out.2.1]; exact Nat.le_trans HX.out.2.2.1.arrays.1 HX.out.2.2.1.arrays.2.1.1) (by rw [HN.out.2.1]; exact HX.out.2.2.1.arrays.2.1.2) (by rw [HN.out.2.1]; exact hcla) honea (fun e => by rw [HN.out.2.1]; exact hnila e) (fun ad e j u hj => by
      have h1 := hcsa ad e j u hj
      exact ((HFW8.out.trans hf).cell (cell_low h1) id).trans h1)
     have HCLA := Lib.hid hcla2
     have HROWA := Lib.hid hrowa
     have p2 := HP8.out.cell 2
     have pl := HP8.out.lt
     have q1 := HKT8.out.cell 1
     have ql := HKT8.out.lt
     simp only [List.getElem?_toArray, List.getElem?_cons_succ, List.getElem?_cons_zero] at p2 q1
     have HFL := Lib.hid hfl
     clear hcla hrowa honea hnila hcsa hcla2 hfl
     go_wp2_with fail
     refine wp_region_E (fun W' => w4.heap.size < W'.heap.size ∧ w.heap.size < W'.heap.size ∧ W'.cell? ⟨w4.heap.size, 2, none⟩ = some (.slice V8 vl cV8) ∧ W'.cell? ⟨w.heap.size, 1, none⟩ = some (.slice Aa n2 ca)) (fun i => decide (i < 9)) (by kernel_rfl) ⟨pl, ql, p2, q1⟩ (fun hHeld => ?_)
     refine wpE_pure 0 (v := ?_) rfl (by kernel_rfl) (fun _ _ _ h => h) (by rfl) ?_ ?_; rotate_left
     ·intro wz; go_simp; try with_reducible rfl
     try simp only [Act.put, List.setIfInBounds_toArray, List.set_cons_zero, List.set_cons_succ]
     refine wpE_pure 1 (v := ?_) rfl (by kernel_rfl) (fun _ _ _ h => h) (by rfl) ?_ ?_; rotate_left
     ·intro wz; go_simp; try with_reducible rfl
     try simp only [Act.put, List.setIfInBounds_toArray, List.set_cons_zero, List.set_cons_succ]
     refine wpE_pure 2 (v := ?_) rfl (by kernel_rfl) (fun _ _ _ h => h) (by rfl) ?_ ?_; rotate_left
     ·intro wz; go_simp; try with_reducible rfl
     try simp only [Act.put, List.setIfInBounds_toArray, List.set_cons_zero, List.set_cons_succ]
     refine wpE_pure 4 (v := ?_) rfl (by kernel_rfl) (fun _ _ _ h => h) (by rfl) ?_ ?_; rotate_left
     ·intro wz; go_simp; try with_reducible rfl
     try simp only [Act.put, List.setIfInBounds_toArray, List.set_cons_zero, List.set_cons_succ]
     refine wpE_pure 7 (v := ?_) rfl (by kernel_rfl) (fun _ _ _ h => h) (by rfl) ?_ ?_; rotate_left
     ·intro wz; go_simp; try with_reducible rfl
     try simp only [Act.put, List.setIfInBounds_toArray, List.set_cons_zero, List.set_cons_succ]
     refine wpE_take 3 (v := ?_) rfl (by kernel_rfl) (fun _ _ _ h => h) hHeld (by rfl) ?_ ?_; rotate_left
     ·intro wz hSz; (try dsimp only at hSz); go_simp; try with_reducible rfl
     try simp only [Act.put, List.setIfInBounds_toArray, List.set_cons_zero, List.set_cons_succ]
     refine wpE_take 5 (v := ?_) rfl (by kernel_rfl) (fun _ _ _ h => h) hHeld (by rfl) ?_ ?_; rotate_left
     ·intro wz hSz; (try dsimp only at hSz); go_simp; try with_reducible rfl
     try simp only [Act.put, List.setIfInBounds_toArray, List.set_cons_zero, List.set_cons_succ]
     refine wpE_next 6 rfl (by kernel_rfl) (fun KK hK => ?_)
     go_simp
     go_at_call 30
     refine (HCLA.out _ ((Fr.refl NoT w9).drew)).mono ?_
     rintro _ w10 ⟨va, rfl, howna, hf10', Ax, cx, rfl⟩
     have hf10 : Fr NoT w9 w10 := ((Fr.refl NoT w9).drew).trans hf10'
     have hs10 : w4.heap.size < w10.heap.size ∧ w.heap.size < w10.heap.size ∧ w10.cell? ⟨w4.heap.size, 2, none⟩ = some (.slice V8 vl cV8) ∧ w10.cell? ⟨w.heap.size, 1, none⟩ = some (.slice Aa n2 ca) := ⟨Nat.lt_of_lt_of_le pl hf10.size, Nat.lt_of_lt_of_le ql hf10.size, (hf10.cell (p := ⟨w4.heap.size, 2, none⟩) pl id).trans p2, (hf10.cell (p := ⟨w.heap.size, 1, none⟩) ql id).trans q1⟩
     have hk10 := HKU8.out.fr0 hf10
     clear z0 z1 z2 z3 y0 y1 y2 y3 yl
     have z0 := hk10.frozen 0
     have z1 := hk10.frozen 1
     have z2 := hk10.frozen 2
     have z3 := hk10.frozen 3
     have y0 := hk10.cell 0
     have y1 := hk10.cell 1
     have y2 := hk10.cell 2
     have y3 := hk10.cell 3
     have yl := hk10.lt
     simp only [List.getElem?_toArray, List.getElem?_cons_succ, List.getElem?_cons_zero] at y0 y1 y2 y3
     have HF10 := Lib.hid hf10
     have HK10 := Lib.hid hk10
     have HOA := Lib.hid howna
     clear hf10 hf10' hk10 howna hHeld
     try dsimp only
     refine hK _ _ (fun _ _ => hs10) ?_
     clear hK KK hs10
     try simp only [Act.put, List.setIfInBounds_toArray, List.set_cons_zero, List.set_cons_succ]
     refine wpE_pure 8 (v := ?_) rfl (by kernel_rfl) (fun _ _ _ h => h) (by rfl) ?_ ?_; rotate_left
     ·intro wz; go_simp; try with_reducible rfl
     try simp only [Act.put, List.setIfInBounds_toArray, List.set_cons_zero, List.set_cons_succ]
     refine wpE_next 9 rfl (by kernel_rfl) (fun KK hK => ?_)
     go_simp
     refine hK _ _ (fun h => absurd h (by decide)) ?_
     clear hK KK
     try simp only [Act.put, List.setIfInBounds_toArray, List.set_cons_zero, List.set_cons_succ]
     refine wpE_next 10 rfl (by kernel_rfl) (fun KK hK => ?_)
     go_simp
     refine hK _ _ (fun h => absurd h (by decide)) ?_
     clear hK KK
     try simp only [Act.put, List.setIfInBounds_toArray, List.set_cons_zero, List.set_cons_succ]
     refine wpE_done (by kernel_rfl) ?_
     obtain ⟨wf, hwf⟩ : ∃ y, y = (((w10.setCell ⟨w.heap.size + 1, 0, none⟩ (.slice V8 vl cV8)).setCell ⟨w.heap.size + 1, 1, none⟩ (.slice Ax n2 cx)).setCell ⟨w.heap.size + 1, 2, none⟩ (.slice none 0 0)).setCell ⟨w.heap.size + 1, 3, none⟩ (.slice A8 acc8.length c8) := ⟨_, rfl⟩
     rw [← hwf]
     have hff0 : Fr (fun i => i = w.heap.size + 1) w10 wf := by rw [hwf]; exact Fr.own (Fr.own (Fr.own (Fr.own (Fr.refl _ _) _ _) _ _) _ _) _ _
     have hff : Fr NoT w wf := Fr.thenT (HFW8.out.trans HF10.out) hff0 fun i hi e => by have e : i = w.heap.size + 1 := e; omega
     have hkf : Bk wf (w.heap.size + 1) 27 #[.slice V8 vl cV8, .slice Ax n2 cx, .slice none 0 0, .slice A8 acc8.length c8] := by
      have := (((HK10.out.set_ 0 (.slice V8 vl cV8)).set_ 1 (.slice Ax n2 cx)).set_ 2 (.slice none 0 0)).set_ 3 (.slice A8 acc8.length c8)
      rw [hwf]; simpa using this
     have HFF0 := Lib.hid hff0
     have HFF2 := Lib.hid hff
     have HKF := Lib.hid hkf
     clear hwf hff hff0 hkf z0 z1 z2 z3 y0 y1 y2 y3 yl p2 pl q1 ql
     go_wp2_with fail
     refine bodyPost_ret (res_cell_tmp (p := 2) (q := 3) (ty := 27) rfl _ _ (w.heap.size + 1) 27 _ (0, 0) _ rfl HKF.out Tryz.underlying27 rfl sizeTr) rfl ?_
     rw [HR.out]
     obtain ⟨hb8, hrow8, hrows8, hr8, hvb, hacc8⟩ := H8.out
     have hzz := HZZ.out
     have hz10 := HF10.out.size
     have hzf := HFF0.out.size
     have hrowf : wf.ownsRow w.heap.size 43 2 (.slice V8 s8.vars.length cV8) s8.vars.length csv8 := by
      rw [HKd.out] at hrow8
      exact rw_keep (rw_keep hrow8 HF10.out fun _ _ => id) HFF0.out (by rw [HS8.out.2] at hvb; exact hvb)
     have hrowaf : wf.ownsRow w.heap.size 57 3 (.slice Ax t.arrays.length cx) t.arrays.length csa := by
      have h1 := HOA.out
      rw [HN.out.2.1] at h1
      refine row_lower (rw_keep h1 HFF0.out fun i hi e => ?_) (by have : w9.drew.heap.size = w9.heap.size := rfl; omega)
      have h2 := (row_lt h1 hi).1
      have : w9.drew.heap.size = w9.heap.size := rfl
      have e : i = w.heap.size + 1 := e
      omega
     have h9 : s8.vars.length ≤ 32 := by
      have h8 := HFL.out
      unfold fullB at h8
      simp only [Bool.or_eq_false_iff, decide_eq_false_iff_not] at h8
      omega
     obtain ⟨B1, d1, e1, hsl1⟩ := RowR.slice oneV_keep (sz := 24) hrowf (RowR.anyV hrows8) (by omega) (P := fun b o => VaR wf (New w.heap.size wf) False s8.vars b o) fun g hg hr hc => rowV (o := 0) hg hr fun j u hj => by rw [Nat.zero_add]; exact hc j u hj
     obtain ⟨B2, d2, e2, hsl2⟩ := RowR.slice oneA_keep (sz := 32) hrowaf (RowR.anyA HROWA.out) (by exact HX.out.2.2.1.arrays.2.1.2) (P := fun b o => ArR wf (New w.heap.size wf) False t.arrays b o) fun g hg hr hc => rowA (o := 0) hg hr fun j u hj => by rw [Nat.zero_add]; exact hc j u hj
     injection e1 with e11 _ e12
     injection e2 with e21 _ e22
     subst e11 e12 e21 e22
     have hml : (stsOf acc8).len = acc8.length := stsOf_len acc8
     refine ⟨V8, Ax, none, A8, cV8, cx, 0, c8, ?_, ⟨hsl1, hsl2, slr0, ?_⟩, HFF2.out⟩
     ·simp only [trV, hml, List.length_nil, HS8.out.2, HN.out.2.1]
      rfl
     ·show SlR _ (stsOf acc8).len 128 A8 c8
      rw [hml]
      exact hb8.imp fun _ _ hx => StR.more (fun i hi => ⟨by have := hi.1; omega, by have := hi.2.1; omega⟩) (StR.keep ((HF10.out.same fun i hi => ⟨hi.2.1, id⟩).trans (HFF0.out.same fun i hi => ⟨by have := hi.2.1; omega, fun e => by have e : i = w.heap.size + 1 := e; have := hi.1; omega⟩)) hx)
 ·have h0' : ¬ F2 = 0 := h0
  have z0 := hk1.frozen 0
  have z1 := hk1.frozen 1
  have z2 := hk1.frozen 2
  have z3 := hk1.frozen 3
  have y0 := hk1.cell 0
  have y1 := hk1.cell 1
  have y2 := hk1.cell 2
  have y3 := hk1.cell 3
  have yl := hk1.lt
  simp only [List.getElem?_toArray, List.getElem?_cons_succ, List.getElem?_cons_zero] at y0 y1 y2 y3
  have HR := Lib.hid (show inlT t = (noTre, F2) from by unfold inlT; rw [← HFF.out, if_neg h0])
  clear hk0 hk1
  obtain ⟨wf, hwf⟩ : ∃ y, y = (((w2.setCell ⟨w.heap.size + 1, 0, none⟩ (.slice none 0 0)).setCell ⟨w.heap.size + 1, 1, none⟩ (.slice none 0 0)).setCell ⟨w.heap.size + 1, 2, none⟩ (.slice none 0 0)).setCell ⟨w.heap.size + 1, 3, none⟩ (.slice none 0 0) := ⟨_, rfl⟩
  have hff : Fr NoT w wf := by rw [hwf]; exact (((HF02.out.high (by omega) _ _).high (by omega) _ _).high (by omega) _ _).high (by omega) _ _
  have hkf : Bk wf (w.heap.size + 1) 27 #[.slice none 0 0, .slice none 0 0, .slice none 0 0, .slice none 0 0] := by
   have := (((HK12.out.set_ 0 (.slice none 0 0)).set_ 1 (.slice none 0 0)).set_ 2 (.slice none 0 0)).set_ 3 (.slice none 0 0)
   rw [hwf]; simpa using this
  have HWF := Lib.hid hwf
  have HFF2 := Lib.hid hff
  have HKF := Lib.hid hkf
  clear hwf hff hkf
  go_wp2_with fail
  rw [← HWF.out]
  refine bodyPost_ret (res_cell_tmp (p := 2) (q := 3) (ty := 27) rfl _ _ (w.heap.size + 1) 27 _ (0, 0) _ rfl HKF.out Tryz.underlying27 rfl sizeTr) rfl ?_
  rw [HR.out]
  exact ⟨none, none, none, none, 0, 0, 0, 0, rfl, noTre_at _ _, HFF2.out⟩
end Go.Proofs.YtfcegaklbicmfaaGreatDoor
