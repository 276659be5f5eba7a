/-
  flow.Check: which graphs may be.
-/
import Derived.Test.YtdflbaipbmkdgaaFlOuts
import Derived.Test.YtdflbaipbmkdgaaFlRight
namespace Go.Proofs.Ytdflbaipbmkdgaa
open Go.RowKit Go.Shelf Go.Maps
set_option linter.unusedVariables false
set_option linter.unusedSimpArgs false

/-- a graph -/
structure Gr where
  vars : Int
  arrays : List Int
  nodes : Int
  start : Int
  last : Int
  edges : List Ed
def Gr.ok (g : Gr) : Prop := in64 g.vars ∧ in64 g.nodes ∧ in64 g.start ∧ in64 g.last
/-- the edges out of a node -/
def outE (l : List Ed) (x : Int) : List Ed := l.filter fun e => e.from_ == x
/-- does a node come round to itself by so many skips? -/
def walkR (l : List Ed) (node : Int) : Int → Nat → Bool
  | _, 0 => false
  | at_, n + 1 =>
    match outE l at_ with
    | [e] => if e.kind = 1 then (if e.to_ = node then true else walkR l node e.to_ n) else false
    | _ => false
def nodeOk (l : List Ed) (last x : Int) : Bool := !(x == last) && rightB (outE l x) && !walkR l x x l.length
def odd1 (vars nodes : Int) (na ne : Nat) : Bool := decide (vars < 0) || decide (32 < vars) || decide (4 < (na : Int)) || decide (nodes < 2) || decide (4096 < nodes) || decide (2048 < (ne : Int))
def odd2 (nodes start last : Int) (sb : Bool) : Bool := !(decide (0 ≤ start) && decide (start < nodes)) || !(decide (0 ≤ last) && decide (last < nodes)) || (start == last) || sb
def mayG (g : Gr) : Bool := !(odd1 g.vars g.nodes g.arrays.length g.edges.length || odd2 g.nodes g.start g.last (g.arrays.any sizeBad)) && !g.edges.any (edBad g.vars g.arrays.length g.nodes) && g.edges.all fun e => nodeOk g.edges g.last e.from_

def ErrPost (b : Bool) (W : World) (e : Ending) (w' : World) : Prop := e = .returned (.int .i64 (if b then 0 else 8)) ∧ Below W.heap.size W w'

set_option maxRecDepth 100000 in
set_option maxHeartbeats 1600000 in
theorem check_odd1 (vars nodes start last : Int) (na ne : Nat) (Aa Ae : Option Addr) (ca ce : Nat) (w : World) (h : odd1 vars nodes na ne = true) (hl : ne ≤ 9223372036854775807) (hla : na ≤ 9223372036854775807) :
    Calls Try.prog 11 #[grV vars Aa na ca nodes start last Ae ne ce] w (ErrPost false w) := by
  unfold odd1 at h
  unfold grV
  cases h1 : decide (vars < 0)
  · cases h2 : decide (32 < vars)
    · cases h3 : decide (4 < (na : Int))
      · cases h4 : decide (nodes < 2)
        · cases h5 : decide (4096 < nodes)
          · have h6 : decide (2048 < (ne : Int)) = true := by rw [h1, h2, h3, h4, h5] at h; exact h
            clear h
            go_enter Try.func11, Try.ntmps11
            go_wp2
            go_ret
            exact ⟨rfl, (Below.refl _ _).alloc (Nat.le_refl _) _⟩
          · clear h
            go_enter Try.func11, Try.ntmps11
            go_wp2
            go_ret
            exact ⟨rfl, (Below.refl _ _).alloc (Nat.le_refl _) _⟩
        · clear h
          go_enter Try.func11, Try.ntmps11
          go_wp2
          go_ret
          exact ⟨rfl, (Below.refl _ _).alloc (Nat.le_refl _) _⟩
      · clear h
        go_enter Try.func11, Try.ntmps11
        go_wp2
        go_ret
        exact ⟨rfl, (Below.refl _ _).alloc (Nat.le_refl _) _⟩
    · clear h
      go_enter Try.func11, Try.ntmps11
      go_wp2
      go_ret
      exact ⟨rfl, (Below.refl _ _).alloc (Nat.le_refl _) _⟩
  · clear h
    go_enter Try.func11, Try.ntmps11
    go_wp2
    go_ret
    exact ⟨rfl, (Below.refl _ _).alloc (Nat.le_refl _) _⟩

theorem sizes_ask (w : World) (l : List Int) : AsksI 22 #[] w sizeBad l := fun n _ _ W _ => by
  simpa using size_closure n W

set_option maxRecDepth 100000 in
set_option maxHeartbeats 3200000 in
theorem check_odd2 (vars nodes start last : Int) (arrays : List Int) (ne : Nat) (Aa Ae : Option Addr) (ca ce B : Nat) (w : World) (h1 : odd1 vars nodes arrays.length ne = false) (h : odd2 nodes start last (arrays.any sizeBad) = true) (hl : ne ≤ 9223372036854775807) (hla : arrays.length ≤ 9223372036854775807)
    (hB : B ≤ w.heap.size) (hx : IsSl w B arrays Aa ca) :
    Calls Try.prog 11 #[grV vars Aa arrays.length ca nodes start last Ae ne ce] w (ErrPost false w) := by
  unfold odd2 at h
  unfold odd1 at h1
  simp only [Bool.or_eq_false_iff] at h1
  obtain ⟨⟨⟨⟨⟨o1, o2⟩, o3⟩, o4⟩, o5⟩, o6⟩ := h1
  have HX := Lib.hid hx
  clear hx
  unfold grV
  have hbb : ∀ c0 : Array Value, Below w.heap.size w (w.alloc (.cells c0 25)) := fun _ => (Below.refl _ _).alloc (Nat.le_refl _) _
  have HBB := Lib.hid hbb
  clear hbb
  cases h2 : (decide (0 ≤ start) && decide (start < nodes))
  · clear h
    go_enter Try.func11, Try.ntmps11
    go_wp2_with (go_at_call 20; refine (below_any _ _ _).mono ?_; rintro e w' ⟨rfl, rfl⟩)
    go_ret
    exact ⟨rfl, HBB.out _⟩
  cases h3 : (decide (0 ≤ last) && decide (last < nodes))
  · clear h
    go_enter Try.func11, Try.ntmps11
    go_wp2_with (go_at_call 20; refine (below_any _ _ _).mono ?_; rintro e w' ⟨rfl, rfl⟩)
    go_ret
    exact ⟨rfl, HBB.out _⟩
  cases h4 : start == last
  · have h5 : arrays.any sizeBad = true := by rw [h2, h3, h4] at h; exact h
    have H5 := Lib.hid h5
    clear h h5
    go_enter Try.func11, Try.ntmps11
    go_wp2_with (go_at_call 20; refine (below_any _ _ _).mono ?_; rintro e w' ⟨rfl, rfl⟩)
    refine (containsI sizeBad arrays Aa ca 22 #[] _ B (Nat.le_trans hB (HBB.out _).size) (HX.out.keep (Same.of (HBB.out _) hB)) (enters_of Try.func22 (by kernel_rfl) rfl) (sizes_ask _ _)).mono ?_
    rw [H5.out]
    rintro e w1 ⟨rfl, hb1⟩
    go_wp2_with fail
    go_ret
    exact ⟨rfl, (HBB.out _).trans (hb1.mono (HBB.out _).size)⟩
  · clear h
    go_enter Try.func11, Try.ntmps11
    go_wp2_with (go_at_call 20; refine (below_any _ _ _).mono ?_; rintro e w' ⟨rfl, rfl⟩)
    go_ret
    exact ⟨rfl, HBB.out _⟩
end Go.Proofs.Ytdflbaipbmkdgaa

/-
  flow.Check: the edges, and the nodes.
-/
namespace Go.Proofs.Ytdflbaipbmkdgaa
open Go.RowKit Go.Shelf Go.Maps
set_option linter.unusedVariables false
set_option linter.unusedSimpArgs false

theorem edges_ask (l : List Ed) (vars : Int) (Aa : Option Addr) (na ca : Nat) (nodes start last : Int) (Ae : Option Addr) (ne ce B G : Nat) (w : World) (hB : B ≤ w.heap.size) (hna : na ≤ 9223372036854775807)
    (hg : GrBox w G vars Aa na ca nodes start last Ae ne ce) : AsksEd 24 #[.pointer (some ⟨G, 0, none⟩)] w B (edBad vars na nodes) l := fun e _ hok W A c hb hs =>
  edge_closure e A c G vars Aa na ca nodes start last Ae ne ce B W (Nat.le_trans hB hb.size) hs hok hna (hg.keep hb)

theorem guard_cmp {vars arrs nodes : Int} {e : Ed} (h : edBad vars arrs nodes e = false) : e.kind = 6 → 3 ≤ e.cmp ∧ e.cmp ≤ 8 := fun hk => by
  simp only [edBad, mayD, Bool.or_eq_false_iff, Bool.not_eq_false', Bool.and_eq_true, cmpD, hk, if_pos, decide_eq_true_eq] at h
  exact h.2.1.2

set_option maxRecDepth 100000 in
set_option maxHeartbeats 3200000 in
theorem check_edges (vars nodes start last : Int) (arrays : List Int) (l : List Ed) (Aa Ae : Option Addr) (ca ce B : Nat) (w : World) (h1 : odd1 vars nodes arrays.length l.length = false) (h : odd2 nodes start last (arrays.any sizeBad) = false) (hl : l.length ≤ 9223372036854775807) (hla : arrays.length ≤ 9223372036854775807)
    (hB : B ≤ w.heap.size) (hx : IsSl w B arrays Aa ca) (he : EdSl w B l Ae ce) (hbad : l.any (edBad vars arrays.length nodes) = true) :
    Calls Try.prog 11 #[grV vars Aa arrays.length ca nodes start last Ae l.length ce] w (ErrPost false w) := by
  unfold odd2 at h
  unfold odd1 at h1
  simp only [Bool.or_eq_false_iff, Bool.not_eq_false'] at h1 h
  obtain ⟨⟨⟨⟨⟨o1, o2⟩, o3⟩, o4⟩, o5⟩, o6⟩ := h1
  obtain ⟨⟨⟨h2, h3⟩, h4⟩, h5⟩ := h
  have HX := Lib.hid hx
  have HE := Lib.hid he
  have HBAD := Lib.hid hbad
  have H5 := Lib.hid h5
  clear hx he hbad h5
  unfold grV
  have hbb : ∀ c0 : Array Value, Below w.heap.size w (w.alloc (.cells c0 25)) := fun _ => (Below.refl _ _).alloc (Nat.le_refl _) _
  have HBB := Lib.hid hbb
  clear hbb
  go_enter Try.func11, Try.ntmps11
  go_wp2_with (go_at_call 20; refine (below_any _ _ _).mono ?_; rintro e w' ⟨rfl, rfl⟩)
  refine (containsI sizeBad arrays Aa ca 22 #[] _ B (Nat.le_trans hB (HBB.out _).size) (HX.out.keep (Same.of (HBB.out _) hB)) (enters_of Try.func22 (by kernel_rfl) rfl) (sizes_ask _ _)).mono ?_
  rw [H5.out]
  rintro e w1 ⟨rfl, hb1⟩
  have hbox : GrBox (w.alloc (.cells #[.int .i64 vars, .slice Aa arrays.length ca, .int .i64 nodes, .int .i64 start, .int .i64 last, .slice Ae l.length ce] 25)) w.heap.size vars Aa arrays.length ca nodes start last Ae l.length ce :=
    ⟨by simp, newCell w _ _ 0, newCell w _ _ 1, newCell w _ _ 2, newCell w _ _ 3, newCell w _ _ 4, newCell w _ _ 5⟩
  have hbox1 := hbox.keep hb1
  have hb2 := (HBB.out _).trans (hb1.mono (HBB.out _).size)
  have g5 := hbox1.g5
  have HBX := Lib.hid hbox1
  have HB2 := Lib.hid hb2
  clear hbox hbox1 hb1 hb2
  go_wp2_with fail
  refine (containsEd (edBad vars arrays.length nodes) l Ae ce 24 #[.pointer (some ⟨w.heap.size, 0, none⟩)] w1 B (Nat.le_trans hB HB2.out.size) (HE.out.keep (Same.of HB2.out hB)) (enters_of Try.func24 (by kernel_rfl) rfl) (edges_ask l vars Aa arrays.length ca nodes start last Ae l.length ce B w.heap.size w1 (Nat.le_trans hB HB2.out.size) hla HBX.out)).mono ?_
  rw [HBAD.out]
  rintro e w2 ⟨rfl, hb3⟩
  go_wp2_with fail
  go_ret
  exact ⟨rfl, HB2.out.trans (hb3.mono HB2.out.size)⟩
end Go.Proofs.Ytdflbaipbmkdgaa

/-
  flow.Check: the nodes: the loop over the map of edges.
-/
namespace Go.Proofs.Ytdflbaipbmkdgaa
open Go.RowKit Go.Shelf Go.Maps

theorem outs_l (rs : List EdR) (l : List Ed) (hrs : rs.map EdR.e = l) (vars : Int) (Aa : Option Addr) (na ca : Nat) (nodes start last : Int) (Ae : Option Addr) (ce B : Nat) (w : World) (hB : B ≤ w.heap.size)
    (hlen : l.length ≤ 2048) (hc : l.length ≤ ce) (hx : 0 < l.length → ∃ b o, Ae = some ⟨b, o, none⟩ ∧ RAt w B rs b o) :
    Calls Try.prog 26 #[grV vars Aa na ca nodes start last Ae l.length ce] w (OutsPost rs w) := by
  have e : l.length = rs.length := by rw [← hrs, List.length_map]
  rw [e] at hlen hc hx ⊢
  exact outs_any rs vars Aa na ca nodes start last Ae ce B w hB hlen ⟨hc, hx⟩


theorem ExAt.more {w : World} {B B' : Nat} (hB : B ≤ B') : ∀ {xs : Exs} {b o : Nat}, ExAt w B xs b o → ExAt w B' xs b o
  | .nil, _, _, _ => trivial
  | .cons k nm n args at_ rest, b, o, hx => by
    obtain ⟨hb, h0, h1, h2, ⟨A, c, h3, hl, hc, ha⟩, h4, r0, r1, r2, hr⟩ := hx
    refine ⟨Nat.lt_of_lt_of_le hb hB, h0, h1, h2, ⟨A, c, h3, hl, hc, fun hp => ?_⟩, h4, r0, r1, r2, ExAt.more hB hr⟩
    obtain ⟨b', o', e, hx'⟩ := ha hp
    exact ⟨b', o', e, ExAt.more hB hx'⟩
theorem ExSl.more {w : World} {B B' : Nat} (hB : B ≤ B') {xs : Exs} {A : Option Addr} {c : Nat} (hx : ExSl w B xs A c) : ExSl w B' xs A c :=
  ⟨hx.1, hx.2.1, fun hp => by obtain ⟨b, o, e, hh⟩ := hx.2.2 hp; exact ⟨b, o, e, hh.more hB⟩⟩
theorem RAt.mem {w : World} {B : Nat} : ∀ {rs : List EdR} {b o : Nat}, RAt w B rs b o → ∀ r ∈ rs, ExSl w B r.e.args r.A r.c ∧ r.e.ok
  | [], _, _, _, r, hr => by cases hr
  | a :: rs, b, o, ⟨_, _, hs, hok, ht⟩, r, hr => by
    rcases List.mem_cons.1 hr with rfl | hr
    · exact ⟨hs, hok⟩
    · exact RAt.mem ht r hr
theorem RAt.of_cells {w : World} {B : Nat} {g : Nat} (hg : g < B) : ∀ {rs : List EdR} {o : Nat}, (∀ r ∈ rs, ExSl w B r.e.args r.A r.c ∧ r.e.ok) → (∀ (i : Nat) (u : Value), (flatR rs)[i]? = some u → w.cell? ⟨g, o + i, none⟩ = some u) → RAt w B rs g o
  | [], _, _, _ => trivial
  | r :: rs, o, hs, hc => by
    have h7 : r.cells.length = 7 := rfl
    refine ⟨hg, fun j u hu => hc j u ?_, (hs r (by simp)).1, (hs r (by simp)).2, RAt.of_cells hg (fun r' hr' => hs r' (by simp [hr'])) fun i u hu => ?_⟩
    · simp only [flatR, List.flatMap_cons]
      rw [List.getElem?_append_left (by rw [h7]; exact h7 ▸ (List.getElem?_eq_some_iff.1 hu).1)]
      exact hu
    · have := hc (7 + i) u (by
        simp only [flatR, List.flatMap_cons]
        rw [List.getElem?_append_right (by rw [h7]; omega), h7, show 7 + i - 7 = i from by omega]
        exact hu)
      rw [show o + 7 + i = o + (7 + i) from by omega]
      exact this
theorem outE_of (rs : List EdR) (x : Int) : outE (rs.map EdR.e) x = (outR rs x).map EdR.e := by
  simp only [outE, outR, List.filter_map]
  rfl
/-- what lies at a node -/
theorem GM.slice {w : World} {b base n : Nat} {V : Int → Value} {rs : List EdR} {D : DataW Value} (h : GM w b base n V rs D) {B : Nat} (hB : B ≤ w.heap.size) (hs : ∀ r ∈ rs, ExSl w B r.e.args r.A r.c ∧ r.e.ok) {x : Int} (hx : in64 x) :
    ∃ A c, V x = .slice A (outE (rs.map EdR.e) x).length c ∧ EdSl w w.heap.size (outE (rs.map EdR.e) x) A c := by
  have hrow := h.rows x hx
  have hlen : (outE (rs.map EdR.e) x).length = (outR rs x).length := by rw [outE_of, List.length_map]
  rcases hrow.2 with ⟨e, h0⟩ | ⟨g, cap, cur, e, hg, hh, hn, hcap, hsz, ht⟩
  · rw [hlen, h0]
    have hnil : outE (rs.map EdR.e) x = [] := List.length_eq_zero_iff.1 (hlen.trans h0)
    exact ⟨none, 0, e, by rw [hnil]; exact ⟨by simp, by simp, fun hp => by simp at hp⟩⟩
  · refine ⟨some ⟨g, 0, none⟩, cap, by rw [hlen]; exact e, by rw [hlen]; exact hn, by unfold maxLen at hcap; omega, fun hp => ⟨g, 0, rfl, ?_⟩⟩
    have hgl : g < w.heap.size := (Array.getElem?_eq_some_iff.1 hh).1
    rw [outE_of]
    refine RAt.edges (RAt.of_cells hgl (fun r hr => ?_) fun i u hu => ?_)
    · have := hs r (List.mem_filter.1 hr).1
      exact ⟨this.1.more hB, this.2⟩
    · have hi := (List.getElem?_eq_some_iff.1 hu).1
      rw [flatR_len] at hi
      rw [e] at hrow
      rw [Nat.zero_add, hrow.cellAt i hi]
      exact hu
theorem outR_has {rs : List EdR} {x : Int} (h : 0 < (outR rs x).length) : ∃ e ∈ rs.map EdR.e, e.from_ = x := by
  obtain ⟨r, hr⟩ := List.exists_mem_of_length_pos h
  have h1 := List.mem_filter.1 hr
  exact ⟨r.e, List.mem_map.2 ⟨r, h1.1, rfl⟩, eq_of_beq h1.2⟩
theorem outR_of {rs : List EdR} {e : Ed} (h : e ∈ rs.map EdR.e) : 0 < (outR rs e.from_).length := by
  obtain ⟨r, hr, rfl⟩ := List.mem_map.1 h
  exact List.length_pos_of_mem (List.mem_filter.2 ⟨hr, by simp⟩)
theorem all_no {l : List Ed} {last x : Int} (hx : ∃ e ∈ l, e.from_ = x) (h : nodeOk l last x = false) : (l.all fun e => nodeOk l last e.from_) = false := by
  obtain ⟨e, he, rfl⟩ := hx
  rw [List.all_eq_false]
  exact ⟨e, he, by simp [h]⟩
theorem walkR_skip {l : List Ed} {x a : Int} {n : Nat} {e : Ed} (h : outE l a = [e]) (hk : e.kind = 1) (ht : ¬ e.to_ = x) : walkR l x a (n + 1) = walkR l x e.to_ n := by
  simp only [walkR, h, if_pos hk, if_neg ht]
theorem walkR_stop {l : List Ed} {x a : Int} {n : Nat} (h : ∀ e, outE l a = [e] → ¬ e.kind = 1) : walkR l x a n = false := by
  cases n with
  | zero => rfl
  | succ n =>
    unfold walkR
    split
    · rename_i e he
      rw [if_neg (h e he)]
    · rfl
theorem walkR_back {l : List Ed} {x a : Int} {n : Nat} {e : Ed} (h : outE l a = [e]) (hk : e.kind = 1) (ht : e.to_ = x) : walkR l x a (n + 1) = true := by
  simp only [walkR, h, if_pos hk, if_pos ht]

set_option maxRecDepth 100000 in
set_option maxHeartbeats 3200000 in
theorem check_main (vars nodes start last : Int) (arrays : List Int) (l : List Ed) (rs : List EdR) (hrs : rs.map EdR.e = l) (Aa Ae : Option Addr) (ca ce B : Nat) (w : World) (h1 : odd1 vars nodes arrays.length l.length = false) (h : odd2 nodes start last (arrays.any sizeBad) = false) (hl : l.length ≤ 2048) (hla : arrays.length ≤ 9223372036854775807)
    (hB : B ≤ w.heap.size) (hx : IsSl w B arrays Aa ca) (he : EdSl w B l Ae ce) (hrm : ∀ r ∈ rs, ExSl w B r.e.args r.A r.c ∧ r.e.ok) (hr : 0 < l.length → ∃ b o, Ae = some ⟨b, o, none⟩ ∧ RAt w B rs b o) (hbad : l.any (edBad vars arrays.length nodes) = false) :
    Calls Try.prog 11 #[grV vars Aa arrays.length ca nodes start last Ae l.length ce] w (ErrPost (l.all fun e => nodeOk l last e.from_) w) := by
  unfold odd2 at h
  unfold odd1 at h1
  simp only [Bool.or_eq_false_iff, Bool.not_eq_false'] at h1 h
  obtain ⟨⟨⟨⟨⟨o1, o2⟩, o3⟩, o4⟩, o5⟩, o6⟩ := h1
  obtain ⟨⟨⟨h2, h3⟩, h4⟩, h5⟩ := h
  have HX := Lib.hid hx
  have HE := Lib.hid he
  have HR := Lib.hid hr
  have HRM := Lib.hid hrm
  have HBAD := Lib.hid hbad
  have H5 := Lib.hid h5
  have HRS := Lib.hid hrs
  clear hx he hbad h5 hrs hr hrm
  unfold grV
  have hbb : ∀ c0 : Array Value, Below w.heap.size w (w.alloc (.cells c0 25)) := fun _ => (Below.refl _ _).alloc (Nat.le_refl _) _
  have HBB := Lib.hid hbb
  clear hbb
  go_enter Try.func11, Try.ntmps11
  go_wp2_with (go_at_call 20; refine (below_any _ _ _).mono ?_; rintro e w' ⟨rfl, rfl⟩)
  refine (containsI sizeBad arrays Aa ca 22 #[] _ B (Nat.le_trans hB (HBB.out _).size) (HX.out.keep (Same.of (HBB.out _) hB)) (enters_of Try.func22 (by kernel_rfl) rfl) (sizes_ask _ _)).mono ?_
  rw [H5.out]
  rintro e w1 ⟨rfl, hb1⟩
  have hbox : GrBox (w.alloc (.cells #[.int .i64 vars, .slice Aa arrays.length ca, .int .i64 nodes, .int .i64 start, .int .i64 last, .slice Ae l.length ce] 25)) w.heap.size vars Aa arrays.length ca nodes start last Ae l.length ce :=
    ⟨by simp, newCell w _ _ 0, newCell w _ _ 1, newCell w _ _ 2, newCell w _ _ 3, newCell w _ _ 4, newCell w _ _ 5⟩
  have hbox1 := hbox.keep hb1
  have hb2 := (HBB.out _).trans (hb1.mono (HBB.out _).size)
  have g5 := hbox1.g5
  have HBX := Lib.hid hbox1
  have HB2 := Lib.hid hb2
  clear hbox hbox1 hb1 hb2
  go_wp2_with fail
  refine (containsEd (edBad vars arrays.length nodes) l Ae ce 24 #[.pointer (some ⟨w.heap.size, 0, none⟩)] w1 B (Nat.le_trans hB HB2.out.size) (HE.out.keep (Same.of HB2.out hB)) (enters_of Try.func24 (by kernel_rfl) rfl) (edges_ask l vars Aa arrays.length ca nodes start last Ae l.length ce B w.heap.size w1 (Nat.le_trans hB HB2.out.size) hla HBX.out)).mono ?_
  rw [HBAD.out]
  rintro e w2 ⟨rfl, hb3⟩
  have hb4 := HB2.out.trans (hb3.mono HB2.out.size)
  have hbox2 := HBX.out.keep hb3
  obtain ⟨hgl, g0, g1, g2, g3, g4, g5'⟩ := hbox2
  have HB4 := Lib.hid hb4
  clear g5 hb3 hb4
  go_wp2_with fail
  refine (outs_l rs l HRS.out vars Aa arrays.length ca nodes start last Ae ce B w2 (Nat.le_trans hB HB4.out.size) hl HE.out.1 (fun hp => by obtain ⟨b, o, e, ht⟩ := HR.out hp; exact ⟨b, o, e, ht.keep (Same.of HB4.out hB)⟩)).mono ?_
  rintro e w3 ⟨b, base, n, V, D, rfl, hgm, hbl, hbase, hb5⟩
  have hown := hgm.own
  have hb6 := HB4.out.trans (hb5.mono HB4.out.size)
  have hB3 : B ≤ w3.heap.size := Nat.le_trans hB hb6.size
  have hslice : ∀ x, in64 x → ∃ A c, V x = .slice A (outE l x).length c ∧ EdSl w3 w3.heap.size (outE l x) A c := fun x hx => by
    have := hgm.slice hB3 (fun r hr => ⟨(HRM.out r hr).1.keep (Same.of hb6 hB), (HRM.out r hr).2⟩) hx
    rw [HRS.out] at this
    exact this
  have hlook : ∀ W, Below w3.heap.size w3 W → ∀ x, in64 x → (Instr.lookup 69 (.map (some b)) (.int .i64 x) false).run Try.prog W = .ok (V x) W := fun W hW x hx => (hgm.kept (only_of_below hW none)).look hx
  have HSL := Lib.hid hslice
  have HLK := Lib.hid hlook
  have hblt : b < w3.heap.size := hown.lt
  have hgl3 : w.heap.size < w3.heap.size := Nat.lt_of_lt_of_le hgl hb5.size
  have g4' := (hb5.cell (p := ⟨w.heap.size, 4, none⟩) hgl).trans g4
  have g5 := (hb5.cell (p := ⟨w.heap.size, 5, none⟩) hgl).trans g5'
  have HB6 := Lib.hid hb6
  have HGM := Lib.hid hgm
  clear hgm g0 g1 g2 g3 g4 g5' hslice hlook hb5 hb6 hbase hbl
  go_wp2_with (first | (at_range; refine wpList_range_own _ rfl _ 69 rfl 3 23 intKey Try.underlying69 heldE b n D rfl hown ?_; intro w4 hrg0 hg0 hs0) | fail)
  go_frame
  go_loopw [5] (fun _ wr => ∃ (left : Lit → Bool) (cnt : Nat), wr.ranges Try.prog 3 heldE b w3.heap.size n D left cnt ∧ Below w3.heap.size w3 wr ∧ Hid (∀ x, in64 x → Maps.has D (.int .i64 x) = true → left (.int .i64 x) = false → nodeOk l last x = true)) (fun _ wr => wr.rangeLeft b w3.heap.size)
  case atStart => exact ⟨_, _, hrg0, ⟨hg0.os, hg0.tape, hg0.output, hg0.size, fun i hi => hg0.block i hi (by simp)⟩, fun x _ h1 h2 => by rw [h1] at h2; cases h2⟩
  case round =>
    obtain ⟨left, cnt, hrg, hbr, hok⟩ := hrel
    go_wp2_with (first
      | (at_next; refine wpList_next_ranges _ rfl _ rfl 3 intKey heldE (Value.int .i64) (fun v => v) (fun key kl hkey => by obtain ⟨x, rfl, _⟩ := Maps.keyOf_int_inv Try.underlying3 hkey; exact ⟨x, rfl⟩) (fun v y _ => ⟨v, rfl⟩) b w3.heap.size n D _ _ rfl hrg ?_ ?_)
      | fail)
    · intro _ hl0
      have hfin : (l.all fun e => nodeOk l last e.from_) = true := by
        rw [List.all_eq_true]
        intro e he
        rw [← HRS.out] at he
        have hx : in64 e.from_ := by
          obtain ⟨r, hr, rfl⟩ := List.mem_map.1 he
          exact (HRM.out r hr).2.1
        exact hok.out e.from_ hx (by rw [HGM.out.has _ hx]; simpa using outR_of he) (hl0 _)
      have HF := Lib.hid hfin
      have hbw := HB6.out.trans (hbr.mono HB6.out.size)
      have HBW := Lib.hid hbw
      clear hfin hok hbw
      go_wp2_with fail
      go_ret
      exact ⟨by rw [HF.out]; rfl, HBW.out⟩
    · intro x v kl y0 y1 w5 cnt1 hkey hlx hvy hat hrg1 hlt hg1 hs1 hen
      obtain ⟨x', ex, rfl, hwx⟩ := Maps.keyOf_int_inv Try.underlying3 hkey
      cases ex
      have hx64 : in64 x := by simpa [in64, Lit.wf, IntKind.min, IntKind.max, IntKind.signed, IntKind.bits] using hwx
      have hvV : v = V x := by
        simp only [heldE, Option.some.injEq, Prod.mk.injEq] at hvy
        have h1 := hat (.held nilS)
        rw [HGM.out.at_ x hx64, ← hvy.1] at h1
        simp only [DataW.held.injEq] at h1
        exact h1.symm
      have hhas : ∃ e ∈ l, e.from_ = x := by
        have h1 := Maps.has_true_of_atKey hat
        rw [HGM.out.has x hx64] at h1
        rw [← HRS.out]
        exact outR_has (by simpa using h1)
      obtain ⟨A, c, hVA, hsl⟩ := HSL.out x hx64
      obtain rfl := hvV.trans hVA
      have hb5 : Below w3.heap.size w3 w5 := hbr.grown hg1 hbr.size (fun g hg => by cases hg; exact Nat.le_refl _)
      have f4 := (hb5.cell (p := ⟨w.heap.size, 4, none⟩) hgl3).trans g4'
      have f5 := (hb5.cell (p := ⟨w.heap.size, 5, none⟩) hgl3).trans g5
      have hcm : ∀ a ∈ outE l x, a.kind = 6 → 3 ≤ a.cmp ∧ a.cmp ≤ 8 := fun a ha => guard_cmp (by have := List.any_eq_false.1 HBAD.out a (List.mem_filter.1 ha).1; simpa using this)
      have hm : (outE l x).length ≤ 9223372036854775807 := Nat.le_trans hsl.1 hsl.2.1
      have HS5 := Lib.hid (hsl.keep (Same.of hb5 (Nat.le_refl _)))
      have HCM := Lib.hid hcm
      have HB5 := Lib.hid hb5
      have HHAS := Lib.hid hhas
      have HX64 := Lib.hid hx64
      have HRG := Lib.hid hrg
      have HRG1 := Lib.hid hrg1
      have hbw := HB6.out.trans (hb5.mono HB6.out.size)
      have HBW := Lib.hid hbw
      clear hkey hvy hat hVA hvV hsl hb5 hcm hhas hx64 hbw hrg hrg1 hlx hwx g4' g5 hbr hown hrg0 hg0 hs0
      cases hxl : x == last
      · go_wp2_with fail
        refine (right_any (outE l x) A c w5 w3.heap.size HB5.out.size HS5.out HCM.out).mono ?_
        rintro _ w6 ⟨rfl, hb6⟩
        have hbw6 := HBW.out.trans (hb6.mono HBW.out.size)
        have hb36 := HB5.out.trans (hb6.mono HB5.out.size)
        cases hrt : rightB (outE l x)
        · have HF := Lib.hid (all_no (last := last) HHAS.out (by simp only [nodeOk, hrt]; simp))
          have HBW6 := Lib.hid hbw6
          clear hbw6 hb36 hb6 hen
          go_wp2_with fail
          go_ret
          exact ⟨by rw [HF.out]; rfl, HBW6.out⟩
        · have k4 := (hb36.cell (p := ⟨w.heap.size, 5, none⟩) hgl3).trans (by first | exact (HB5.out.cell (p := ⟨w.heap.size, 5, none⟩) hgl3).symm.trans f5)
          have HBW6 := Lib.hid hbw6
          have HB36 := Lib.hid hb36
          have HB6' := Lib.hid hb6
          have HRT := Lib.hid hrt
          clear hbw6 hb36 hb6 hen hrt f4 f5
          go_wp2_with fail
          go_loop [7, 94] (fun a i => ∃ (k : Nat) (av : Int), k ≤ l.length ∧ i = .int .i64 k ∧ a = .int .i64 av ∧ Hid (in64 av) ∧ Hid (walkR l x x l.length = walkR l x av (l.length - k))) (fun _ i => l.length - (intOf i).toNat)
          case atStart => exact ⟨0, x, Nat.zero_le _, rfl, rfl, HX64.out, rfl⟩
          case round =>
            obtain ⟨k, av, hk, rfl, rfl, hav, hwk⟩ := hrel
            by_cases hkl : k < l.length
            · obtain ⟨A2, c2, hV2, hsl2⟩ := HSL.out av hav.out
              have hlk := HLK.out w6 HB36.out av hav.out
              rw [hV2] at hlk
              have hm2 : (outE l av).length ≤ 9223372036854775807 := Nat.le_trans hsl2.1 hsl2.2.1
              by_cases hone : (outE l av).length = 1
              · obtain ⟨e, hE⟩ : ∃ e, outE l av = [e] := List.length_eq_one_iff.1 hone
                rw [hE] at hsl2
                obtain ⟨g, o, rfl, hat⟩ := hsl2.2.2 (by simp)
                obtain ⟨hgB, c0, c1, c2', c3, c4, _, c6, heok⟩ := (hat.keep (Same.of HB36.out (Nat.le_refl _))).at_ (i := 0) (e := e) rfl
                simp only [Nat.zero_mul, Nat.add_zero] at c0 c1 c2' c3 c4 c6
                rw [hone] at hlk
                have hto := heok.2.1
                have HTO := Lib.hid hto
                have HEE := Lib.hid hE
                clear hE hsl2 hat heok hV2 hone hto c0 c3 c4 c6 hm2
                cases hkd : e.kind == 1
                · have HNE := Lib.hid (fun e' (he' : outE l av = [e']) => show ¬ e'.kind = 1 from by rw [HEE.out] at he'; injection he' with he'; subst he'; simpa using hkd)
                  have HWF : Hid (walkR l x x l.length = false) := by show _ = _; rw [hwk.out]; exact walkR_stop HNE.out
                  have HNO := Lib.hid (show nodeOk l last x = true from by simp only [nodeOk, hxl, HRT.out, HWF.out]; rfl)
                  clear hwk
                  go_wp2_with fail
                  go_roundw
                  case rel => exact ⟨_, cnt1, HRG1.out.kept (only_of_below (a := w5) HB6'.out none) (by simp) (by simp), HB36.out, fun z hz h1 h2 => by
                      by_cases hzx : z = x
                      · rw [hzx]; exact HNO.out
                      · refine hok.out z hz h1 ?_
                        have h3 : (Lit.int IntKind.i64 z).sameKey (Lit.int IntKind.i64 x) = false := Maps.sameKey_ne (by simpa using hzx)
                        rw [h3] at h2
                        simpa using h2⟩
                  case measure => rw [(HRG1.out.kept (only_of_below (a := w5) HB6'.out none) (by simp) (by simp)).left_eq, HRG.out.left_eq]; exact hlt
                · have hkd' := eq_of_beq hkd
                  have HKD := Lib.hid hkd'
                  clear hkd'
                  cases hback : e.to_ == x
                  · have hstep : walkR l x x l.length = walkR l x e.to_ (l.length - (k + 1)) := by
                      rw [hwk.out, show l.length - k = (l.length - (k + 1)) + 1 from by omega]
                      exact walkR_skip HEE.out HKD.out (by simpa using hback)
                    have HST := Lib.hid hstep
                    clear hstep hwk
                    go_wp2_with fail
                    go_round
                    case rel => exact ⟨k + 1, e.to_, by omega, by go_num, rfl, HTO.out, HST.out⟩
                    case measure => simp [intOf]; omega
                  · have hbk : walkR l x x l.length = true := by
                      rw [hwk.out, show l.length - k = (l.length - (k + 1)) + 1 from by omega]
                      exact walkR_back HEE.out HKD.out (eq_of_beq hback)
                    have HF := Lib.hid (all_no (last := last) HHAS.out (by simp only [nodeOk, hbk]; simp))
                    clear hbk hwk
                    go_wp2_with fail
                    go_ret
                    exact ⟨by rw [HF.out]; rfl, HBW6.out⟩
              · have hn1 : (((outE l av).length : Int) == 1) = false := by simp; omega
                have HWF : Hid (walkR l x x l.length = false) := by show _ = _; rw [hwk.out]; exact walkR_stop fun e he => absurd (by rw [he]; rfl) hone
                clear hsl2 hV2 hone
                have HNO := Lib.hid (show nodeOk l last x = true from by simp only [nodeOk, hxl, HRT.out, HWF.out]; rfl)
                clear hwk
                go_wp2_with fail
                go_roundw
                case rel => exact ⟨_, cnt1, HRG1.out.kept (only_of_below (a := w5) HB6'.out none) (by simp) (by simp), HB36.out, fun z hz h1 h2 => by
                    by_cases hzx : z = x
                    · rw [hzx]; exact HNO.out
                    · refine hok.out z hz h1 ?_
                      have h3 : (Lit.int IntKind.i64 z).sameKey (Lit.int IntKind.i64 x) = false := Maps.sameKey_ne (by simpa using hzx)
                      rw [h3] at h2
                      simpa using h2⟩
                case measure => rw [(HRG1.out.kept (only_of_below (a := w5) HB6'.out none) (by simp) (by simp)).left_eq, HRG.out.left_eq]; exact hlt
            · have hke : k = l.length := by omega
              have HWF : Hid (walkR l x x l.length = false) := by show _ = _; rw [hwk.out, hke, Nat.sub_self]; rfl
              clear hke
              have HNO := Lib.hid (show nodeOk l last x = true from by simp only [nodeOk, hxl, HRT.out, HWF.out]; rfl)
              clear hwk
              go_wp2_with fail
              go_roundw
              case rel => exact ⟨_, cnt1, HRG1.out.kept (only_of_below (a := w5) HB6'.out none) (by simp) (by simp), HB36.out, fun z hz h1 h2 => by
                  by_cases hzx : z = x
                  · rw [hzx]; exact HNO.out
                  · refine hok.out z hz h1 ?_
                    have h3 : (Lit.int IntKind.i64 z).sameKey (Lit.int IntKind.i64 x) = false := Maps.sameKey_ne (by simpa using hzx)
                    rw [h3] at h2
                    simpa using h2⟩
              case measure => rw [(HRG1.out.kept (only_of_below (a := w5) HB6'.out none) (by simp) (by simp)).left_eq, HRG.out.left_eq]; exact hlt
      · have HF := Lib.hid (all_no (last := last) HHAS.out (by simp only [nodeOk, hxl]; simp))
        go_wp2_with fail
        go_ret
        exact ⟨by rw [HF.out]; rfl, HBW.out⟩
end Go.Proofs.Ytdflbaipbmkdgaa

/-
  flow.Check, whole: whether a graph may be.
-/
namespace Go.Proofs.Ytdflbaipbmkdgaa
open Go.RowKit Go.Shelf Go.Maps

/-- what a graph is in memory -/
structure GrSl (w : World) (B : Nat) (g : Gr) (Aa : Option Addr) (ca : Nat) (Ae : Option Addr) (ce : Nat) : Prop where
  arrays : IsSl w B g.arrays Aa ca
  edges : EdSl w B g.edges Ae ce
theorem GrSl.keep {w w' : World} {B : Nat} {g : Gr} {Aa : Option Addr} {ca : Nat} {Ae : Option Addr} {ce : Nat} (h : Same B w w') (hg : GrSl w B g Aa ca Ae ce) : GrSl w' B g Aa ca Ae ce :=
  ⟨hg.arrays.keep h, hg.edges.keep h⟩

/-- THE CONTRACT of flow.Check -/
theorem check_any (g : Gr) (Aa Ae : Option Addr) (ca ce B : Nat) (w : World) (hB : B ≤ w.heap.size) (hg : GrSl w B g Aa ca Ae ce) :
    Calls Try.prog 11 #[grV g.vars Aa g.arrays.length ca g.nodes g.start g.last Ae g.edges.length ce] w (ErrPost (mayG g) w) := by
  have hl := Nat.le_trans hg.edges.1 hg.edges.2.1
  have hla := Nat.le_trans hg.arrays.1 hg.arrays.2.1
  cases h1 : odd1 g.vars g.nodes g.arrays.length g.edges.length
  · cases h2 : odd2 g.nodes g.start g.last (g.arrays.any sizeBad)
    · cases h3 : g.edges.any (edBad g.vars g.arrays.length g.nodes)
      · have h2048 : g.edges.length ≤ 2048 := by
          unfold odd1 at h1
          simp at h1
          omega
        have e : mayG g = g.edges.all fun e => nodeOk g.edges g.last e.from_ := by simp [mayG, h1, h2, h3]
        rw [e]
        by_cases hz : 0 < g.edges.length
        · obtain ⟨b, o, eA, hat⟩ := hg.edges.2.2 hz
          obtain ⟨rs, hrs, hr⟩ := hat.raw
          exact check_main g.vars g.nodes g.start g.last g.arrays g.edges rs hrs Aa Ae ca ce B w h1 h2 h2048 hla hB hg.arrays hg.edges hr.mem (fun _ => ⟨b, o, eA, hr⟩) h3
        · have hn : g.edges = [] := List.length_eq_zero_iff.1 (by omega)
          exact check_main g.vars g.nodes g.start g.last g.arrays g.edges [] (by rw [hn]; rfl) Aa Ae ca ce B w h1 h2 h2048 hla hB hg.arrays hg.edges (fun r hr => by cases hr) (fun h => absurd h hz) h3
      · have e : mayG g = false := by simp only [mayG, h3]; simp
        rw [e]
        exact check_edges g.vars g.nodes g.start g.last g.arrays g.edges Aa Ae ca ce B w h1 h2 hl hla hB hg.arrays hg.edges h3
    · have e : mayG g = false := by simp only [mayG, h2]; simp
      rw [e]
      exact check_odd2 g.vars g.nodes g.start g.last g.arrays g.edges.length Aa Ae ca ce B w h1 h2 hl hla hB hg.arrays
  · have e : mayG g = false := by simp only [mayG, h1]; simp
    rw [e]
    exact check_odd1 g.vars g.nodes g.start g.last g.arrays.length g.edges.length Aa Ae ca ce w h1 hl hla
end Go.Proofs.Ytdflbaipbmkdgaa
