/-
  Edges in memory; slices.IndexFunc and slices.ContainsFunc over edges, and over ints.
-/
import Derived.Test.YtjeapacohgfpiaaFlSlices
import Derived.Test.YtjeapacohgfpiaaBase
namespace Go.Proofs.Ytjeapacohgfpiaa
open Go.RowKit Go.Shelf

/-- an edge -/
structure Ed where
  from_ : Int
  to_ : Int
  kind : Int
  n : Int
  cmp : Int
  args : Exs
  at_ : Int

def Ed.ok (e : Ed) : Prop := in64 e.from_ ∧ in64 e.to_ ∧ in8 e.kind ∧ in64 e.n ∧ in8 e.cmp ∧ in64 e.at_

/-- MEMORY HOLDS EDGES, one behind another, from a cell on; all of it below block B. -/
def EdAt (w : World) (B : Nat) : List Ed → Nat → Nat → Prop
  | [], _, _ => True
  | e :: r, b, o =>
    b < B ∧ w.cell? ⟨b, o, none⟩ = some (.int .i64 e.from_) ∧ w.cell? ⟨b, o + 1, none⟩ = some (.int .i64 e.to_) ∧ w.cell? ⟨b, o + 2, none⟩ = some (.int .u8 e.kind) ∧ w.cell? ⟨b, o + 3, none⟩ = some (.int .i64 e.n) ∧
      w.cell? ⟨b, o + 4, none⟩ = some (.int .u8 e.cmp) ∧ (∃ A c, w.cell? ⟨b, o + 5, none⟩ = some (.slice A e.args.len c) ∧ ExSl w B e.args A c) ∧ w.cell? ⟨b, o + 6, none⟩ = some (.int .i64 e.at_) ∧ e.ok ∧ EdAt w B r b (o + 7)
def EdSl (w : World) (B : Nat) (l : List Ed) (A : Option Addr) (c : Nat) : Prop :=
  l.length ≤ c ∧ c ≤ 9223372036854775807 ∧ (0 < l.length → ∃ b o, A = some ⟨b, o, none⟩ ∧ EdAt w B l b o)

theorem EdAt.keep {w w' : World} {B : Nat} (h : Same B w w') : ∀ {l : List Ed} {b o : Nat}, EdAt w B l b o → EdAt w' B l b o
  | [], _, _, _ => trivial
  | e :: r, b, o, hx => by
    obtain ⟨hb, h0, h1, h2, h3, h4, ⟨A, c, h5, hs⟩, h6, hok, hr⟩ := hx
    exact ⟨hb, (h _ hb).trans h0, (h _ hb).trans h1, (h _ hb).trans h2, (h _ hb).trans h3, (h _ hb).trans h4, ⟨A, c, (h _ hb).trans h5, hs.keep h⟩, (h _ hb).trans h6, hok, EdAt.keep h hr⟩
theorem EdSl.keep {w w' : World} {B : Nat} {l : List Ed} {A : Option Addr} {c : Nat} (h : Same B w w') (hx : EdSl w B l A c) : EdSl w' B l A c :=
  ⟨hx.1, hx.2.1, fun hp => by obtain ⟨b, o, e, hh⟩ := hx.2.2 hp; exact ⟨b, o, e, hh.keep h⟩⟩
theorem EdAt.drop {w : World} {B : Nat} : ∀ (k : Nat) {l : List Ed} {b o : Nat}, EdAt w B l b o → EdAt w B (l.drop k) b (o + k * 7)
  | 0, _, _, _, h => by simpa using h
  | k + 1, [], _, _, _ => by simp [EdAt]
  | k + 1, _ :: r, b, o, h => by
    have := EdAt.drop k h.2.2.2.2.2.2.2.2.2
    rw [show o + (k + 1) * 7 = o + 7 + k * 7 from by omega]
    simpa using this
/-- WHAT LIES AT PLACE i, as the walk asks for it -/
theorem EdAt.at_ {w : World} {B : Nat} {l : List Ed} {b o : Nat} (h : EdAt w B l b o) {i : Nat} {e : Ed} (he : l[i]? = some e) :
    b < B ∧ w.cell? ⟨b, o + i * 7, none⟩ = some (.int .i64 e.from_) ∧ w.cell? ⟨b, o + i * 7 + 1, none⟩ = some (.int .i64 e.to_) ∧ w.cell? ⟨b, o + i * 7 + 2, none⟩ = some (.int .u8 e.kind) ∧ w.cell? ⟨b, o + i * 7 + 3, none⟩ = some (.int .i64 e.n) ∧
      w.cell? ⟨b, o + i * 7 + 4, none⟩ = some (.int .u8 e.cmp) ∧ (∃ A c, w.cell? ⟨b, o + i * 7 + 5, none⟩ = some (.slice A e.args.len c) ∧ ExSl w B e.args A c) ∧ w.cell? ⟨b, o + i * 7 + 6, none⟩ = some (.int .i64 e.at_) ∧ e.ok := by
  have := h.drop i
  have hd : l.drop i = e :: l.drop (i + 1) := by
    obtain ⟨hi, rfl⟩ := List.getElem?_eq_some_iff.1 he
    exact List.drop_eq_getElem_cons hi
  rw [hd] at this
  obtain ⟨hb, h0, h1, h2, h3, h4, h5, h6, hok, _⟩ := this
  exact ⟨hb, h0, h1, h2, h3, h4, h5, h6, hok⟩

/-- an edge as a value -/
def edV (e : Ed) (A : Option Addr) (c : Nat) : Value := .agg #[.int .i64 e.from_, .int .i64 e.to_, .int .u8 e.kind, .int .i64 e.n, .int .u8 e.cmp, .slice A e.args.len c, .int .i64 e.at_]

/-- WHAT A FUNCTION VALUE ANSWERS of each of some edges, in every world that has grown out of w -/
def AsksEd (g : Nat) (cap : Array Value) (w : World) (B : Nat) (p : Ed → Bool) (l : List Ed) : Prop :=
  ∀ e ∈ l, e.ok → ∀ (W : World) (A : Option Addr) (c : Nat), Below w.heap.size w W → ExSl W B e.args A c → Calls Try.prog g (#[edV e A c] ++ cap) W (BoolPost (p e) W)

theorem any_drop {α : Type} {p : α → Bool} {l : List α} {i : Nat} {e : α} (he : l[i]? = some e) (hp : p e = false) (h : l.any p = (l.drop i).any p) : l.any p = (l.drop (i + 1)).any p := by
  obtain ⟨hi, rfl⟩ := List.getElem?_eq_some_iff.1 he
  have e1 : l.drop i = l[i] :: l.drop (i + 1) := List.drop_eq_getElem_cons hi
  rw [h, e1, List.any_cons, hp, Bool.false_or]
theorem any_here {α : Type} {p : α → Bool} {l : List α} {i : Nat} {e : α} (he : l[i]? = some e) (hp : p e = true) : l.any p = true :=
  List.any_eq_true.2 ⟨e, List.mem_of_getElem? he, hp⟩

set_option maxHeartbeats 400000 in
theorem indexEd (p : Ed → Bool) (l : List Ed) (A : Option Addr) (c : Nat) (g : Nat) (cap : Array Value) (w : World) (B : Nat) (hB : B ≤ w.heap.size) (hx : EdSl w B l A c)
    (hent : Enters Try.prog g) (hask : AsksEd g cap w B p l) :
    Calls Try.prog 71 #[.slice A l.length c, .func (.func g) #[] cap] w (IdxPost (l.any p) w) := by
  have hl : l.length ≤ 9223372036854775807 := Nat.le_trans hx.1 hx.2.1
  have HA := Lib.hid hask
  clear hask
  unfold Enters at hent
  go_enter Try.func71, Try.ntmps71
  go_wp2
  go_loopw [8] (fun i wr => ∃ k : Nat, k ≤ l.length ∧ i = .int .i64 k ∧ Below w.heap.size w wr ∧ Hid (l.any p = (l.drop k).any p)) (fun i _ => l.length - (intOf i).toNat)
  case atStart => exact ⟨0, Nat.zero_le _, rfl, Below.refl _ _, rfl⟩
  case round =>
    obtain ⟨k, hk, rfl, hb, hany⟩ := hrel
    by_cases hlt : k < l.length
    · obtain ⟨e, he⟩ : ∃ e, l[k]? = some e := ⟨_, List.getElem?_eq_getElem hlt⟩
      obtain ⟨b, o, rfl, hat⟩ := hx.2.2 (by omega)
      obtain ⟨hbB, c0, c1, c2, c3, c4, ⟨A', c', c5, hsl⟩, c6, hok⟩ := (hat.keep (Same.of hb hB)).at_ he
      have hcall := Lib.hid (HA.out e (List.mem_of_getElem? he) hok wr A' c' hb hsl)
      unfold edV at hcall
      have H := Lib.hid he
      clear he hsl hok
      go_wp2_with fail
      refine hcall.out.mono ?_
      rintro _ w1 ⟨rfl, hb1⟩
      cases hp : p e
      · have hany' := Lib.hid (any_drop H.out hp hany.out)
        have hb2 : Below w.heap.size w w1 := hb.trans (hb1.mono hb.size)
        clear hp hany hcall c0 c1 c2 c3 c4 c5 c6 hb1
        go_wp2_with fail
        go_roundw
        case rel => exact ⟨k + 1, by omega, by go_num, hb2, hany'⟩
        case measure => simp [intOf]; omega
      · have HF := Lib.hid (any_here H.out hp)
        have hb2 : Below w.heap.size w w1 := hb.trans (hb1.mono hb.size)
        clear hp hany hcall c0 c1 c2 c3 c4 c5 c6 hb1
        go_wp2_with fail
        go_ret
        exact ⟨k, by rw [HF.out]; simp, rfl, hb2⟩
    · have hfin : l.any p = false := by rw [hany.out, List.drop_eq_nil_of_le (by omega)]; rfl
      have HF := Lib.hid hfin
      clear hfin hany
      go_wp2_with fail
      go_ret
      exact ⟨-1, by rw [HF.out]; simp, rfl, hb⟩
theorem containsEd (p : Ed → Bool) (l : List Ed) (A : Option Addr) (c : Nat) (g : Nat) (cap : Array Value) (w : World) (B : Nat) (hB : B ≤ w.heap.size) (hx : EdSl w B l A c)
    (hent : Enters Try.prog g) (hask : AsksEd g cap w B p l) :
    Calls Try.prog 30 #[.slice A l.length c, .func (.func g) #[] cap] w (BoolPost (l.any p) w) := by
  have HC := Lib.hid (indexEd p l A c g cap w B hB hx hent hask)
  clear hask hent
  go_enter Try.func30, Try.ntmps30
  go_wp2_with fail
  refine HC.out.mono ?_
  rintro e w1 ⟨n, hn, rfl, hb⟩
  have HN := Lib.hid hn
  clear hn
  go_wp2_with fail
  go_ret
  exact ⟨by rw [← HN.out]; rfl, hb⟩

/-! numbers -/
/-- MEMORY HOLDS NUMBERS -/
def IsAt (w : World) (B : Nat) (l : List Int) (b o : Nat) : Prop := b < B ∧ ∀ (i : Nat) (n : Int), l[i]? = some n → w.cell? ⟨b, o + i, none⟩ = some (.int .i64 n) ∧ in64 n
def IsSl (w : World) (B : Nat) (l : List Int) (A : Option Addr) (c : Nat) : Prop :=
  l.length ≤ c ∧ c ≤ 9223372036854775807 ∧ (0 < l.length → ∃ b o, A = some ⟨b, o, none⟩ ∧ IsAt w B l b o)
theorem IsAt.keep {w w' : World} {B : Nat} (h : Same B w w') {l : List Int} {b o : Nat} (hx : IsAt w B l b o) : IsAt w' B l b o :=
  ⟨hx.1, fun i n hi => ⟨(h _ hx.1).trans (hx.2 i n hi).1, (hx.2 i n hi).2⟩⟩
theorem IsSl.keep {w w' : World} {B : Nat} {l : List Int} {A : Option Addr} {c : Nat} (h : Same B w w') (hx : IsSl w B l A c) : IsSl w' B l A c :=
  ⟨hx.1, hx.2.1, fun hp => by obtain ⟨b, o, e, hh⟩ := hx.2.2 hp; exact ⟨b, o, e, hh.keep h⟩⟩
def AsksI (g : Nat) (cap : Array Value) (w : World) (p : Int → Bool) (l : List Int) : Prop :=
  ∀ n ∈ l, in64 n → ∀ W : World, Below w.heap.size w W → Calls Try.prog g (#[.int .i64 n] ++ cap) W (BoolPost (p n) W)
set_option maxHeartbeats 400000 in
theorem indexI (p : Int → Bool) (l : List Int) (A : Option Addr) (c : Nat) (g : Nat) (cap : Array Value) (w : World) (B : Nat) (hB : B ≤ w.heap.size) (hx : IsSl w B l A c)
    (hent : Enters Try.prog g) (hask : AsksI g cap w p l) :
    Calls Try.prog 70 #[.slice A l.length c, .func (.func g) #[] cap] w (IdxPost (l.any p) w) := by
  have hl : l.length ≤ 9223372036854775807 := Nat.le_trans hx.1 hx.2.1
  have HA := Lib.hid hask
  clear hask
  unfold Enters at hent
  go_enter Try.func70, Try.ntmps70
  go_wp2
  go_loopw [8] (fun i wr => ∃ k : Nat, k ≤ l.length ∧ i = .int .i64 k ∧ Below w.heap.size w wr ∧ Hid (l.any p = (l.drop k).any p)) (fun i _ => l.length - (intOf i).toNat)
  case atStart => exact ⟨0, Nat.zero_le _, rfl, Below.refl _ _, rfl⟩
  case round =>
    obtain ⟨k, hk, rfl, hb, hany⟩ := hrel
    by_cases hlt : k < l.length
    · obtain ⟨e, he⟩ : ∃ e, l[k]? = some e := ⟨_, List.getElem?_eq_getElem hlt⟩
      obtain ⟨b, o, rfl, hat⟩ := hx.2.2 (by omega)
      obtain ⟨c0, hok⟩ := (hat.keep (Same.of hb hB)).2 k e he
      have hcall := Lib.hid (HA.out e (List.mem_of_getElem? he) hok wr hb)
      have H := Lib.hid he
      clear he hok
      go_wp2_with fail
      refine hcall.out.mono ?_
      rintro _ w1 ⟨rfl, hb1⟩
      cases hp : p e
      · have hany' := Lib.hid (any_drop H.out hp hany.out)
        have hb2 : Below w.heap.size w w1 := hb.trans (hb1.mono hb.size)
        clear hp hany hcall c0 hb1
        go_wp2_with fail
        go_roundw
        case rel => exact ⟨k + 1, by omega, by go_num, hb2, hany'⟩
        case measure => simp [intOf]; omega
      · have HF := Lib.hid (any_here H.out hp)
        have hb2 : Below w.heap.size w w1 := hb.trans (hb1.mono hb.size)
        clear hp hany hcall c0 hb1
        go_wp2_with fail
        go_ret
        exact ⟨k, by rw [HF.out]; simp, rfl, hb2⟩
    · have hfin : l.any p = false := by rw [hany.out, List.drop_eq_nil_of_le (by omega)]; rfl
      have HF := Lib.hid hfin
      clear hfin hany
      go_wp2_with fail
      go_ret
      exact ⟨-1, by rw [HF.out]; simp, rfl, hb⟩
theorem containsI (p : Int → Bool) (l : List Int) (A : Option Addr) (c : Nat) (g : Nat) (cap : Array Value) (w : World) (B : Nat) (hB : B ≤ w.heap.size) (hx : IsSl w B l A c)
    (hent : Enters Try.prog g) (hask : AsksI g cap w p l) :
    Calls Try.prog 28 #[.slice A l.length c, .func (.func g) #[] cap] w (BoolPost (l.any p) w) := by
  have HC := Lib.hid (indexI p l A c g cap w B hB hx hent hask)
  clear hask hent
  go_enter Try.func28, Try.ntmps28
  go_wp2_with fail
  refine HC.out.mono ?_
  rintro e w1 ⟨n, hn, rfl, hb⟩
  have HN := Lib.hid hn
  clear hn
  go_wp2_with fail
  go_ret
  exact ⟨by rw [← HN.out]; rfl, hb⟩
end Go.Proofs.Ytjeapacohgfpiaa
