/-
  Edges in memory; slices.IndexFunc and slices.ContainsFunc over edges, and over ints.
-/
import Derived.Test.YtdflbaipbmkdgaaFlSlices
import Derived.Test.YtdflbaipbmkdgaaJnBase
namespace Go.Proofs.Ytdflbaipbmkdgaa
open Go.RowKit Go.Shelf

/-- an edge -/
structure Ed where
  from_ : Int
  to_ : Int
  kind : Int
  n : Int
  cmp : Int
  args : Exs
  at_ : Int

def Ed.ok (e : Ed) : Prop := in64 e.from_ ∧ in64 e.to_ ∧ in8 e.kind ∧ in64 e.n ∧ in8 e.cmp ∧ in64 e.at_

/-- MEMORY HOLDS EDGES, one behind another, from a cell on; all of it below block B. -/
def EdAt (w : World) (B : Nat) : List Ed → Nat → Nat → Prop
  | [], _, _ => True
  | e :: r, b, o =>
    b < B ∧ w.cell? ⟨b, o, none⟩ = some (.int .i64 e.from_) ∧ w.cell? ⟨b, o + 1, none⟩ = some (.int .i64 e.to_) ∧ w.cell? ⟨b, o + 2, none⟩ = some (.int .u8 e.kind) ∧ w.cell? ⟨b, o + 3, none⟩ = some (.int .i64 e.n) ∧
      w.cell? ⟨b, o + 4, none⟩ = some (.int .u8 e.cmp) ∧ (∃ A c, w.cell? ⟨b, o + 5, none⟩ = some (.slice A e.args.len c) ∧ ExSl w B e.args A c) ∧ w.cell? ⟨b, o + 6, none⟩ = some (.int .i64 e.at_) ∧ e.ok ∧ EdAt w B r b (o + 7)
def EdSl (w : World) (B : Nat) (l : List Ed) (A : Option Addr) (c : Nat) : Prop :=
  l.length ≤ c ∧ c ≤ 9223372036854775807 ∧ (0 < l.length → ∃ b o, A = some ⟨b, o, none⟩ ∧ EdAt w B l b o)

theorem EdAt.keep {w w' : World} {B : Nat} (h : Same B w w') : ∀ {l : List Ed} {b o : Nat}, EdAt w B l b o → EdAt w' B l b o
  | [], _, _, _ => trivial
  | e :: r, b, o, hx => by
    obtain ⟨hb, h0, h1, h2, h3, h4, ⟨A, c, h5, hs⟩, h6, hok, hr⟩ := hx
    exact ⟨hb, (h _ hb).trans h0, (h _ hb).trans h1, (h _ hb).trans h2, (h _ hb).trans h3, (h _ hb).trans h4, ⟨A, c, (h _ hb).trans h5, hs.keep h⟩, (h _ hb).trans h6, hok, EdAt.keep h hr⟩
theorem EdSl.keep {w w' : World} {B : Nat} {l : List Ed} {A : Option Addr} {c : Nat} (h : Same B w w') (hx : EdSl w B l A c) : EdSl w' B l A c :=
  ⟨hx.1, hx.2.1, fun hp => by obtain ⟨b, o, e, hh⟩ := hx.2.2 hp; exact ⟨b, o, e, hh.keep h⟩⟩
theorem EdAt.drop {w : World} {B : Nat} : ∀ (k : Nat) {l : List Ed} {b o : Nat}, EdAt w B l b o → EdAt w B (l.drop k) b (o + k * 7)
  | 0, _, _, _, h => by simpa using h
  | k + 1, [], _, _, _ => by simp [EdAt]
  | k + 1, _ :: r, b, o, h => by
    have := EdAt.drop k h.2.2.2.2.2.2.2.2.2
    rw [show o + (k + 1) * 7 = o + 7 + k * 7 from by omega]
    simpa using this
/-- WHAT LIES AT PLACE i, as the walk asks for it -/
theorem EdAt.at_ {w : World} {B : Nat} {l : List Ed} {b o : Nat} (h : EdAt w B l b o) {i : Nat} {e : Ed} (he : l[i]? = some e) :
    b < B ∧ w.cell? ⟨b, o + i * 7, none⟩ = some (.int .i64 e.from_) ∧ w.cell? ⟨b, o + i * 7 + 1, none⟩ = some (.int .i64 e.to_) ∧ w.cell? ⟨b, o + i * 7 + 2, none⟩ = some (.int .u8 e.kind) ∧ w.cell? ⟨b, o + i * 7 + 3, none⟩ = some (.int .i64 e.n) ∧
      w.cell? ⟨b, o + i * 7 + 4, none⟩ = some (.int .u8 e.cmp) ∧ (∃ A c, w.cell? ⟨b, o + i * 7 + 5, none⟩ = some (.slice A e.args.len c) ∧ ExSl w B e.args A c) ∧ w.cell? ⟨b, o + i * 7 + 6, none⟩ = some (.int .i64 e.at_) ∧ e.ok := by
  have := h.drop i
  have hd : l.drop i = e :: l.drop (i + 1) := by
    obtain ⟨hi, rfl⟩ := List.getElem?_eq_some_iff.1 he
    exact List.drop_eq_getElem_cons hi
  rw [hd] at this
  obtain ⟨hb, h0, h1, h2, h3, h4, h5, h6, hok, _⟩ := this
  exact ⟨hb, h0, h1, h2, h3, h4, h5, h6, hok⟩

/-- an edge as a value -/
def edV (e : Ed) (A : Option Addr) (c : Nat) : Value := .agg #[.int .i64 e.from_, .int .i64 e.to_, .int .u8 e.kind, .int .i64 e.n, .int .u8 e.cmp, .slice A e.args.len c, .int .i64 e.at_]

/-- WHAT A FUNCTION VALUE ANSWERS of each of some edges, in every world that has grown out of w -/
def AsksEd (g : Nat) (cap : Array Value) (w : World) (B : Nat) (p : Ed → Bool) (l : List Ed) : Prop :=
  ∀ e ∈ l, e.ok → ∀ (W : World) (A : Option Addr) (c : Nat), Below w.heap.size w W → ExSl W B e.args A c → Calls Try.prog g (#[edV e A c] ++ cap) W (BoolPost (p e) W)

theorem any_drop {α : Type} {p : α → Bool} {l : List α} {i : Nat} {e : α} (he : l[i]? = some e) (hp : p e = false) (h : l.any p = (l.drop i).any p) : l.any p = (l.drop (i + 1)).any p := by
  obtain ⟨hi, rfl⟩ := List.getElem?_eq_some_iff.1 he
  have e1 : l.drop i = l[i] :: l.drop (i + 1) := List.drop_eq_getElem_cons hi
  rw [h, e1, List.any_cons, hp, Bool.false_or]
theorem any_here {α : Type} {p : α → Bool} {l : List α} {i : Nat} {e : α} (he : l[i]? = some e) (hp : p e = true) : l.any p = true :=
  List.any_eq_true.2 ⟨e, List.mem_of_getElem? he, hp⟩

set_option maxHeartbeats 400000 in
theorem indexEd (p : Ed → Bool) (l : List Ed) (A : Option Addr) (c : Nat) (g : Nat) (cap : Array Value) (w : World) (B : Nat) (hB : B ≤ w.heap.size) (hx : EdSl w B l A c)
    (hent : Enters Try.prog g) (hask : AsksEd g cap w B p l) :
    Calls Try.prog 43 #[.slice A l.length c, .func (.func g) #[] cap] w (IdxPost (l.any p) w) := by
  have hl : l.length ≤ 9223372036854775807 := Nat.le_trans hx.1 hx.2.1
  have HA := Lib.hid hask
  clear hask
  unfold Enters at hent
  go_enter Try.func43, Try.ntmps43
  go_wp2
  go_loopw [8] (fun i wr => ∃ k : Nat, k ≤ l.length ∧ i = .int .i64 k ∧ Below w.heap.size w wr ∧ Hid (l.any p = (l.drop k).any p)) (fun i _ => l.length - (intOf i).toNat)
  case atStart => exact ⟨0, Nat.zero_le _, rfl, Below.refl _ _, rfl⟩
  case round =>
    obtain ⟨k, hk, rfl, hb, hany⟩ := hrel
    by_cases hlt : k < l.length
    · obtain ⟨e, he⟩ : ∃ e, l[k]? = some e := ⟨_, List.getElem?_eq_getElem hlt⟩
      obtain ⟨b, o, rfl, hat⟩ := hx.2.2 (by omega)
      obtain ⟨hbB, c0, c1, c2, c3, c4, ⟨A', c', c5, hsl⟩, c6, hok⟩ := (hat.keep (Same.of hb hB)).at_ he
      have hcall := Lib.hid (HA.out e (List.mem_of_getElem? he) hok wr A' c' hb hsl)
      unfold edV at hcall
      have H := Lib.hid he
      clear he hsl hok
      go_wp2_with fail
      refine hcall.out.mono ?_
      rintro _ w1 ⟨rfl, hb1⟩
      cases hp : p e
      · have hany' := Lib.hid (any_drop H.out hp hany.out)
        have hb2 : Below w.heap.size w w1 := hb.trans (hb1.mono hb.size)
        clear hp hany hcall c0 c1 c2 c3 c4 c5 c6 hb1
        go_wp2_with fail
        go_roundw
        case rel => exact ⟨k + 1, by omega, by go_num, hb2, hany'⟩
        case measure => simp [intOf]; omega
      · have HF := Lib.hid (any_here H.out hp)
        have hb2 : Below w.heap.size w w1 := hb.trans (hb1.mono hb.size)
        clear hp hany hcall c0 c1 c2 c3 c4 c5 c6 hb1
        go_wp2_with fail
        go_ret
        exact ⟨k, by rw [HF.out]; simp, rfl, hb2⟩
    · have hfin : l.any p = false := by rw [hany.out, List.drop_eq_nil_of_le (by omega)]; rfl
      have HF := Lib.hid hfin
      clear hfin hany
      go_wp2_with fail
      go_ret
      exact ⟨-1, by rw [HF.out]; simp, rfl, hb⟩
theorem containsEd (p : Ed → Bool) (l : List Ed) (A : Option Addr) (c : Nat) (g : Nat) (cap : Array Value) (w : World) (B : Nat) (hB : B ≤ w.heap.size) (hx : EdSl w B l A c)
    (hent : Enters Try.prog g) (hask : AsksEd g cap w B p l) :
    Calls Try.prog 23 #[.slice A l.length c, .func (.func g) #[] cap] w (BoolPost (l.any p) w) := by
  have HC := Lib.hid (indexEd p l A c g cap w B hB hx hent hask)
  clear hask hent
  go_enter Try.func23, Try.ntmps23
  go_wp2_with fail
  refine HC.out.mono ?_
  rintro e w1 ⟨n, hn, rfl, hb⟩
  have HN := Lib.hid hn
  clear hn
  go_wp2_with fail
  go_ret
  exact ⟨by rw [← HN.out]; rfl, hb⟩

/-! numbers -/
/-- MEMORY HOLDS NUMBERS -/
def IsAt (w : World) (B : Nat) (l : List Int) (b o : Nat) : Prop := b < B ∧ ∀ (i : Nat) (n : Int), l[i]? = some n → w.cell? ⟨b, o + i, none⟩ = some (.int .i64 n) ∧ in64 n
def IsSl (w : World) (B : Nat) (l : List Int) (A : Option Addr) (c : Nat) : Prop :=
  l.length ≤ c ∧ c ≤ 9223372036854775807 ∧ (0 < l.length → ∃ b o, A = some ⟨b, o, none⟩ ∧ IsAt w B l b o)
theorem IsAt.keep {w w' : World} {B : Nat} (h : Same B w w') {l : List Int} {b o : Nat} (hx : IsAt w B l b o) : IsAt w' B l b o :=
  ⟨hx.1, fun i n hi => ⟨(h _ hx.1).trans (hx.2 i n hi).1, (hx.2 i n hi).2⟩⟩
theorem IsSl.keep {w w' : World} {B : Nat} {l : List Int} {A : Option Addr} {c : Nat} (h : Same B w w') (hx : IsSl w B l A c) : IsSl w' B l A c :=
  ⟨hx.1, hx.2.1, fun hp => by obtain ⟨b, o, e, hh⟩ := hx.2.2 hp; exact ⟨b, o, e, hh.keep h⟩⟩
def AsksI (g : Nat) (cap : Array Value) (w : World) (p : Int → Bool) (l : List Int) : Prop :=
  ∀ n ∈ l, in64 n → ∀ W : World, Below w.heap.size w W → Calls Try.prog g (#[.int .i64 n] ++ cap) W (BoolPost (p n) W)
set_option maxHeartbeats 400000 in
theorem indexI (p : Int → Bool) (l : List Int) (A : Option Addr) (c : Nat) (g : Nat) (cap : Array Value) (w : World) (B : Nat) (hB : B ≤ w.heap.size) (hx : IsSl w B l A c)
    (hent : Enters Try.prog g) (hask : AsksI g cap w p l) :
    Calls Try.prog 42 #[.slice A l.length c, .func (.func g) #[] cap] w (IdxPost (l.any p) w) := by
  have hl : l.length ≤ 9223372036854775807 := Nat.le_trans hx.1 hx.2.1
  have HA := Lib.hid hask
  clear hask
  unfold Enters at hent
  go_enter Try.func42, Try.ntmps42
  go_wp2
  go_loopw [8] (fun i wr => ∃ k : Nat, k ≤ l.length ∧ i = .int .i64 k ∧ Below w.heap.size w wr ∧ Hid (l.any p = (l.drop k).any p)) (fun i _ => l.length - (intOf i).toNat)
  case atStart => exact ⟨0, Nat.zero_le _, rfl, Below.refl _ _, rfl⟩
  case round =>
    obtain ⟨k, hk, rfl, hb, hany⟩ := hrel
    by_cases hlt : k < l.length
    · obtain ⟨e, he⟩ : ∃ e, l[k]? = some e := ⟨_, List.getElem?_eq_getElem hlt⟩
      obtain ⟨b, o, rfl, hat⟩ := hx.2.2 (by omega)
      obtain ⟨c0, hok⟩ := (hat.keep (Same.of hb hB)).2 k e he
      have hcall := Lib.hid (HA.out e (List.mem_of_getElem? he) hok wr hb)
      have H := Lib.hid he
      clear he hok
      go_wp2_with fail
      refine hcall.out.mono ?_
      rintro _ w1 ⟨rfl, hb1⟩
      cases hp : p e
      · have hany' := Lib.hid (any_drop H.out hp hany.out)
        have hb2 : Below w.heap.size w w1 := hb.trans (hb1.mono hb.size)
        clear hp hany hcall c0 hb1
        go_wp2_with fail
        go_roundw
        case rel => exact ⟨k + 1, by omega, by go_num, hb2, hany'⟩
        case measure => simp [intOf]; omega
      · have HF := Lib.hid (any_here H.out hp)
        have hb2 : Below w.heap.size w w1 := hb.trans (hb1.mono hb.size)
        clear hp hany hcall c0 hb1
        go_wp2_with fail
        go_ret
        exact ⟨k, by rw [HF.out]; simp, rfl, hb2⟩
    · have hfin : l.any p = false := by rw [hany.out, List.drop_eq_nil_of_le (by omega)]; rfl
      have HF := Lib.hid hfin
      clear hfin hany
      go_wp2_with fail
      go_ret
      exact ⟨-1, by rw [HF.out]; simp, rfl, hb⟩
theorem containsI (p : Int → Bool) (l : List Int) (A : Option Addr) (c : Nat) (g : Nat) (cap : Array Value) (w : World) (B : Nat) (hB : B ≤ w.heap.size) (hx : IsSl w B l A c)
    (hent : Enters Try.prog g) (hask : AsksI g cap w p l) :
    Calls Try.prog 21 #[.slice A l.length c, .func (.func g) #[] cap] w (BoolPost (l.any p) w) := by
  have HC := Lib.hid (indexI p l A c g cap w B hB hx hent hask)
  clear hask hent
  go_enter Try.func21, Try.ntmps21
  go_wp2_with fail
  refine HC.out.mono ?_
  rintro e w1 ⟨n, hn, rfl, hb⟩
  have HN := Lib.hid hn
  clear hn
  go_wp2_with fail
  go_ret
  exact ⟨by rw [← HN.out]; rfl, hb⟩
end Go.Proofs.Ytdflbaipbmkdgaa

/-
  slices.EqualFunc over expressions; flow.alike and flow.exprs: when expressions are the same, but for names and places, or with them.
-/
namespace Go.Proofs.Ytdflbaipbmkdgaa
open Go.RowKit Go.Shelf

/-- two lists, one by one -/
def Exs.all2 (q : Int → ByteArray → Int → Exs → Int → Int → ByteArray → Int → Exs → Int → Bool) : Exs → Exs → Bool
  | .nil, .nil => true
  | .cons k nm n args at_ rest, .cons k' nm' n' args' at' rest' => q k nm n args at_ k' nm' n' args' at' && Exs.all2 q rest rest'
  | _, _ => false
theorem Exs.all2_len {q} : ∀ {xs ys : Exs}, xs.len ≠ ys.len → Exs.all2 q xs ys = false
  | .nil, .nil, h => absurd rfl h
  | .nil, .cons .., _ => rfl
  | .cons .., .nil, _ => rfl
  | .cons _ _ _ _ _ r, .cons _ _ _ _ _ r', h => by
    have : r.len ≠ r'.len := fun e => h (by simp [Exs.len, e])
    simp [Exs.all2, Exs.all2_len this]
theorem Exs.all2_drop {q} {xs ys : Exs} {i : Nat} {k nm n args at_ rest k' nm' n' args' at' rest'} (hd : Exs.drop i xs = .cons k nm n args at_ rest) (hd' : Exs.drop i ys = .cons k' nm' n' args' at' rest')
    (hq : q k nm n args at_ k' nm' n' args' at' = true) (h : Exs.all2 q xs ys = Exs.all2 q (Exs.drop i xs) (Exs.drop i ys)) : Exs.all2 q xs ys = Exs.all2 q (Exs.drop (i + 1) xs) (Exs.drop (i + 1) ys) := by
  rw [h, Exs.drop_succ i xs hd, Exs.drop_succ i ys hd', hd, hd']
  simp [Exs.all2, hq]

/-- WHAT A FUNCTION VALUE ANSWERS of each two of some expressions at one place -/
def AsksEx2 (g : Nat) (w : World) (B : Nat) (q : Int → ByteArray → Int → Exs → Int → Int → ByteArray → Int → Exs → Int → Bool) (xs ys : Exs) : Prop :=
  ∀ (i : Nat) (k : Int) (nm : ByteArray) (n : Int) (args : Exs) (at_ : Int) (rest : Exs) (k' : Int) (nm' : ByteArray) (n' : Int) (args' : Exs) (at' : Int) (rest' : Exs),
    Exs.drop i xs = .cons k nm n args at_ rest → Exs.drop i ys = .cons k' nm' n' args' at' rest' →
    ∀ (W : World) (A A' : Option Addr) (c c' : Nat), Below w.heap.size w W → ExSl W B args A c → ExSl W B args' A' c' →
      Calls Try.prog g #[.agg #[.int .u8 k, .string nm, .int .i64 n, .slice A args.len c, .int .i64 at_], .agg #[.int .u8 k', .string nm', .int .i64 n', .slice A' args'.len c', .int .i64 at']] W (BoolPost (q k nm n args at_ k' nm' n' args' at') W)

set_option maxHeartbeats 800000 in
theorem equalEx (q : Int → ByteArray → Int → Exs → Int → Int → ByteArray → Int → Exs → Int → Bool) (xs ys : Exs) (A A' : Option Addr) (c c' : Nat) (g : Nat) (w : World) (B : Nat) (hB : B ≤ w.heap.size)
    (hx : ExSl w B xs A c) (hy : ExSl w B ys A' c') (hent : Enters Try.prog g) (hask : AsksEx2 g w B q xs ys) :
    Calls Try.prog 48 #[.slice A xs.len c, .slice A' ys.len c', .func (.func g) #[] #[]] w (BoolPost (Exs.all2 q xs ys) w) := by
  have hl : xs.len ≤ 9223372036854775807 := Nat.le_trans hx.1 hx.2.1
  have hl' : ys.len ≤ 9223372036854775807 := Nat.le_trans hy.1 hy.2.1
  have HA := Lib.hid hask
  clear hask
  unfold Enters at hent
  by_cases hlen : xs.len = ys.len
  · obtain ⟨m, hm⟩ : ∃ m, m = ys.len := ⟨_, rfl⟩
    have hxm : xs.len = m := hlen.trans hm.symm
    rw [hxm, ← hm]
    rw [← hm] at hl'
    have HM := Lib.hid hm
    have HL := Lib.hid hxm
    clear hlen hm hxm hl
    go_enter Try.func48, Try.ntmps48
    go_wp2
    go_loopw [17] (fun i wr => ∃ k : Nat, k ≤ m ∧ i = .int .i64 k ∧ Below w.heap.size w wr ∧ Hid (Exs.all2 q xs ys = Exs.all2 q (Exs.drop k xs) (Exs.drop k ys))) (fun i _ => m - (intOf i).toNat)
    case atStart => exact ⟨0, Nat.zero_le _, rfl, Below.refl _ _, rfl⟩
    case round =>
      obtain ⟨k, hk, rfl, hb, hall⟩ := hrel
      by_cases hlt : k < m
      · obtain ⟨a0, a1, a2, a3, a4, a5, hd⟩ := Exs.drop_cons (show k < xs.len from by rw [HL.out]; exact hlt)
        obtain ⟨b0, b1, b2, b3, b4, b5, hd'⟩ := Exs.drop_cons (show k < ys.len from by rw [← HM.out]; exact hlt)
        obtain ⟨b, o, rfl, hat⟩ := hx.2.2 (by rw [HL.out]; omega)
        obtain ⟨b', o', rfl, hat'⟩ := hy.2.2 (by rw [← HM.out]; omega)
        obtain ⟨hbB, c0, c1, c2, ⟨A1, cc, c3, hsl⟩, c4, _⟩ := (hat.keep (Same.of hb hB)).at_ hd
        obtain ⟨hbB', d0, d1, d2, ⟨A2, cc', d3, hsl'⟩, d4, _⟩ := (hat'.keep (Same.of hb hB)).at_ hd'
        have hbw : b < wr.heap.size := Nat.lt_of_lt_of_le hbB (Nat.le_trans hB hb.size)
        have hbw' : b' < wr.heap.size := Nat.lt_of_lt_of_le hbB' (Nat.le_trans hB hb.size)
        have hbn : ¬ b' = wr.heap.size := by omega
        have hcall := Lib.hid (fun W hW s1 s2 => HA.out k a0 a1 a2 a3 a4 a5 b0 b1 b2 b3 b4 b5 hd hd' W A1 A2 cc cc' hW s1 s2)
        have H := Lib.hid hd
        have H' := Lib.hid hd'
        have HS := Lib.hid hsl
        have HS' := Lib.hid hsl'
        clear hd hd' hsl hsl' hx hy
        go_wp2_with fail
        have hW1 : Below wr.heap.size wr ((wr.alloc (.cells #[.int .u8 a0, .string a1, .int .i64 a2, .slice A1 a3.len cc, .int .i64 a4] 62)).alloc (.cells #[.int .u8 b0, .string b1, .int .i64 b2, .slice A2 b3.len cc', .int .i64 b4] 62)) :=
          ((Below.refl _ _).alloc (Nat.le_refl _) _).alloc (by simp) _
        have hBr := Nat.le_trans hB hb.size
        have hW2 := hb.trans (hW1.mono hb.size)
        refine (hcall.out _ hW2 (HS.out.keep (Same.of hW1 hBr)) (HS'.out.keep (Same.of hW1 hBr))).mono ?_
        rintro _ w1 ⟨rfl, hb1⟩
        have hb2 : Below w.heap.size w w1 := hW2.trans (hb1.mono hW2.size)
        cases hp : q a0 a1 a2 a3 a4 b0 b1 b2 b3 b4
        · have hfin : Exs.all2 q xs ys = false := by rw [hall.out, H.out, H'.out]; simp [Exs.all2, hp]
          have HF := Lib.hid hfin
          clear hp hall hcall c0 c1 c2 c3 c4 d0 d1 d2 d3 d4 hb1 hW1 hW2 hfin
          go_wp2_with fail
          go_ret
          exact ⟨by rw [HF.out]; rfl, hb2⟩
        · have hall' := Lib.hid (Exs.all2_drop H.out H'.out hp hall.out)
          clear hp hall hcall c0 c1 c2 c3 c4 d0 d1 d2 d3 d4 hb1 hW1 hW2
          go_wp2_with fail
          go_roundw
          case rel => exact ⟨k + 1, by omega, by go_num, hb2, hall'⟩
          case measure => simp [intOf]; omega
      · have hfin : Exs.all2 q xs ys = true := by rw [hall.out, Exs.drop_nil (by rw [HL.out]; omega), Exs.drop_nil (by rw [← HM.out]; omega)]; rfl
        have HF := Lib.hid hfin
        clear hfin hall
        go_wp2_with fail
        go_ret
        exact ⟨by rw [HF.out]; rfl, hb⟩
  · have HF := Lib.hid (Exs.all2_len (q := q) hlen)
    have hne : ((xs.len : Int) == (ys.len : Int)) = false := by simp; omega
    have hne' : ((xs.len : Int) != (ys.len : Int)) = true := by simp; omega
    clear hx hy
    go_enter Try.func48, Try.ntmps48
    go_wp2_with fail
    go_ret
    exact ⟨by rw [HF.out]; rfl, Below.refl _ _⟩

/-- alike: but for names and places -/
def alikeX : Exs → Exs → Bool
  | .nil, .nil => true
  | .cons k _ n args _ rest, .cons k' _ n' args' _ rest' => (k == k') && (n == n') && alikeX args args' && alikeX rest rest'
  | _, _ => false
theorem alike_all2 : ∀ xs ys : Exs, Exs.all2 (fun k _ n args _ k' _ n' args' _ => (k == k') && (n == n') && alikeX args args') xs ys = alikeX xs ys
  | .nil, .nil => rfl
  | .nil, .cons .. => rfl
  | .cons .., .nil => rfl
  | .cons k nm n args at_ rest, .cons k' nm' n' args' at' rest' => by simp only [Exs.all2, alikeX, alike_all2 rest rest']
/-- the same, place for place -/
def sameX : Exs → Exs → Bool
  | .nil, .nil => true
  | .cons k nm n args at_ rest, .cons k' nm' n' args' at' rest' => (k == k') && (n == n') && (nm.toList == nm'.toList) && (at_ == at') && sameX args args' && sameX rest rest'
  | _, _ => false
theorem same_all2 : ∀ xs ys : Exs, Exs.all2 (fun k nm n args at_ k' nm' n' args' at' => (k == k') && (n == n') && (nm.toList == nm'.toList) && (at_ == at') && sameX args args') xs ys = sameX xs ys
  | .nil, .nil => rfl
  | .nil, .cons .. => rfl
  | .cons .., .nil => rfl
  | .cons k nm n args at_ rest, .cons k' nm' n' args' at' rest' => by simp only [Exs.all2, sameX, same_all2 rest rest']

set_option maxHeartbeats 800000 in
theorem alike_one (k : Int) (nm : ByteArray) (n : Int) (at_ : Int) (A : Option Addr) (l c : Nat) (k' : Int) (nm' : ByteArray) (n' : Int) (at' : Int) (A' : Option Addr) (l' c' : Nat) (r : Bool) (w : World)
    (hc : ∀ W, Below w.heap.size w W → Calls Try.prog 48 #[.slice A l c, .slice A' l' c', .func (.func 49) #[] #[]] W (BoolPost r W)) :
    Calls Try.prog 49 #[exV k nm n A l c at_, exV k' nm' n' A' l' c' at'] w (BoolPost ((k == k') && (n == n') && r) w) := by
  have HC := Lib.hid hc
  clear hc
  unfold exV
  have hbb : ∀ c0 c1 : Array Value, Below w.heap.size w ((w.alloc (.cells c0 62)).alloc (.cells c1 62)) := fun _ _ => ((Below.refl _ _).alloc (Nat.le_refl _) _).alloc (by simp) _
  have HBB := Lib.hid hbb
  clear hbb
  cases h1 : k == k'
  · go_enter Try.func49, Try.ntmps49
    go_wp2_with fail
    go_ret
    exact ⟨rfl, HBB.out _ _⟩
  cases h2 : n == n'
  · go_enter Try.func49, Try.ntmps49
    go_wp2_with fail
    go_ret
    exact ⟨rfl, HBB.out _ _⟩
  go_enter Try.func49, Try.ntmps49
  go_wp2_with fail
  refine (HC.out _ (HBB.out _ _)).mono ?_
  rintro e w1 ⟨rfl, hb1⟩
  go_wp2_with fail
  go_ret
  exact ⟨rfl, (HBB.out _ _).trans (hb1.mono (HBB.out _ _).size)⟩
theorem alike_asks (B : Nat) : ∀ (xs ys : Exs) (w : World), B ≤ w.heap.size → AsksEx2 49 w B (fun k _ n args _ k' _ n' args' _ => (k == k') && (n == n') && alikeX args args') xs ys
  | .nil, _, _, _ => fun i _ _ _ _ _ _ _ _ _ _ _ _ hd => by cases i <;> simp [Exs.drop] at hd
  | .cons .., .nil, _, _ => fun i _ _ _ _ _ _ _ _ _ _ _ _ _ hd => by cases i <;> simp [Exs.drop] at hd
  | .cons k nm n args at_ rest, .cons k' nm' n' args' at' rest', w, hB => fun i _ _ _ _ _ _ _ _ _ _ _ _ hd hd' W A A' c c' hb hs hs' => by
    cases i with
    | zero =>
      simp only [Exs.drop] at hd hd'
      injection hd with e1 e2 e3 e4 e5 e6
      injection hd' with f1 f2 f3 f4 f5 f6
      subst e1 e2 e3 e4 e5 e6 f1 f2 f3 f4 f5 f6
      refine alike_one k nm n at_ A args.len c k' nm' n' at' A' args'.len c' _ W fun W2 hb2 => ?_
      have hBW := Nat.le_trans hB hb.size
      have := equalEx (fun k _ n args _ k' _ n' args' _ => (k == k') && (n == n') && alikeX args args') args args' A A' c c' 49 W2 B (Nat.le_trans hBW hb2.size) (hs.keep (Same.of hb2 hBW)) (hs'.keep (Same.of hb2 hBW))
        (enters_of Try.func49 (by kernel_rfl) rfl) (alike_asks B args args' W2 (Nat.le_trans hBW hb2.size))
      rw [alike_all2] at this
      exact this
    | succ i =>
      simp only [Exs.drop] at hd hd'
      exact alike_asks B rest rest' w hB i _ _ _ _ _ _ _ _ _ _ _ _ hd hd' W A A' c c' hb hs hs'
/-- THE CONTRACT of slices.EqualFunc at flow.alike -/
theorem alike_any (xs ys : Exs) (A A' : Option Addr) (c c' : Nat) (w : World) (B : Nat) (hB : B ≤ w.heap.size) (hx : ExSl w B xs A c) (hy : ExSl w B ys A' c') :
    Calls Try.prog 48 #[.slice A xs.len c, .slice A' ys.len c', .func (.func 49) #[] #[]] w (BoolPost (alikeX xs ys) w) := by
  have := equalEx _ xs ys A A' c c' 49 w B hB hx hy (enters_of Try.func49 (by kernel_rfl) rfl) (alike_asks B xs ys w hB)
  rw [alike_all2] at this
  exact this
end Go.Proofs.Ytdflbaipbmkdgaa
