/-
  slices.IndexFunc and slices.ContainsFunc over expressions: whether one of them has what a function value asks.
-/
import Derived.Test.YtdflbaipbmkdgaaRows
import Derived.Test.YtdflbaipbmkdgaaJnData
import Derived.Lib.Hide
import Derived.WalkSpells
import Derived.WalkLawsBesides
import Derived.Laws.EntriesVeiled
import Derived.Shelf.Abstract
namespace Go.Proofs.Ytdflbaipbmkdgaa
open Go.RowKit Go.Shelf

/-- WHAT A FUNCTION VALUE ANSWERS of each of some expressions, in every world that has grown out of w -/
def AsksEx (g : Nat) (cap : Array Value) (w : World) (B : Nat) (p : Int → ByteArray → Int → Exs → Int → Bool) (xs : Exs) : Prop :=
  ∀ (i : Nat) (k : Int) (nm : ByteArray) (n : Int) (args : Exs) (at_ : Int) (rest : Exs), Exs.drop i xs = .cons k nm n args at_ rest → in8 k → in64 n → in64 at_ →
    ∀ (W : World) (A : Option Addr) (c : Nat), Below w.heap.size w W → ExSl W B args A c →
      Calls Try.prog g (#[.agg #[.int .u8 k, .string nm, .int .i64 n, .slice A args.len c, .int .i64 at_]] ++ cap) W (BoolPost (p k nm n args at_) W)

set_option maxHeartbeats 400000 in
theorem indexEx (p : Int → ByteArray → Int → Exs → Int → Bool) (xs : Exs) (A : Option Addr) (c : Nat) (g : Nat) (cap : Array Value) (w : World) (B : Nat) (hB : B ≤ w.heap.size) (hx : ExSl w B xs A c)
    (hent : Enters Try.prog g) (hask : AsksEx g cap w B p xs) :
    Calls Try.prog 58 #[.slice A xs.len c, .func (.func g) #[] cap] w (IdxPost (Exs.any p xs) w) := by
  have hl : xs.len ≤ 9223372036854775807 := Nat.le_trans hx.1 hx.2.1
  have HA := Lib.hid hask
  clear hask
  unfold Enters at hent
  go_enter Try.func58, Try.ntmps58
  go_wp2
  go_loopw [8] (fun i wr => ∃ k : Nat, k ≤ xs.len ∧ i = .int .i64 k ∧ Below w.heap.size w wr ∧ Hid (Exs.any p xs = Exs.any p (Exs.drop k xs))) (fun i _ => xs.len - (intOf i).toNat)
  case atStart => exact ⟨0, Nat.zero_le _, rfl, Below.refl _ _, rfl⟩
  case round =>
    obtain ⟨k, hk, rfl, hb, hany⟩ := hrel
    by_cases hlt : k < xs.len
    · obtain ⟨a0, a1, a2, a3, a4, a5, hd⟩ := Exs.drop_cons hlt
      obtain ⟨b, o, rfl, hat⟩ := hx.2.2 (by omega)
      obtain ⟨hbB, c0, c1, c2, ⟨A', c', c3, hsl⟩, c4, r0, r1, r2⟩ := (hat.keep (Same.of hb hB)).at_ hd
      have hcall := Lib.hid (HA.out k a0 a1 a2 a3 a4 a5 hd r0 r1 r2 wr A' c' hb hsl)
      have H := Lib.hid hd
      clear hd hsl r0 r1 r2
      go_wp2_with fail
      refine hcall.out.mono ?_
      rintro e w1 ⟨rfl, hb1⟩
      cases hp : p a0 a1 a2 a3 a4
      · have hany' := Lib.hid (Exs.any_drop H.out hp hany.out)
        have hb2 : Below w.heap.size w w1 := hb.trans (hb1.mono hb.size)
        clear hp hany hcall c0 c1 c2 c3 c4 hb1
        go_wp2_with fail
        go_roundw
        case rel => exact ⟨k + 1, by omega, by go_num, hb2, hany'⟩
        case measure => simp [intOf]; omega
      · have hfin : Exs.any p xs = true := by rw [hany.out, H.out]; simp [Exs.any, hp]
        have HF := Lib.hid hfin
        have hb2 : Below w.heap.size w w1 := hb.trans (hb1.mono hb.size)
        clear hp hany hcall c0 c1 c2 c3 c4 hb1 hfin
        go_wp2_with fail
        go_ret
        exact ⟨k, by rw [HF.out]; simp, rfl, hb2⟩
    · have hfin : Exs.any p xs = false := by rw [hany.out, Exs.drop_nil (by omega)]; rfl
      have HF := Lib.hid hfin
      clear hfin hany
      go_wp2_with fail
      go_ret
      exact ⟨-1, by rw [HF.out]; simp, rfl, hb⟩

theorem containsEx (p : Int → ByteArray → Int → Exs → Int → Bool) (xs : Exs) (A : Option Addr) (c : Nat) (g : Nat) (cap : Array Value) (w : World) (B : Nat) (hB : B ≤ w.heap.size) (hx : ExSl w B xs A c)
    (hent : Enters Try.prog g) (hask : AsksEx g cap w B p xs) :
    Calls Try.prog 45 #[.slice A xs.len c, .func (.func g) #[] cap] w (BoolPost (Exs.any p xs) w) := by
  have HC := Lib.hid (indexEx p xs A c g cap w B hB hx hent hask)
  clear hask hent
  go_enter Try.func45, Try.ntmps45
  go_wp2_with fail
  refine HC.out.mono ?_
  rintro e w1 ⟨n, hn, rfl, hb⟩
  have HN := Lib.hid hn
  clear hn
  go_wp2_with fail
  go_ret
  exact ⟨by rw [← HN.out]; rfl, hb⟩
end Go.Proofs.Ytdflbaipbmkdgaa
