/-
  facetroomref13: Opposite, Ints, alike, SameExprs.
-/
import Derived.Test.YtobegfbdedgmpaaGreatDoorJnCk3
import Derived.Test.YtobegfbdedgmpaaGreatDoorShelf
import Derived.BigQuiet
namespace Go.Proofs.YtobegfbdedgmpaaGreatDoor
open Go.RowKit Go.Shelf

set_option maxHeartbeats 800000 in
theorem ropp_any (k:Int) (w:World) (h0:3≤k) (h1:k≤8):Calls Tryz.prog 30 #[.int .u8 k] w fun e w'=>e= .returned (.int .u8 (oppC k))∧Below w.heap.size w w':=by
 have hk:k=3∨k=4∨k=5∨k=6∨k=7∨k=8:=by omega
 rcases hk with rfl|rfl|rfl|rfl|rfl|rfl
 all_goals
  go_enter Tryz.func30,Tryz.ntmps30
  go_wp2
  go_ret
  exact⟨rfl,(Below.refl _ _).alloc (Nat.le_refl _) _⟩

end Go.Proofs.YtobegfbdedgmpaaGreatDoor

