import Derived.Test.YtdflbaipbmkdgaaRows
import Derived.Test.YtdflbaipbmkdgaaOpsPlain
import Derived.WalkKit
import Derived.WalkSpells
import Derived.WalkLawsBesides
import Derived.Lib.Hide
import Derived.Deep.QuietTactic
import Derived.BigQuiet
import Derived.Laws.EntriesVeiled
namespace Go.Proofs.Ytdflbaipbmkdgaa
open Go.RowKit
set_option linter.unusedVariables false
set_option linter.unusedSimpArgs false

theorem ranged_yes (n : Int) (w : World) : Calls Try.prog 62 #[.int .i64 n, .bool true] w fun e w' => e = .returned (.tuple #[.int .i64 n, .int .u8 0]) ∧ w = w' := by
  go_enter Try.func62, Try.ntmps62
  go_wp2
  go_ret2
  exact ⟨rfl, rfl⟩
theorem ranged_no (n : Int) (w : World) : Calls Try.prog 62 #[.int .i64 n, .bool false] w fun e w' => e = .returned (.tuple #[.int .i64 0, .int .u8 2]) ∧ w = w' := by
  go_enter Try.func62, Try.ntmps62
  go_wp2
  go_ret2
  exact ⟨rfl, rfl⟩
theorem ranged_any (n : Int) (b : Bool) (w : World) : Calls Try.prog 62 #[.int .i64 n, .bool b] w fun e w' => e = .returned (.tuple #[.int .i64 (okR b n), .int .u8 (okW b)]) ∧ w = w' := by
  cases b
  · exact ranged_no n w
  · exact ranged_yes n w
end Go.Proofs.Ytdflbaipbmkdgaa
