/-
  Plain parsing: places turn nothing but places. No program.
-/
import Derived.Test.YtobegfbdedgmpaaGreatDoorJnLoc
import Derived.Test.YtobegfbdedgmpaaGreatDoorJnPq
set_option linter.unusedVariables false
set_option linter.unusedSimpArgs false
namespace Go.Proofs.YtobegfbdedgmpaaGreatDoor
open Go.RowKit Go.Shelf

def Tk.bare (t:Tk):Tk:=⟨t.kind,t.text,0⟩
end Go.Proofs.YtobegfbdedgmpaaGreatDoor
