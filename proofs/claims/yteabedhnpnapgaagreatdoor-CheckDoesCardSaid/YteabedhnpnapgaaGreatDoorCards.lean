/-
  DERIVED. GIVEN WITH THE SEED: THE CARDS: each row of YteabedhnpnapgaaGreatDoorRows.lean that lists a variable, with what it lists TIED to the program's text (the seventh form; the later family's looks); each row that meets fmt, with fmt's text TOLD by the authors' own Lean function (tested against real Go, not proved from fmt's source: count such statements apart). THE CARD IS WHAT COUNTS. Prove the row's statement (the work); the ties are given (YteabedhnpnapgaaGreatDoorTie.lean); close each card by the builder's one call (the guide's Derived/Test/ToyasCard.lean, 'card_holds'). Laid BY PROGRAM, IN A SANDBOX (cutbox-door.mjs). By AI agents, Wed Nov 11 2026. No macro, syntax, notation, axiom, sorry.
-/
import Derived.Test.YteabedhnpnapgaaGreatDoorRows
import GoSem.ClaimSeven
namespace Go.Proofs.YteabedhnpnapgaaGreatDoor
namespace Rows

/-- THE TIED CARD OF 'facetroomlaw11.CheckDoes'. -/
def checkDoesCard : Claim7 := { stood := { row := checkDoesRow, standIns := [], harness := (true, "1c355501ed558ed08b28ddfb7a8c38ea1f18406d3f6eaab945601584248db19d"), looks := false }, kinds := [], alts := [], laidByText := true, laidKinds := [.listed, .data], laidTests := true, laidLooks := .later }
def CheckDoesCardSaid : Prop := Claim7.holds Tryz.pinned (.plain (OpenSpec.ofChange checkDoesSpec)) checkDoesCard

/-- THE SECOND FORM's CARD OF 'facetroomlaw11.CheckDoes'. -/
def checkDoesUptoCard : Claim7 := { stood := { row := checkDoesUptoRow, standIns := [], harness := (true, "1c355501ed558ed08b28ddfb7a8c38ea1f18406d3f6eaab945601584248db19d"), looks := false }, kinds := [], alts := [], laidByText := true, laidKinds := [.listed, .data], laidTests := true, laidLooks := .later }
def CheckDoesUptoCardSaid : Prop := Claim7.holds Tryz.pinned (.plain (OpenSpec.upto checkDoesSpec)) checkDoesUptoCard
end Rows
end Go.Proofs.YteabedhnpnapgaaGreatDoor
