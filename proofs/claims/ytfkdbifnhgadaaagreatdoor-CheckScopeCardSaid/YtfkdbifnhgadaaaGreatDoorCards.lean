/-
  DERIVED. GIVEN WITH THE SEED: THE CARDS: each row of YtfkdbifnhgadaaaGreatDoorRows.lean that lists a variable, with what it lists TIED to the program's text (the seventh form; the later family's looks); each row that meets fmt, with fmt's text TOLD by the authors' own Lean function (tested against real Go, not proved from fmt's source: count such statements apart). THE CARD IS WHAT COUNTS. Prove the row's statement (the work); the ties are given (YtfkdbifnhgadaaaGreatDoorTie.lean); close each card by the builder's one call (the guide's Derived/Test/ToyasCard.lean, 'card_holds'). Laid BY PROGRAM, IN A SANDBOX (cutbox-door.mjs). By AI agents, Wed Nov 11 2026. No macro, syntax, notation, axiom, sorry.
-/
import Derived.Test.YtfkdbifnhgadaaaGreatDoorRows
import GoSem.ClaimSeven
namespace Go.Proofs.YtfkdbifnhgadaaaGreatDoor
namespace Rows

/-- THE TIED CARD OF 'facetroomlaw11.CheckDoes'. -/
def checkDoesCard : Claim7 := { stood := { row := checkDoesRow, standIns := [], harness := (true, "bbee3464f9a9e81f02a0167c7d35ada8c370aa9f0db27cb9cf299bfc638a8863"), looks := true }, kinds := [], alts := [], laidByText := true, laidKinds := [.listed, .data], laidTests := true, laidLooks := .later }
def CheckDoesCardSaid : Prop := Claim7.holds Tryz.pinned (.plain (OpenSpec.ofChange checkDoesSpec)) checkDoesCard

/-- THE TIED CARD OF 'facetroomlaw11.CheckNames'. -/
def checkNamesCard : Claim7 := { stood := { row := checkNamesRow, standIns := [], harness := (true, "bbee3464f9a9e81f02a0167c7d35ada8c370aa9f0db27cb9cf299bfc638a8863"), looks := true }, kinds := [], alts := [], laidByText := true, laidKinds := [.data, .data, .data, .sentinel, .sentinel, .listed, .data], laidTests := true, laidLooks := .later }
def CheckNamesCardSaid : Prop := Claim7.holds Tryz.pinned (.plain (OpenSpec.ofChange checkNamesSpec)) checkNamesCard

/-- THE TIED CARD OF 'facetroomlaw11.CheckCalls'. -/
def checkCallsCard : Claim7 := { stood := { row := checkCallsRow, standIns := [], harness := (true, "bbee3464f9a9e81f02a0167c7d35ada8c370aa9f0db27cb9cf299bfc638a8863"), looks := true }, kinds := [], alts := [], laidByText := true, laidKinds := [.data, .data, .data, .sentinel, .sentinel, .listed, .data], laidTests := true, laidLooks := .later }
def CheckCallsCardSaid : Prop := Claim7.holds Tryz.pinned (.plain (OpenSpec.ofChange checkCallsSpec)) checkCallsCard

/-- THE TIED CARD OF 'facetroomlaw11.CheckLess'. -/
def checkLessCard : Claim7 := { stood := { row := checkLessRow, standIns := [], harness := (true, "bbee3464f9a9e81f02a0167c7d35ada8c370aa9f0db27cb9cf299bfc638a8863"), looks := true }, kinds := [], alts := [], laidByText := true, laidKinds := [.data, .data, .data, .sentinel, .sentinel, .listed, .data], laidTests := true, laidLooks := .later }
def CheckLessCardSaid : Prop := Claim7.holds Tryz.pinned (.plain (OpenSpec.ofChange checkLessSpec)) checkLessCard

/-- THE TIED CARD OF 'facetroomlaw11.CheckScope'. -/
def checkScopeCard : Claim7 := { stood := { row := checkScopeRow, standIns := [], harness := (true, "bbee3464f9a9e81f02a0167c7d35ada8c370aa9f0db27cb9cf299bfc638a8863"), looks := true }, kinds := [], alts := [], laidByText := true, laidKinds := [.data, .data, .data, .sentinel, .sentinel, .listed, .data], laidTests := true, laidLooks := .later }
def CheckScopeCardSaid : Prop := Claim7.holds Tryz.pinned (.plain (OpenSpec.ofChange checkScopeSpec)) checkScopeCard

/-- THE SECOND FORM's CARD OF 'facetroomlaw11.CheckDoes'. -/
def checkDoesUptoCard : Claim7 := { stood := { row := checkDoesUptoRow, standIns := [], harness := (true, "bbee3464f9a9e81f02a0167c7d35ada8c370aa9f0db27cb9cf299bfc638a8863"), looks := true }, kinds := [], alts := [], laidByText := true, laidKinds := [.listed, .data], laidTests := true, laidLooks := .later }
def CheckDoesUptoCardSaid : Prop := Claim7.holds Tryz.pinned (.plain (OpenSpec.upto checkDoesSpec)) checkDoesUptoCard

/-- THE SECOND FORM's CARD OF 'facetroomlaw11.CheckNames'. -/
def checkNamesUptoCard : Claim7 := { stood := { row := checkNamesUptoRow, standIns := [], harness := (true, "bbee3464f9a9e81f02a0167c7d35ada8c370aa9f0db27cb9cf299bfc638a8863"), looks := true }, kinds := [], alts := [], laidByText := true, laidKinds := [.data, .data, .data, .sentinel, .sentinel, .listed, .data], laidTests := true, laidLooks := .later }
def CheckNamesUptoCardSaid : Prop := Claim7.holds Tryz.pinned (.plain (OpenSpec.upto checkNamesSpec)) checkNamesUptoCard

/-- THE SECOND FORM's CARD OF 'facetroomlaw11.CheckCalls'. -/
def checkCallsUptoCard : Claim7 := { stood := { row := checkCallsUptoRow, standIns := [], harness := (true, "bbee3464f9a9e81f02a0167c7d35ada8c370aa9f0db27cb9cf299bfc638a8863"), looks := true }, kinds := [], alts := [], laidByText := true, laidKinds := [.data, .data, .data, .sentinel, .sentinel, .listed, .data], laidTests := true, laidLooks := .later }
def CheckCallsUptoCardSaid : Prop := Claim7.holds Tryz.pinned (.plain (OpenSpec.upto checkCallsSpec)) checkCallsUptoCard

/-- THE SECOND FORM's CARD OF 'facetroomlaw11.CheckLess'. -/
def checkLessUptoCard : Claim7 := { stood := { row := checkLessUptoRow, standIns := [], harness := (true, "bbee3464f9a9e81f02a0167c7d35ada8c370aa9f0db27cb9cf299bfc638a8863"), looks := true }, kinds := [], alts := [], laidByText := true, laidKinds := [.data, .data, .data, .sentinel, .sentinel, .listed, .data], laidTests := true, laidLooks := .later }
def CheckLessUptoCardSaid : Prop := Claim7.holds Tryz.pinned (.plain (OpenSpec.upto checkLessSpec)) checkLessUptoCard

/-- THE SECOND FORM's CARD OF 'facetroomlaw11.CheckScope'. -/
def checkScopeUptoCard : Claim7 := { stood := { row := checkScopeUptoRow, standIns := [], harness := (true, "bbee3464f9a9e81f02a0167c7d35ada8c370aa9f0db27cb9cf299bfc638a8863"), looks := true }, kinds := [], alts := [], laidByText := true, laidKinds := [.data, .data, .data, .sentinel, .sentinel, .listed, .data], laidTests := true, laidLooks := .later }
def CheckScopeUptoCardSaid : Prop := Claim7.holds Tryz.pinned (.plain (OpenSpec.upto checkScopeSpec)) checkScopeUptoCard
end Rows
end Go.Proofs.YtfkdbifnhgadaaaGreatDoor
