/-
  DERIVED. GIVEN WITH THE SEED: THE CARDS: each row of YtfomomaomggpbaaGreatDoorRows.lean that lists a variable, with what it lists TIED to the program's text (the seventh form; the later family's looks); each row that meets fmt, with fmt's text TOLD by the authors' own Lean function (tested against real Go, not proved from fmt's source: count such statements apart). THE CARD IS WHAT COUNTS. Prove the row's statement (the work); the ties are given (YtfomomaomggpbaaGreatDoorTie.lean); close each card by the builder's one call (the guide's Derived/Test/ToyasCard.lean, 'card_holds'). Laid BY PROGRAM, IN A SANDBOX (cutbox-door.mjs). By AI agents, Wed Nov 11 2026. No macro, syntax, notation, axiom, sorry.
-/
import Derived.Test.YtfomomaomggpbaaGreatDoorRows
import GoSem.ClaimSeven
namespace Go.Proofs.YtfomomaomggpbaaGreatDoor
namespace Rows

/-- THE TIED CARD OF 'facetroomlaw15.BigRuns'. -/
def bigRunsCard : Claim7 := { stood := { row := bigRunsRow, standIns := [], harness := (true, "5c31c9d822e83984afe6256ff46db40cb3cdc31348078a8c3f9ed3e38ac137d3"), looks := true }, kinds := [], alts := [], laidByText := true, laidKinds := [.listed, .data], laidTests := true, laidLooks := .later }
def BigRunsCardSaid : Prop := Claim7.holds Tryz.pinned (.plain (OpenSpec.ofChange bigRunsSpec)) bigRunsCard

/-- THE TIED CARD OF 'facetroomlaw15.BigNames'. -/
def bigNamesCard : Claim7 := { stood := { row := bigNamesRow, standIns := [], harness := (true, "5c31c9d822e83984afe6256ff46db40cb3cdc31348078a8c3f9ed3e38ac137d3"), looks := true }, kinds := [], alts := [], laidByText := true, laidKinds := [.data, .data, .data, .sentinel, .sentinel, .listed, .data], laidTests := true, laidLooks := .later }
def BigNamesCardSaid : Prop := Claim7.holds Tryz.pinned (.plain (OpenSpec.ofChange bigNamesSpec)) bigNamesCard

/-- THE TIED CARD OF 'facetroomlaw15.BigSteps'. -/
def bigStepsCard : Claim7 := { stood := { row := bigStepsRow, standIns := [], harness := (true, "5c31c9d822e83984afe6256ff46db40cb3cdc31348078a8c3f9ed3e38ac137d3"), looks := true }, kinds := [], alts := [], laidByText := true, laidKinds := [.data, .data, .data, .sentinel, .sentinel, .listed, .data], laidTests := true, laidLooks := .later }
def BigStepsCardSaid : Prop := Claim7.holds Tryz.pinned (.plain (OpenSpec.ofChange bigStepsSpec)) bigStepsCard

/-- THE TIED CARD OF 'facetroomlaw15.BigPlaces'. -/
def bigPlacesCard : Claim7 := { stood := { row := bigPlacesRow, standIns := [], harness := (true, "5c31c9d822e83984afe6256ff46db40cb3cdc31348078a8c3f9ed3e38ac137d3"), looks := true }, kinds := [], alts := [], laidByText := true, laidKinds := [.data, .data, .data, .sentinel, .sentinel, .listed, .data], laidTests := true, laidLooks := .later }
def BigPlacesCardSaid : Prop := Claim7.holds Tryz.pinned (.plain (OpenSpec.ofChange bigPlacesSpec)) bigPlacesCard

/-- THE TIED CARD OF 'facetroomlaw15.BigSame'. -/
def bigSameCard : Claim7 := { stood := { row := bigSameRow, standIns := [], harness := (true, "5c31c9d822e83984afe6256ff46db40cb3cdc31348078a8c3f9ed3e38ac137d3"), looks := true }, kinds := [], alts := [], laidByText := true, laidKinds := [.data, .data, .data, .sentinel, .sentinel, .listed, .data], laidTests := true, laidLooks := .later }
def BigSameCardSaid : Prop := Claim7.holds Tryz.pinned (.plain (OpenSpec.ofChange bigSameSpec)) bigSameCard

/-- THE SECOND FORM's CARD OF 'facetroomlaw15.BigRuns'. -/
def bigRunsUptoCard : Claim7 := { stood := { row := bigRunsUptoRow, standIns := [], harness := (true, "5c31c9d822e83984afe6256ff46db40cb3cdc31348078a8c3f9ed3e38ac137d3"), looks := true }, kinds := [], alts := [], laidByText := true, laidKinds := [.listed, .data], laidTests := true, laidLooks := .later }
def BigRunsUptoCardSaid : Prop := Claim7.holds Tryz.pinned (.plain (OpenSpec.upto bigRunsSpec)) bigRunsUptoCard

/-- THE SECOND FORM's CARD OF 'facetroomlaw15.BigNames'. -/
def bigNamesUptoCard : Claim7 := { stood := { row := bigNamesUptoRow, standIns := [], harness := (true, "5c31c9d822e83984afe6256ff46db40cb3cdc31348078a8c3f9ed3e38ac137d3"), looks := true }, kinds := [], alts := [], laidByText := true, laidKinds := [.data, .data, .data, .sentinel, .sentinel, .listed, .data], laidTests := true, laidLooks := .later }
def BigNamesUptoCardSaid : Prop := Claim7.holds Tryz.pinned (.plain (OpenSpec.upto bigNamesSpec)) bigNamesUptoCard

/-- THE SECOND FORM's CARD OF 'facetroomlaw15.BigSteps'. -/
def bigStepsUptoCard : Claim7 := { stood := { row := bigStepsUptoRow, standIns := [], harness := (true, "5c31c9d822e83984afe6256ff46db40cb3cdc31348078a8c3f9ed3e38ac137d3"), looks := true }, kinds := [], alts := [], laidByText := true, laidKinds := [.data, .data, .data, .sentinel, .sentinel, .listed, .data], laidTests := true, laidLooks := .later }
def BigStepsUptoCardSaid : Prop := Claim7.holds Tryz.pinned (.plain (OpenSpec.upto bigStepsSpec)) bigStepsUptoCard

/-- THE SECOND FORM's CARD OF 'facetroomlaw15.BigPlaces'. -/
def bigPlacesUptoCard : Claim7 := { stood := { row := bigPlacesUptoRow, standIns := [], harness := (true, "5c31c9d822e83984afe6256ff46db40cb3cdc31348078a8c3f9ed3e38ac137d3"), looks := true }, kinds := [], alts := [], laidByText := true, laidKinds := [.data, .data, .data, .sentinel, .sentinel, .listed, .data], laidTests := true, laidLooks := .later }
def BigPlacesUptoCardSaid : Prop := Claim7.holds Tryz.pinned (.plain (OpenSpec.upto bigPlacesSpec)) bigPlacesUptoCard

/-- THE SECOND FORM's CARD OF 'facetroomlaw15.BigSame'. -/
def bigSameUptoCard : Claim7 := { stood := { row := bigSameUptoRow, standIns := [], harness := (true, "5c31c9d822e83984afe6256ff46db40cb3cdc31348078a8c3f9ed3e38ac137d3"), looks := true }, kinds := [], alts := [], laidByText := true, laidKinds := [.data, .data, .data, .sentinel, .sentinel, .listed, .data], laidTests := true, laidLooks := .later }
def BigSameUptoCardSaid : Prop := Claim7.holds Tryz.pinned (.plain (OpenSpec.upto bigSameSpec)) bigSameUptoCard
end Rows
end Go.Proofs.YtfomomaomggpbaaGreatDoor
