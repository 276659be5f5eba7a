/-
  DERIVED. GIVEN WITH THE SEED: THE CARDS: each row of YtknckiblofochaaGreatDoorRows.lean that lists a variable, with what it lists TIED to the program's text (the seventh form; the later family's looks); each row that meets fmt, with fmt's text TOLD by the authors' own Lean function (tested against real Go, not proved from fmt's source: count such statements apart). THE CARD IS WHAT COUNTS. Prove the row's statement (the work); the ties are given (YtknckiblofochaaGreatDoorTie.lean); close each card by the builder's one call (the guide's Derived/Test/ToyasCard.lean, 'card_holds'). Laid BY PROGRAM, IN A SANDBOX (cutbox-door.mjs). By AI agents, Wed Nov 11 2026. No macro, syntax, notation, axiom, sorry.
-/
import Derived.Test.YtknckiblofochaaGreatDoorRows
import GoSem.ClaimSeven
namespace Go.Proofs.YtknckiblofochaaGreatDoor
namespace Rows

/-- THE TIED CARD OF 'facetroomlaw11.CheckDoes'. -/
def checkDoesCard : Claim7 := { stood := { row := checkDoesRow, standIns := [], harness := (true, "5b6e7b14fc9e7e0553afd77718c36393e613fed0cd8d7cd36091bd4bd147bcd8"), looks := true }, kinds := [], alts := [], laidByText := true, laidKinds := [.listed, .data], laidTests := true, laidLooks := .later }
def CheckDoesCardSaid : Prop := Claim7.holds Tryz.pinned (.plain (OpenSpec.ofChange checkDoesSpec)) checkDoesCard

/-- THE TIED CARD OF 'facetroomlaw12.InlineDoes'. -/
def inlineDoesCard : Claim7 := { stood := { row := inlineDoesRow, standIns := [], harness := (true, "5b6e7b14fc9e7e0553afd77718c36393e613fed0cd8d7cd36091bd4bd147bcd8"), looks := true }, kinds := [], alts := [], laidByText := true, laidKinds := [.data, .data, .data, .listed, .data], laidTests := true, laidLooks := .later }
def InlineDoesCardSaid : Prop := Claim7.holds Tryz.pinned (.plain (OpenSpec.ofChange inlineDoesSpec)) inlineDoesCard

/-- THE TIED CARD OF 'facetroomlaw10.PrintDoes'. -/
def printDoesCard : Claim7 := { stood := { row := printDoesRow, standIns := [], harness := (true, "5b6e7b14fc9e7e0553afd77718c36393e613fed0cd8d7cd36091bd4bd147bcd8"), looks := true }, kinds := [], alts := [], laidByText := true, laidKinds := [.data, .data, .data, .listed, .data], laidTests := true, laidLooks := .later }
def PrintDoesCardSaid : Prop := Claim7.holds Tryz.pinned (.plain (OpenSpec.ofChange printDoesSpec)) printDoesCard

/-- THE TIED CARD OF 'facetroomlaw09.ParseNames'. -/
def parseNamesCard : Claim7 := { stood := { row := parseNamesRow, standIns := [], harness := (true, "5b6e7b14fc9e7e0553afd77718c36393e613fed0cd8d7cd36091bd4bd147bcd8"), looks := true }, kinds := [], alts := [], laidByText := true, laidKinds := [.data, .data, .data, .sentinel, .sentinel, .listed, .data], laidTests := true, laidLooks := .later }
def ParseNamesCardSaid : Prop := Claim7.holds Tryz.pinned (.plain (OpenSpec.ofChange parseNamesSpec)) parseNamesCard

/-- THE TIED CARD OF 'facetroomlaw09.ParseDoes'. -/
def parseDoesCard : Claim7 := { stood := { row := parseDoesRow, standIns := [], harness := (true, "5b6e7b14fc9e7e0553afd77718c36393e613fed0cd8d7cd36091bd4bd147bcd8"), looks := true }, kinds := [], alts := [], laidByText := true, laidKinds := [.data, .data, .data, .sentinel, .sentinel, .listed, .data], laidTests := true, laidLooks := .later }
def ParseDoesCardSaid : Prop := Claim7.holds Tryz.pinned (.plain (OpenSpec.ofChange parseDoesSpec)) parseDoesCard

/-- THE TIED CARD OF 'facetroomlaw09.ParseWrong'. -/
def parseWrongCard : Claim7 := { stood := { row := parseWrongRow, standIns := [], harness := (true, "5b6e7b14fc9e7e0553afd77718c36393e613fed0cd8d7cd36091bd4bd147bcd8"), looks := true }, kinds := [], alts := [], laidByText := true, laidKinds := [.data, .data, .data, .sentinel, .sentinel, .listed, .data], laidTests := true, laidLooks := .later }
def ParseWrongCardSaid : Prop := Claim7.holds Tryz.pinned (.plain (OpenSpec.ofChange parseWrongSpec)) parseWrongCard

/-- THE TIED CARD OF 'facetroomlaw09.ParseWide'. -/
def parseWideCard : Claim7 := { stood := { row := parseWideRow, standIns := [], harness := (true, "5b6e7b14fc9e7e0553afd77718c36393e613fed0cd8d7cd36091bd4bd147bcd8"), looks := true }, kinds := [], alts := [], laidByText := true, laidKinds := [.data, .data, .data, .sentinel, .sentinel, .listed, .data], laidTests := true, laidLooks := .later }
def ParseWideCardSaid : Prop := Claim7.holds Tryz.pinned (.plain (OpenSpec.ofChange parseWideSpec)) parseWideCard

/-- THE TIED CARD OF 'facetroomlaw09.ParseDeep'. -/
def parseDeepCard : Claim7 := { stood := { row := parseDeepRow, standIns := [], harness := (true, "5b6e7b14fc9e7e0553afd77718c36393e613fed0cd8d7cd36091bd4bd147bcd8"), looks := true }, kinds := [], alts := [], laidByText := true, laidKinds := [.data, .data, .data, .sentinel, .sentinel, .listed, .data], laidTests := true, laidLooks := .later }
def ParseDeepCardSaid : Prop := Claim7.holds Tryz.pinned (.plain (OpenSpec.ofChange parseDeepSpec)) parseDeepCard

/-- THE SECOND FORM's CARD OF 'facetroomlaw11.CheckDoes'. -/
def checkDoesUptoCard : Claim7 := { stood := { row := checkDoesUptoRow, standIns := [], harness := (true, "5b6e7b14fc9e7e0553afd77718c36393e613fed0cd8d7cd36091bd4bd147bcd8"), looks := true }, kinds := [], alts := [], laidByText := true, laidKinds := [.listed, .data], laidTests := true, laidLooks := .later }
def CheckDoesUptoCardSaid : Prop := Claim7.holds Tryz.pinned (.plain (OpenSpec.upto checkDoesSpec)) checkDoesUptoCard

/-- THE SECOND FORM's CARD OF 'facetroomlaw12.InlineDoes'. -/
def inlineDoesUptoCard : Claim7 := { stood := { row := inlineDoesUptoRow, standIns := [], harness := (true, "5b6e7b14fc9e7e0553afd77718c36393e613fed0cd8d7cd36091bd4bd147bcd8"), looks := true }, kinds := [], alts := [], laidByText := true, laidKinds := [.data, .data, .data, .listed, .data], laidTests := true, laidLooks := .later }
def InlineDoesUptoCardSaid : Prop := Claim7.holds Tryz.pinned (.plain (OpenSpec.upto inlineDoesSpec)) inlineDoesUptoCard

/-- THE SECOND FORM's CARD OF 'facetroomlaw10.PrintDoes'. -/
def printDoesUptoCard : Claim7 := { stood := { row := printDoesUptoRow, standIns := [], harness := (true, "5b6e7b14fc9e7e0553afd77718c36393e613fed0cd8d7cd36091bd4bd147bcd8"), looks := true }, kinds := [], alts := [], laidByText := true, laidKinds := [.data, .data, .data, .listed, .data], laidTests := true, laidLooks := .later }
def PrintDoesUptoCardSaid : Prop := Claim7.holds Tryz.pinned (.plain (OpenSpec.upto printDoesSpec)) printDoesUptoCard

/-- THE SECOND FORM's CARD OF 'facetroomlaw09.ParseNames'. -/
def parseNamesUptoCard : Claim7 := { stood := { row := parseNamesUptoRow, standIns := [], harness := (true, "5b6e7b14fc9e7e0553afd77718c36393e613fed0cd8d7cd36091bd4bd147bcd8"), looks := true }, kinds := [], alts := [], laidByText := true, laidKinds := [.data, .data, .data, .sentinel, .sentinel, .listed, .data], laidTests := true, laidLooks := .later }
def ParseNamesUptoCardSaid : Prop := Claim7.holds Tryz.pinned (.plain (OpenSpec.upto parseNamesSpec)) parseNamesUptoCard

/-- THE SECOND FORM's CARD OF 'facetroomlaw09.ParseDoes'. -/
def parseDoesUptoCard : Claim7 := { stood := { row := parseDoesUptoRow, standIns := [], harness := (true, "5b6e7b14fc9e7e0553afd77718c36393e613fed0cd8d7cd36091bd4bd147bcd8"), looks := true }, kinds := [], alts := [], laidByText := true, laidKinds := [.data, .data, .data, .sentinel, .sentinel, .listed, .data], laidTests := true, laidLooks := .later }
def ParseDoesUptoCardSaid : Prop := Claim7.holds Tryz.pinned (.plain (OpenSpec.upto parseDoesSpec)) parseDoesUptoCard

/-- THE SECOND FORM's CARD OF 'facetroomlaw09.ParseWrong'. -/
def parseWrongUptoCard : Claim7 := { stood := { row := parseWrongUptoRow, standIns := [], harness := (true, "5b6e7b14fc9e7e0553afd77718c36393e613fed0cd8d7cd36091bd4bd147bcd8"), looks := true }, kinds := [], alts := [], laidByText := true, laidKinds := [.data, .data, .data, .sentinel, .sentinel, .listed, .data], laidTests := true, laidLooks := .later }
def ParseWrongUptoCardSaid : Prop := Claim7.holds Tryz.pinned (.plain (OpenSpec.upto parseWrongSpec)) parseWrongUptoCard

/-- THE SECOND FORM's CARD OF 'facetroomlaw09.ParseWide'. -/
def parseWideUptoCard : Claim7 := { stood := { row := parseWideUptoRow, standIns := [], harness := (true, "5b6e7b14fc9e7e0553afd77718c36393e613fed0cd8d7cd36091bd4bd147bcd8"), looks := true }, kinds := [], alts := [], laidByText := true, laidKinds := [.data, .data, .data, .sentinel, .sentinel, .listed, .data], laidTests := true, laidLooks := .later }
def ParseWideUptoCardSaid : Prop := Claim7.holds Tryz.pinned (.plain (OpenSpec.upto parseWideSpec)) parseWideUptoCard

/-- THE SECOND FORM's CARD OF 'facetroomlaw09.ParseDeep'. -/
def parseDeepUptoCard : Claim7 := { stood := { row := parseDeepUptoRow, standIns := [], harness := (true, "5b6e7b14fc9e7e0553afd77718c36393e613fed0cd8d7cd36091bd4bd147bcd8"), looks := true }, kinds := [], alts := [], laidByText := true, laidKinds := [.data, .data, .data, .sentinel, .sentinel, .listed, .data], laidTests := true, laidLooks := .later }
def ParseDeepUptoCardSaid : Prop := Claim7.holds Tryz.pinned (.plain (OpenSpec.upto parseDeepSpec)) parseDeepUptoCard
end Rows
end Go.Proofs.YtknckiblofochaaGreatDoor
