/-
  DERIVED. GIVEN WITH THE SEED: THE CARDS: each row of YtmopichdofgndaaGreatDoorRows.lean that lists a variable, with what it lists TIED to the program's text (the seventh form; the later family's looks); each row that meets fmt, with fmt's text TOLD by the authors' own Lean function (tested against real Go, not proved from fmt's source: count such statements apart). THE CARD IS WHAT COUNTS. Prove the row's statement (the work); the ties are given (YtmopichdofgndaaGreatDoorTie.lean); close each card by the builder's one call (the guide's Derived/Test/ToyasCard.lean, 'card_holds'). Laid BY PROGRAM, IN A SANDBOX (cutbox-door.mjs). By AI agents, Wed Nov 11 2026. No macro, syntax, notation, axiom, sorry.
-/
import Derived.Test.YtmopichdofgndaaGreatDoorRows
import GoSem.ClaimSeven
namespace Go.Proofs.YtmopichdofgndaaGreatDoor
namespace Rows

/-- THE TIED CARD OF 'facetroomlaw12.InlineDoes'. -/
def inlineDoesCard : Claim7 := { stood := { row := inlineDoesRow, standIns := [], harness := (true, "51ef406f2d5a0d417f580c0b364799e75fa54428d24acddb007ba4c6a60a1c14"), looks := false }, kinds := [], alts := [], laidByText := true, laidKinds := [.data, .data, .data, .listed, .data], laidTests := true, laidLooks := .later }
def InlineDoesCardSaid : Prop := Claim7.holds Tryz.pinned (.plain (OpenSpec.ofChange inlineDoesSpec)) inlineDoesCard

/-- THE TIED CARD OF 'facetroomlaw10.PrintDoes'. -/
def printDoesCard : Claim7 := { stood := { row := printDoesRow, standIns := [], harness := (true, "51ef406f2d5a0d417f580c0b364799e75fa54428d24acddb007ba4c6a60a1c14"), looks := false }, kinds := [], alts := [], laidByText := true, laidKinds := [.data, .data, .data, .listed, .data], laidTests := true, laidLooks := .later }
def PrintDoesCardSaid : Prop := Claim7.holds Tryz.pinned (.plain (OpenSpec.ofChange printDoesSpec)) printDoesCard

/-- THE TIED CARD OF 'facetroomlaw13.FlowGraphs'. -/
def flowGraphsCard : Claim7 := { stood := { row := flowGraphsRow, standIns := [], harness := (true, "51ef406f2d5a0d417f580c0b364799e75fa54428d24acddb007ba4c6a60a1c14"), looks := false }, kinds := [], alts := [], laidByText := true, laidKinds := [.data, .data, .data, .listed, .data], laidTests := true, laidLooks := .later }
def FlowGraphsCardSaid : Prop := Claim7.holds Tryz.pinned (.plain (OpenSpec.ofChange flowGraphsSpec)) flowGraphsCard

/-- THE SECOND FORM's CARD OF 'facetroomlaw12.InlineDoes'. -/
def inlineDoesUptoCard : Claim7 := { stood := { row := inlineDoesUptoRow, standIns := [], harness := (true, "51ef406f2d5a0d417f580c0b364799e75fa54428d24acddb007ba4c6a60a1c14"), looks := false }, kinds := [], alts := [], laidByText := true, laidKinds := [.data, .data, .data, .listed, .data], laidTests := true, laidLooks := .later }
def InlineDoesUptoCardSaid : Prop := Claim7.holds Tryz.pinned (.plain (OpenSpec.upto inlineDoesSpec)) inlineDoesUptoCard

/-- THE SECOND FORM's CARD OF 'facetroomlaw10.PrintDoes'. -/
def printDoesUptoCard : Claim7 := { stood := { row := printDoesUptoRow, standIns := [], harness := (true, "51ef406f2d5a0d417f580c0b364799e75fa54428d24acddb007ba4c6a60a1c14"), looks := false }, kinds := [], alts := [], laidByText := true, laidKinds := [.data, .data, .data, .listed, .data], laidTests := true, laidLooks := .later }
def PrintDoesUptoCardSaid : Prop := Claim7.holds Tryz.pinned (.plain (OpenSpec.upto printDoesSpec)) printDoesUptoCard

/-- THE SECOND FORM's CARD OF 'facetroomlaw13.FlowGraphs'. -/
def flowGraphsUptoCard : Claim7 := { stood := { row := flowGraphsUptoRow, standIns := [], harness := (true, "51ef406f2d5a0d417f580c0b364799e75fa54428d24acddb007ba4c6a60a1c14"), looks := false }, kinds := [], alts := [], laidByText := true, laidKinds := [.data, .data, .data, .listed, .data], laidTests := true, laidLooks := .later }
def FlowGraphsUptoCardSaid : Prop := Claim7.holds Tryz.pinned (.plain (OpenSpec.upto flowGraphsSpec)) flowGraphsUptoCard
end Rows
end Go.Proofs.YtmopichdofgndaaGreatDoor
