/-
  DERIVED. GIVEN WITH THE SEED: THE CARDS: each row of YtfcegaklbicmfaaGreatDoorRows.lean that lists a variable, with what it lists TIED to the program's text (the seventh form; the later family's looks); each row that meets fmt, with fmt's text TOLD by the authors' own Lean function (tested against real Go, not proved from fmt's source: count such statements apart). THE CARD IS WHAT COUNTS. Prove the row's statement (the work); the ties are given (YtfcegaklbicmfaaGreatDoorTie.lean); close each card by the builder's one call (the guide's Derived/Test/ToyasCard.lean, 'card_holds'). Laid BY PROGRAM, IN A SANDBOX (cutbox-door.mjs). By AI agents, Wed Nov 11 2026. No macro, syntax, notation, axiom, sorry.
-/
import Derived.Test.YtfcegaklbicmfaaGreatDoorRows
import GoSem.ClaimSeven
namespace Go.Proofs.YtfcegaklbicmfaaGreatDoor
namespace Rows

/-- THE TIED CARD OF 'facetroomlaw12.InlineNames'. -/
def inlineNamesCard : Claim7 := { stood := { row := inlineNamesRow, standIns := [], harness := (true, "29a54f6d9859107dcf69a3e0da25a0e3de96a22d1b7079a71856e1de43d0504f"), looks := true }, kinds := [], alts := [], laidByText := true, laidKinds := [.data, .data, .data, .sentinel, .sentinel, .listed, .data], laidTests := true, laidLooks := .later }
def InlineNamesCardSaid : Prop := Claim7.holds Tryz.pinned (.plain (OpenSpec.ofChange inlineNamesSpec)) inlineNamesCard

/-- THE TIED CARD OF 'facetroomlaw12.InlineNone'. -/
def inlineNoneCard : Claim7 := { stood := { row := inlineNoneRow, standIns := [], harness := (true, "29a54f6d9859107dcf69a3e0da25a0e3de96a22d1b7079a71856e1de43d0504f"), looks := true }, kinds := [], alts := [], laidByText := true, laidKinds := [.data, .data, .data, .sentinel, .sentinel, .listed, .data], laidTests := true, laidLooks := .later }
def InlineNoneCardSaid : Prop := Claim7.holds Tryz.pinned (.plain (OpenSpec.ofChange inlineNoneSpec)) inlineNoneCard

/-- THE TIED CARD OF 'facetroomlaw10.PrintNames'. -/
def printNamesCard : Claim7 := { stood := { row := printNamesRow, standIns := [], harness := (true, "29a54f6d9859107dcf69a3e0da25a0e3de96a22d1b7079a71856e1de43d0504f"), looks := true }, kinds := [], alts := [], laidByText := true, laidKinds := [.data, .data, .data, .sentinel, .sentinel, .listed, .data], laidTests := true, laidLooks := .later }
def PrintNamesCardSaid : Prop := Claim7.holds Tryz.pinned (.plain (OpenSpec.ofChange printNamesSpec)) printNamesCard

/-- THE TIED CARD OF 'facetroomlaw12.InlineIdle'. -/
def inlineIdleCard : Claim7 := { stood := { row := inlineIdleRow, standIns := [], harness := (true, "29a54f6d9859107dcf69a3e0da25a0e3de96a22d1b7079a71856e1de43d0504f"), looks := true }, kinds := [], alts := [], laidByText := true, laidKinds := [.data, .data, .data, .sentinel, .sentinel, .listed, .data], laidTests := true, laidLooks := .later }
def InlineIdleCardSaid : Prop := Claim7.holds Tryz.pinned (.plain (OpenSpec.ofChange inlineIdleSpec)) inlineIdleCard

/-- THE TIED CARD OF 'facetroomlaw12.InlineParts'. -/
def inlinePartsCard : Claim7 := { stood := { row := inlinePartsRow, standIns := [], harness := (true, "29a54f6d9859107dcf69a3e0da25a0e3de96a22d1b7079a71856e1de43d0504f"), looks := true }, kinds := [], alts := [], laidByText := true, laidKinds := [.data, .data, .data, .sentinel, .sentinel, .listed, .data], laidTests := true, laidLooks := .later }
def InlinePartsCardSaid : Prop := Claim7.holds Tryz.pinned (.plain (OpenSpec.ofChange inlinePartsSpec)) inlinePartsCard

/-- THE TIED CARD OF 'facetroomlaw10.PrintBack'. -/
def printBackCard : Claim7 := { stood := { row := printBackRow, standIns := [], harness := (true, "29a54f6d9859107dcf69a3e0da25a0e3de96a22d1b7079a71856e1de43d0504f"), looks := true }, kinds := [], alts := [], laidByText := true, laidKinds := [.data, .data, .data, .sentinel, .sentinel, .listed, .data], laidTests := true, laidLooks := .later }
def PrintBackCardSaid : Prop := Claim7.holds Tryz.pinned (.plain (OpenSpec.ofChange printBackSpec)) printBackCard

/-- THE TIED CARD OF 'facetroomlaw10.PrintApart'. -/
def printApartCard : Claim7 := { stood := { row := printApartRow, standIns := [], harness := (true, "29a54f6d9859107dcf69a3e0da25a0e3de96a22d1b7079a71856e1de43d0504f"), looks := true }, kinds := [], alts := [], laidByText := true, laidKinds := [.data, .data, .data, .sentinel, .sentinel, .listed, .data], laidTests := true, laidLooks := .later }
def PrintApartCardSaid : Prop := Claim7.holds Tryz.pinned (.plain (OpenSpec.ofChange printApartSpec)) printApartCard

/-- THE TIED CARD OF 'facetroomlaw10.PrintTrees'. -/
def printTreesCard : Claim7 := { stood := { row := printTreesRow, standIns := [], harness := (true, "29a54f6d9859107dcf69a3e0da25a0e3de96a22d1b7079a71856e1de43d0504f"), looks := true }, kinds := [], alts := [], laidByText := true, laidKinds := [.data, .data, .data, .sentinel, .sentinel, .listed, .data], laidTests := true, laidLooks := .later }
def PrintTreesCardSaid : Prop := Claim7.holds Tryz.pinned (.plain (OpenSpec.ofChange printTreesSpec)) printTreesCard

/-- THE SECOND FORM's CARD OF 'facetroomlaw12.InlineNames'. -/
def inlineNamesUptoCard : Claim7 := { stood := { row := inlineNamesUptoRow, standIns := [], harness := (true, "29a54f6d9859107dcf69a3e0da25a0e3de96a22d1b7079a71856e1de43d0504f"), looks := true }, kinds := [], alts := [], laidByText := true, laidKinds := [.data, .data, .data, .sentinel, .sentinel, .listed, .data], laidTests := true, laidLooks := .later }
def InlineNamesUptoCardSaid : Prop := Claim7.holds Tryz.pinned (.plain (OpenSpec.upto inlineNamesSpec)) inlineNamesUptoCard

/-- THE SECOND FORM's CARD OF 'facetroomlaw12.InlineNone'. -/
def inlineNoneUptoCard : Claim7 := { stood := { row := inlineNoneUptoRow, standIns := [], harness := (true, "29a54f6d9859107dcf69a3e0da25a0e3de96a22d1b7079a71856e1de43d0504f"), looks := true }, kinds := [], alts := [], laidByText := true, laidKinds := [.data, .data, .data, .sentinel, .sentinel, .listed, .data], laidTests := true, laidLooks := .later }
def InlineNoneUptoCardSaid : Prop := Claim7.holds Tryz.pinned (.plain (OpenSpec.upto inlineNoneSpec)) inlineNoneUptoCard

/-- THE SECOND FORM's CARD OF 'facetroomlaw10.PrintNames'. -/
def printNamesUptoCard : Claim7 := { stood := { row := printNamesUptoRow, standIns := [], harness := (true, "29a54f6d9859107dcf69a3e0da25a0e3de96a22d1b7079a71856e1de43d0504f"), looks := true }, kinds := [], alts := [], laidByText := true, laidKinds := [.data, .data, .data, .sentinel, .sentinel, .listed, .data], laidTests := true, laidLooks := .later }
def PrintNamesUptoCardSaid : Prop := Claim7.holds Tryz.pinned (.plain (OpenSpec.upto printNamesSpec)) printNamesUptoCard

/-- THE SECOND FORM's CARD OF 'facetroomlaw12.InlineIdle'. -/
def inlineIdleUptoCard : Claim7 := { stood := { row := inlineIdleUptoRow, standIns := [], harness := (true, "29a54f6d9859107dcf69a3e0da25a0e3de96a22d1b7079a71856e1de43d0504f"), looks := true }, kinds := [], alts := [], laidByText := true, laidKinds := [.data, .data, .data, .sentinel, .sentinel, .listed, .data], laidTests := true, laidLooks := .later }
def InlineIdleUptoCardSaid : Prop := Claim7.holds Tryz.pinned (.plain (OpenSpec.upto inlineIdleSpec)) inlineIdleUptoCard

/-- THE SECOND FORM's CARD OF 'facetroomlaw12.InlineParts'. -/
def inlinePartsUptoCard : Claim7 := { stood := { row := inlinePartsUptoRow, standIns := [], harness := (true, "29a54f6d9859107dcf69a3e0da25a0e3de96a22d1b7079a71856e1de43d0504f"), looks := true }, kinds := [], alts := [], laidByText := true, laidKinds := [.data, .data, .data, .sentinel, .sentinel, .listed, .data], laidTests := true, laidLooks := .later }
def InlinePartsUptoCardSaid : Prop := Claim7.holds Tryz.pinned (.plain (OpenSpec.upto inlinePartsSpec)) inlinePartsUptoCard

/-- THE SECOND FORM's CARD OF 'facetroomlaw10.PrintBack'. -/
def printBackUptoCard : Claim7 := { stood := { row := printBackUptoRow, standIns := [], harness := (true, "29a54f6d9859107dcf69a3e0da25a0e3de96a22d1b7079a71856e1de43d0504f"), looks := true }, kinds := [], alts := [], laidByText := true, laidKinds := [.data, .data, .data, .sentinel, .sentinel, .listed, .data], laidTests := true, laidLooks := .later }
def PrintBackUptoCardSaid : Prop := Claim7.holds Tryz.pinned (.plain (OpenSpec.upto printBackSpec)) printBackUptoCard

/-- THE SECOND FORM's CARD OF 'facetroomlaw10.PrintApart'. -/
def printApartUptoCard : Claim7 := { stood := { row := printApartUptoRow, standIns := [], harness := (true, "29a54f6d9859107dcf69a3e0da25a0e3de96a22d1b7079a71856e1de43d0504f"), looks := true }, kinds := [], alts := [], laidByText := true, laidKinds := [.data, .data, .data, .sentinel, .sentinel, .listed, .data], laidTests := true, laidLooks := .later }
def PrintApartUptoCardSaid : Prop := Claim7.holds Tryz.pinned (.plain (OpenSpec.upto printApartSpec)) printApartUptoCard

/-- THE SECOND FORM's CARD OF 'facetroomlaw10.PrintTrees'. -/
def printTreesUptoCard : Claim7 := { stood := { row := printTreesUptoRow, standIns := [], harness := (true, "29a54f6d9859107dcf69a3e0da25a0e3de96a22d1b7079a71856e1de43d0504f"), looks := true }, kinds := [], alts := [], laidByText := true, laidKinds := [.data, .data, .data, .sentinel, .sentinel, .listed, .data], laidTests := true, laidLooks := .later }
def PrintTreesUptoCardSaid : Prop := Claim7.holds Tryz.pinned (.plain (OpenSpec.upto printTreesSpec)) printTreesUptoCard
end Rows
end Go.Proofs.YtfcegaklbicmfaaGreatDoor
