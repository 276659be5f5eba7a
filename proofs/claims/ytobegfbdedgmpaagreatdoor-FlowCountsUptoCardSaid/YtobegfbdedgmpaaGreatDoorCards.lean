/-
  DERIVED. GIVEN WITH THE SEED: THE CARDS: each row of YtobegfbdedgmpaaGreatDoorRows.lean that lists a variable, with what it lists TIED to the program's text (the seventh form; the later family's looks); each row that meets fmt, with fmt's text TOLD by the authors' own Lean function (tested against real Go, not proved from fmt's source: count such statements apart). THE CARD IS WHAT COUNTS. Prove the row's statement (the work); the ties are given (YtobegfbdedgmpaaGreatDoorTie.lean); close each card by the builder's one call (the guide's Derived/Test/ToyasCard.lean, 'card_holds'). Laid BY PROGRAM, IN A SANDBOX (cutbox-door.mjs). By AI agents, Wed Nov 11 2026. No macro, syntax, notation, axiom, sorry.
-/
import Derived.Test.YtobegfbdedgmpaaGreatDoorRows
import GoSem.ClaimSeven
namespace Go.Proofs.YtobegfbdedgmpaaGreatDoor
namespace Rows

/-- THE TIED CARD OF 'facetroomlaw10.PrintApart'. -/
def printApartCard : Claim7 := { stood := { row := printApartRow, standIns := [], harness := (true, "cb3c843aea171ab9ef0ca1c3960cb32d1c7537a8c48d592d65cf9be20e11ccd6"), looks := true }, kinds := [], alts := [], laidByText := true, laidKinds := [.data, .data, .data, .sentinel, .sentinel, .listed, .data], laidTests := true, laidLooks := .later }
def PrintApartCardSaid : Prop := Claim7.holds Tryz.pinned (.plain (OpenSpec.ofChange printApartSpec)) printApartCard

/-- THE TIED CARD OF 'facetroomlaw10.PrintTrees'. -/
def printTreesCard : Claim7 := { stood := { row := printTreesRow, standIns := [], harness := (true, "cb3c843aea171ab9ef0ca1c3960cb32d1c7537a8c48d592d65cf9be20e11ccd6"), looks := true }, kinds := [], alts := [], laidByText := true, laidKinds := [.data, .data, .data, .sentinel, .sentinel, .listed, .data], laidTests := true, laidLooks := .later }
def PrintTreesCardSaid : Prop := Claim7.holds Tryz.pinned (.plain (OpenSpec.ofChange printTreesSpec)) printTreesCard

/-- THE TIED CARD OF 'facetroomlaw13.FlowNames'. -/
def flowNamesCard : Claim7 := { stood := { row := flowNamesRow, standIns := [], harness := (true, "cb3c843aea171ab9ef0ca1c3960cb32d1c7537a8c48d592d65cf9be20e11ccd6"), looks := true }, kinds := [], alts := [], laidByText := true, laidKinds := [.data, .data, .data, .sentinel, .sentinel, .listed, .data], laidTests := true, laidLooks := .later }
def FlowNamesCardSaid : Prop := Claim7.holds Tryz.pinned (.plain (OpenSpec.ofChange flowNamesSpec)) flowNamesCard

/-- THE TIED CARD OF 'facetroomlaw13.FlowCounts'. -/
def flowCountsCard : Claim7 := { stood := { row := flowCountsRow, standIns := [], harness := (true, "cb3c843aea171ab9ef0ca1c3960cb32d1c7537a8c48d592d65cf9be20e11ccd6"), looks := true }, kinds := [], alts := [], laidByText := true, laidKinds := [.data, .data, .data, .sentinel, .sentinel, .listed, .data], laidTests := true, laidLooks := .later }
def FlowCountsCardSaid : Prop := Claim7.holds Tryz.pinned (.plain (OpenSpec.ofChange flowCountsSpec)) flowCountsCard

/-- THE TIED CARD OF 'facetroomlaw13.FlowLess'. -/
def flowLessCard : Claim7 := { stood := { row := flowLessRow, standIns := [], harness := (true, "cb3c843aea171ab9ef0ca1c3960cb32d1c7537a8c48d592d65cf9be20e11ccd6"), looks := true }, kinds := [], alts := [], laidByText := true, laidKinds := [.data, .data, .data, .sentinel, .sentinel, .listed, .data], laidTests := true, laidLooks := .later }
def FlowLessCardSaid : Prop := Claim7.holds Tryz.pinned (.plain (OpenSpec.ofChange flowLessSpec)) flowLessCard

/-- THE TIED CARD OF 'facetroomlaw13.FlowMay'. -/
def flowMayCard : Claim7 := { stood := { row := flowMayRow, standIns := [], harness := (true, "cb3c843aea171ab9ef0ca1c3960cb32d1c7537a8c48d592d65cf9be20e11ccd6"), looks := true }, kinds := [], alts := [], laidByText := true, laidKinds := [.data, .data, .data, .sentinel, .sentinel, .listed, .data], laidTests := true, laidLooks := .later }
def FlowMayCardSaid : Prop := Claim7.holds Tryz.pinned (.plain (OpenSpec.ofChange flowMaySpec)) flowMayCard

/-- THE TIED CARD OF 'facetroomlaw14.SemNames'. -/
def semNamesCard : Claim7 := { stood := { row := semNamesRow, standIns := [], harness := (true, "cb3c843aea171ab9ef0ca1c3960cb32d1c7537a8c48d592d65cf9be20e11ccd6"), looks := true }, kinds := [], alts := [], laidByText := true, laidKinds := [.data, .data, .data, .sentinel, .sentinel, .listed, .data], laidTests := true, laidLooks := .later }
def SemNamesCardSaid : Prop := Claim7.holds Tryz.pinned (.plain (OpenSpec.ofChange semNamesSpec)) semNamesCard

/-- THE TIED CARD OF 'facetroomlaw14.SemDivides'. -/
def semDividesCard : Claim7 := { stood := { row := semDividesRow, standIns := [], harness := (true, "cb3c843aea171ab9ef0ca1c3960cb32d1c7537a8c48d592d65cf9be20e11ccd6"), looks := true }, kinds := [], alts := [], laidByText := true, laidKinds := [.data, .data, .data, .sentinel, .sentinel, .listed, .data], laidTests := true, laidLooks := .later }
def SemDividesCardSaid : Prop := Claim7.holds Tryz.pinned (.plain (OpenSpec.ofChange semDividesSpec)) semDividesCard

/-- THE TIED CARD OF 'facetroomlaw14.SemUndoes'. -/
def semUndoesCard : Claim7 := { stood := { row := semUndoesRow, standIns := [], harness := (true, "cb3c843aea171ab9ef0ca1c3960cb32d1c7537a8c48d592d65cf9be20e11ccd6"), looks := true }, kinds := [], alts := [], laidByText := true, laidKinds := [.data, .data, .data, .sentinel, .sentinel, .listed, .data], laidTests := true, laidLooks := .later }
def SemUndoesCardSaid : Prop := Claim7.holds Tryz.pinned (.plain (OpenSpec.ofChange semUndoesSpec)) semUndoesCard

/-- THE TIED CARD OF 'facetroomlaw14.SemMore'. -/
def semMoreCard : Claim7 := { stood := { row := semMoreRow, standIns := [], harness := (true, "cb3c843aea171ab9ef0ca1c3960cb32d1c7537a8c48d592d65cf9be20e11ccd6"), looks := true }, kinds := [], alts := [], laidByText := true, laidKinds := [.data, .data, .data, .sentinel, .sentinel, .listed, .data], laidTests := true, laidLooks := .later }
def SemMoreCardSaid : Prop := Claim7.holds Tryz.pinned (.plain (OpenSpec.ofChange semMoreSpec)) semMoreCard

/-- THE TIED CARD OF 'facetroomlaw14.SemScript'. -/
def semScriptCard : Claim7 := { stood := { row := semScriptRow, standIns := [], harness := (true, "cb3c843aea171ab9ef0ca1c3960cb32d1c7537a8c48d592d65cf9be20e11ccd6"), looks := true }, kinds := [], alts := [], laidByText := true, laidKinds := [.data, .data, .data, .sentinel, .sentinel, .listed, .data], laidTests := true, laidLooks := .later }
def SemScriptCardSaid : Prop := Claim7.holds Tryz.pinned (.plain (OpenSpec.ofChange semScriptSpec)) semScriptCard

/-- THE SECOND FORM's CARD OF 'facetroomlaw10.PrintApart'. -/
def printApartUptoCard : Claim7 := { stood := { row := printApartUptoRow, standIns := [], harness := (true, "cb3c843aea171ab9ef0ca1c3960cb32d1c7537a8c48d592d65cf9be20e11ccd6"), looks := true }, kinds := [], alts := [], laidByText := true, laidKinds := [.data, .data, .data, .sentinel, .sentinel, .listed, .data], laidTests := true, laidLooks := .later }
def PrintApartUptoCardSaid : Prop := Claim7.holds Tryz.pinned (.plain (OpenSpec.upto printApartSpec)) printApartUptoCard

/-- THE SECOND FORM's CARD OF 'facetroomlaw10.PrintTrees'. -/
def printTreesUptoCard : Claim7 := { stood := { row := printTreesUptoRow, standIns := [], harness := (true, "cb3c843aea171ab9ef0ca1c3960cb32d1c7537a8c48d592d65cf9be20e11ccd6"), looks := true }, kinds := [], alts := [], laidByText := true, laidKinds := [.data, .data, .data, .sentinel, .sentinel, .listed, .data], laidTests := true, laidLooks := .later }
def PrintTreesUptoCardSaid : Prop := Claim7.holds Tryz.pinned (.plain (OpenSpec.upto printTreesSpec)) printTreesUptoCard

/-- THE SECOND FORM's CARD OF 'facetroomlaw13.FlowNames'. -/
def flowNamesUptoCard : Claim7 := { stood := { row := flowNamesUptoRow, standIns := [], harness := (true, "cb3c843aea171ab9ef0ca1c3960cb32d1c7537a8c48d592d65cf9be20e11ccd6"), looks := true }, kinds := [], alts := [], laidByText := true, laidKinds := [.data, .data, .data, .sentinel, .sentinel, .listed, .data], laidTests := true, laidLooks := .later }
def FlowNamesUptoCardSaid : Prop := Claim7.holds Tryz.pinned (.plain (OpenSpec.upto flowNamesSpec)) flowNamesUptoCard

/-- THE SECOND FORM's CARD OF 'facetroomlaw13.FlowCounts'. -/
def flowCountsUptoCard : Claim7 := { stood := { row := flowCountsUptoRow, standIns := [], harness := (true, "cb3c843aea171ab9ef0ca1c3960cb32d1c7537a8c48d592d65cf9be20e11ccd6"), looks := true }, kinds := [], alts := [], laidByText := true, laidKinds := [.data, .data, .data, .sentinel, .sentinel, .listed, .data], laidTests := true, laidLooks := .later }
def FlowCountsUptoCardSaid : Prop := Claim7.holds Tryz.pinned (.plain (OpenSpec.upto flowCountsSpec)) flowCountsUptoCard

/-- THE SECOND FORM's CARD OF 'facetroomlaw13.FlowLess'. -/
def flowLessUptoCard : Claim7 := { stood := { row := flowLessUptoRow, standIns := [], harness := (true, "cb3c843aea171ab9ef0ca1c3960cb32d1c7537a8c48d592d65cf9be20e11ccd6"), looks := true }, kinds := [], alts := [], laidByText := true, laidKinds := [.data, .data, .data, .sentinel, .sentinel, .listed, .data], laidTests := true, laidLooks := .later }
def FlowLessUptoCardSaid : Prop := Claim7.holds Tryz.pinned (.plain (OpenSpec.upto flowLessSpec)) flowLessUptoCard

/-- THE SECOND FORM's CARD OF 'facetroomlaw13.FlowMay'. -/
def flowMayUptoCard : Claim7 := { stood := { row := flowMayUptoRow, standIns := [], harness := (true, "cb3c843aea171ab9ef0ca1c3960cb32d1c7537a8c48d592d65cf9be20e11ccd6"), looks := true }, kinds := [], alts := [], laidByText := true, laidKinds := [.data, .data, .data, .sentinel, .sentinel, .listed, .data], laidTests := true, laidLooks := .later }
def FlowMayUptoCardSaid : Prop := Claim7.holds Tryz.pinned (.plain (OpenSpec.upto flowMaySpec)) flowMayUptoCard

/-- THE SECOND FORM's CARD OF 'facetroomlaw14.SemNames'. -/
def semNamesUptoCard : Claim7 := { stood := { row := semNamesUptoRow, standIns := [], harness := (true, "cb3c843aea171ab9ef0ca1c3960cb32d1c7537a8c48d592d65cf9be20e11ccd6"), looks := true }, kinds := [], alts := [], laidByText := true, laidKinds := [.data, .data, .data, .sentinel, .sentinel, .listed, .data], laidTests := true, laidLooks := .later }
def SemNamesUptoCardSaid : Prop := Claim7.holds Tryz.pinned (.plain (OpenSpec.upto semNamesSpec)) semNamesUptoCard

/-- THE SECOND FORM's CARD OF 'facetroomlaw14.SemDivides'. -/
def semDividesUptoCard : Claim7 := { stood := { row := semDividesUptoRow, standIns := [], harness := (true, "cb3c843aea171ab9ef0ca1c3960cb32d1c7537a8c48d592d65cf9be20e11ccd6"), looks := true }, kinds := [], alts := [], laidByText := true, laidKinds := [.data, .data, .data, .sentinel, .sentinel, .listed, .data], laidTests := true, laidLooks := .later }
def SemDividesUptoCardSaid : Prop := Claim7.holds Tryz.pinned (.plain (OpenSpec.upto semDividesSpec)) semDividesUptoCard

/-- THE SECOND FORM's CARD OF 'facetroomlaw14.SemUndoes'. -/
def semUndoesUptoCard : Claim7 := { stood := { row := semUndoesUptoRow, standIns := [], harness := (true, "cb3c843aea171ab9ef0ca1c3960cb32d1c7537a8c48d592d65cf9be20e11ccd6"), looks := true }, kinds := [], alts := [], laidByText := true, laidKinds := [.data, .data, .data, .sentinel, .sentinel, .listed, .data], laidTests := true, laidLooks := .later }
def SemUndoesUptoCardSaid : Prop := Claim7.holds Tryz.pinned (.plain (OpenSpec.upto semUndoesSpec)) semUndoesUptoCard

/-- THE SECOND FORM's CARD OF 'facetroomlaw14.SemMore'. -/
def semMoreUptoCard : Claim7 := { stood := { row := semMoreUptoRow, standIns := [], harness := (true, "cb3c843aea171ab9ef0ca1c3960cb32d1c7537a8c48d592d65cf9be20e11ccd6"), looks := true }, kinds := [], alts := [], laidByText := true, laidKinds := [.data, .data, .data, .sentinel, .sentinel, .listed, .data], laidTests := true, laidLooks := .later }
def SemMoreUptoCardSaid : Prop := Claim7.holds Tryz.pinned (.plain (OpenSpec.upto semMoreSpec)) semMoreUptoCard

/-- THE SECOND FORM's CARD OF 'facetroomlaw14.SemScript'. -/
def semScriptUptoCard : Claim7 := { stood := { row := semScriptUptoRow, standIns := [], harness := (true, "cb3c843aea171ab9ef0ca1c3960cb32d1c7537a8c48d592d65cf9be20e11ccd6"), looks := true }, kinds := [], alts := [], laidByText := true, laidKinds := [.data, .data, .data, .sentinel, .sentinel, .listed, .data], laidTests := true, laidLooks := .later }
def SemScriptUptoCardSaid : Prop := Claim7.holds Tryz.pinned (.plain (OpenSpec.upto semScriptSpec)) semScriptUptoCard
end Rows
end Go.Proofs.YtobegfbdedgmpaaGreatDoor
