/-
  DERIVED. GIVEN WITH THE SEED: THE CARDS: each row of YtphlnpaikpjakaaGreatDoorRows.lean that lists a variable, with what it lists TIED to the program's text (the seventh form; the later family's looks); each row that meets fmt, with fmt's text TOLD by the authors' own Lean function (tested against real Go, not proved from fmt's source: count such statements apart). THE CARD IS WHAT COUNTS. Prove the row's statement (the work); the ties are given (YtphlnpaikpjakaaGreatDoorTie.lean); close each card by the builder's one call (the guide's Derived/Test/ToyasCard.lean, 'card_holds'). Laid BY PROGRAM, IN A SANDBOX (cutbox-door.mjs). By AI agents, Wed Nov 11 2026. No macro, syntax, notation, axiom, sorry.
-/
import Derived.Test.YtphlnpaikpjakaaGreatDoorRows
import GoSem.ClaimSeven
namespace Go.Proofs.YtphlnpaikpjakaaGreatDoor
namespace Rows

/-- THE TIED CARD OF 'facetroomlaw26.PackNames'. -/
def packNamesCard : Claim7 := { stood := { row := packNamesRow, standIns := [], harness := (true, "d3b02a0f1dbb9913561757ccf9e14de88f07bb07a8b9f63890e69cd65b57f960"), looks := true }, kinds := [], alts := [], laidByText := true, laidKinds := [.data, .data, .data, .sentinel, .sentinel, .listed, .data], laidTests := true, laidLooks := .later }
def PackNamesCardSaid : Prop := Claim7.holds Tryz.pinned (.plain (OpenSpec.ofChange packNamesSpec)) packNamesCard

/-- THE TIED CARD OF 'facetroomlaw26.PackApart'. -/
def packApartCard : Claim7 := { stood := { row := packApartRow, standIns := [], harness := (true, "d3b02a0f1dbb9913561757ccf9e14de88f07bb07a8b9f63890e69cd65b57f960"), looks := true }, kinds := [], alts := [], laidByText := true, laidKinds := [.data, .data, .data, .sentinel, .sentinel, .listed, .data], laidTests := true, laidLooks := .later }
def PackApartCardSaid : Prop := Claim7.holds Tryz.pinned (.plain (OpenSpec.ofChange packApartSpec)) packApartCard

/-- THE TIED CARD OF 'facetroomlaw26.PackMay'. -/
def packMayCard : Claim7 := { stood := { row := packMayRow, standIns := [], harness := (true, "d3b02a0f1dbb9913561757ccf9e14de88f07bb07a8b9f63890e69cd65b57f960"), looks := true }, kinds := [], alts := [], laidByText := true, laidKinds := [.data, .data, .data, .sentinel, .sentinel, .listed, .data], laidTests := true, laidLooks := .later }
def PackMayCardSaid : Prop := Claim7.holds Tryz.pinned (.plain (OpenSpec.ofChange packMaySpec)) packMayCard

/-- THE SECOND FORM's CARD OF 'facetroomlaw26.PackNames'. -/
def packNamesUptoCard : Claim7 := { stood := { row := packNamesUptoRow, standIns := [], harness := (true, "d3b02a0f1dbb9913561757ccf9e14de88f07bb07a8b9f63890e69cd65b57f960"), looks := true }, kinds := [], alts := [], laidByText := true, laidKinds := [.data, .data, .data, .sentinel, .sentinel, .listed, .data], laidTests := true, laidLooks := .later }
def PackNamesUptoCardSaid : Prop := Claim7.holds Tryz.pinned (.plain (OpenSpec.upto packNamesSpec)) packNamesUptoCard

/-- THE SECOND FORM's CARD OF 'facetroomlaw26.PackApart'. -/
def packApartUptoCard : Claim7 := { stood := { row := packApartUptoRow, standIns := [], harness := (true, "d3b02a0f1dbb9913561757ccf9e14de88f07bb07a8b9f63890e69cd65b57f960"), looks := true }, kinds := [], alts := [], laidByText := true, laidKinds := [.data, .data, .data, .sentinel, .sentinel, .listed, .data], laidTests := true, laidLooks := .later }
def PackApartUptoCardSaid : Prop := Claim7.holds Tryz.pinned (.plain (OpenSpec.upto packApartSpec)) packApartUptoCard

/-- THE SECOND FORM's CARD OF 'facetroomlaw26.PackMay'. -/
def packMayUptoCard : Claim7 := { stood := { row := packMayUptoRow, standIns := [], harness := (true, "d3b02a0f1dbb9913561757ccf9e14de88f07bb07a8b9f63890e69cd65b57f960"), looks := true }, kinds := [], alts := [], laidByText := true, laidKinds := [.data, .data, .data, .sentinel, .sentinel, .listed, .data], laidTests := true, laidLooks := .later }
def PackMayUptoCardSaid : Prop := Claim7.holds Tryz.pinned (.plain (OpenSpec.upto packMaySpec)) packMayUptoCard
end Rows
end Go.Proofs.YtphlnpaikpjakaaGreatDoor
