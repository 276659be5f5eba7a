/-
  DERIVED. GIVEN WITH THE SEED: THE CARDS: each row of YtmfioehnhjjgpaaGreatDoorRows.lean that lists a variable, with what it lists TIED to the program's text (the seventh form; the later family's looks); each row that meets fmt, with fmt's text TOLD by the authors' own Lean function (tested against real Go, not proved from fmt's source: count such statements apart). THE CARD IS WHAT COUNTS. Prove the row's statement (the work); the ties are given (YtmfioehnhjjgpaaGreatDoorTie.lean); close each card by the builder's one call (the guide's Derived/Test/ToyasCard.lean, 'card_holds'). Laid BY PROGRAM, IN A SANDBOX (cutbox-door.mjs). By AI agents, Wed Nov 11 2026. No macro, syntax, notation, axiom, sorry.
-/
import Derived.Test.YtmfioehnhjjgpaaGreatDoorRows
import GoSem.ClaimSeven
namespace Go.Proofs.YtmfioehnhjjgpaaGreatDoor
namespace Rows

/-- THE TIED CARD OF 'facetroomlaw13.FlowMay'. -/
def flowMayCard : Claim7 := { stood := { row := flowMayRow, standIns := [], harness := (true, "7dc9d41ffdfa190047cf5057b23e6950d9402c7d4b3a9bb9b1f96f77d2c2e2d9"), looks := true }, kinds := [], alts := [], laidByText := true, laidKinds := [.data, .data, .data, .sentinel, .sentinel, .listed, .data], laidTests := true, laidLooks := .later }
def FlowMayCardSaid : Prop := Claim7.holds Tryz.pinned (.plain (OpenSpec.ofChange flowMaySpec)) flowMayCard

/-- THE TIED CARD OF 'facetroomlaw29.OrderNames'. -/
def orderNamesCard : Claim7 := { stood := { row := orderNamesRow, standIns := [], harness := (true, "7dc9d41ffdfa190047cf5057b23e6950d9402c7d4b3a9bb9b1f96f77d2c2e2d9"), looks := true }, kinds := [], alts := [], laidByText := true, laidKinds := [.data, .data, .data, .sentinel, .sentinel, .listed, .data], laidTests := true, laidLooks := .later }
def OrderNamesCardSaid : Prop := Claim7.holds Tryz.pinned (.plain (OpenSpec.ofChange orderNamesSpec)) orderNamesCard

/-- THE TIED CARD OF 'facetroomlaw29.OrderLoops'. -/
def orderLoopsCard : Claim7 := { stood := { row := orderLoopsRow, standIns := [], harness := (true, "7dc9d41ffdfa190047cf5057b23e6950d9402c7d4b3a9bb9b1f96f77d2c2e2d9"), looks := true }, kinds := [], alts := [], laidByText := true, laidKinds := [.data, .data, .data, .sentinel, .sentinel, .listed, .data], laidTests := true, laidLooks := .later }
def OrderLoopsCardSaid : Prop := Claim7.holds Tryz.pinned (.plain (OpenSpec.ofChange orderLoopsSpec)) orderLoopsCard

/-- THE SECOND FORM's CARD OF 'facetroomlaw13.FlowMay'. -/
def flowMayUptoCard : Claim7 := { stood := { row := flowMayUptoRow, standIns := [], harness := (true, "7dc9d41ffdfa190047cf5057b23e6950d9402c7d4b3a9bb9b1f96f77d2c2e2d9"), looks := true }, kinds := [], alts := [], laidByText := true, laidKinds := [.data, .data, .data, .sentinel, .sentinel, .listed, .data], laidTests := true, laidLooks := .later }
def FlowMayUptoCardSaid : Prop := Claim7.holds Tryz.pinned (.plain (OpenSpec.upto flowMaySpec)) flowMayUptoCard

/-- THE SECOND FORM's CARD OF 'facetroomlaw29.OrderNames'. -/
def orderNamesUptoCard : Claim7 := { stood := { row := orderNamesUptoRow, standIns := [], harness := (true, "7dc9d41ffdfa190047cf5057b23e6950d9402c7d4b3a9bb9b1f96f77d2c2e2d9"), looks := true }, kinds := [], alts := [], laidByText := true, laidKinds := [.data, .data, .data, .sentinel, .sentinel, .listed, .data], laidTests := true, laidLooks := .later }
def OrderNamesUptoCardSaid : Prop := Claim7.holds Tryz.pinned (.plain (OpenSpec.upto orderNamesSpec)) orderNamesUptoCard

/-- THE SECOND FORM's CARD OF 'facetroomlaw29.OrderLoops'. -/
def orderLoopsUptoCard : Claim7 := { stood := { row := orderLoopsUptoRow, standIns := [], harness := (true, "7dc9d41ffdfa190047cf5057b23e6950d9402c7d4b3a9bb9b1f96f77d2c2e2d9"), looks := true }, kinds := [], alts := [], laidByText := true, laidKinds := [.data, .data, .data, .sentinel, .sentinel, .listed, .data], laidTests := true, laidLooks := .later }
def OrderLoopsUptoCardSaid : Prop := Claim7.holds Tryz.pinned (.plain (OpenSpec.upto orderLoopsSpec)) orderLoopsUptoCard
end Rows
end Go.Proofs.YtmfioehnhjjgpaaGreatDoor
