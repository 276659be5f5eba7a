/-
  DERIVED. GIVEN WITH THE SEED: THE CARDS: each row of YtknckiblofochaaDoorRows.lean that lists a variable, with what it lists TIED to the program's text (the seventh form; the later family's looks); each row that meets fmt, with fmt's text TOLD by the authors' own Lean function (tested against real Go, not proved from fmt's source: count such statements apart). THE CARD IS WHAT COUNTS. Prove the row's statement (the work); the ties are given (YtknckiblofochaaDoorTie.lean); close each card by the builder's one call (the guide's Derived/Test/ToyasCard.lean, 'card_holds'). Laid BY PROGRAM, IN A SANDBOX (cutbox-door.mjs). By AI agents, Wed Nov 11 2026. No macro, syntax, notation, axiom, sorry.
-/
import Derived.Test.YtknckiblofochaaDoorRows
import GoSem.ClaimSeven
namespace Go.Proofs.YtknckiblofochaaDoor
namespace Rows

/-- THE TIED CARD OF 'facetroomlaw08.LexApart'. -/
def lexApartCard : Claim7 := { stood := { row := lexApartRow, standIns := [], harness := (true, "61129ffc2cb73782c12fdb70eb33a2ad418c3cce9ee618998357af6c8f87ac56"), looks := true }, kinds := [], alts := [], laidByText := true, laidKinds := [.data, .data, .data, .sentinel, .sentinel], laidTests := true, laidLooks := .later }
def LexApartCardSaid : Prop := Claim7.holds Tryd.pinned (.plain (OpenSpec.ofChange lexApartSpec)) lexApartCard

/-- THE TIED CARD OF 'facetroomlaw08.LexWide'. -/
def lexWideCard : Claim7 := { stood := { row := lexWideRow, standIns := [], harness := (true, "61129ffc2cb73782c12fdb70eb33a2ad418c3cce9ee618998357af6c8f87ac56"), looks := true }, kinds := [], alts := [], laidByText := true, laidKinds := [.data, .data, .data, .sentinel, .sentinel], laidTests := true, laidLooks := .later }
def LexWideCardSaid : Prop := Claim7.holds Tryd.pinned (.plain (OpenSpec.ofChange lexWideSpec)) lexWideCard

/-- THE TIED CARD OF 'facetroomlaw08.LexNames'. -/
def lexNamesCard : Claim7 := { stood := { row := lexNamesRow, standIns := [], harness := (true, "61129ffc2cb73782c12fdb70eb33a2ad418c3cce9ee618998357af6c8f87ac56"), looks := true }, kinds := [], alts := [], laidByText := true, laidKinds := [.data, .data, .data, .sentinel, .sentinel, .listed, .data], laidTests := true, laidLooks := .later }
def LexNamesCardSaid : Prop := Claim7.holds Tryd.pinned (.plain (OpenSpec.ofChange lexNamesSpec)) lexNamesCard

/-- THE TIED CARD OF 'facetroomlaw08.LexDoes'. -/
def lexDoesCard : Claim7 := { stood := { row := lexDoesRow, standIns := [], harness := (true, "61129ffc2cb73782c12fdb70eb33a2ad418c3cce9ee618998357af6c8f87ac56"), looks := true }, kinds := [], alts := [], laidByText := true, laidKinds := [.data, .data, .data, .sentinel, .sentinel, .listed, .data], laidTests := true, laidLooks := .later }
def LexDoesCardSaid : Prop := Claim7.holds Tryd.pinned (.plain (OpenSpec.ofChange lexDoesSpec)) lexDoesCard

/-- THE SECOND FORM's CARD OF 'facetroomlaw08.LexApart'. -/
def lexApartUptoCard : Claim7 := { stood := { row := lexApartUptoRow, standIns := [], harness := (true, "61129ffc2cb73782c12fdb70eb33a2ad418c3cce9ee618998357af6c8f87ac56"), looks := true }, kinds := [], alts := [], laidByText := true, laidKinds := [.data, .data, .data, .sentinel, .sentinel], laidTests := true, laidLooks := .later }
def LexApartUptoCardSaid : Prop := Claim7.holds Tryd.pinned (.plain (OpenSpec.upto lexApartSpec)) lexApartUptoCard

/-- THE SECOND FORM's CARD OF 'facetroomlaw08.LexWide'. -/
def lexWideUptoCard : Claim7 := { stood := { row := lexWideUptoRow, standIns := [], harness := (true, "61129ffc2cb73782c12fdb70eb33a2ad418c3cce9ee618998357af6c8f87ac56"), looks := true }, kinds := [], alts := [], laidByText := true, laidKinds := [.data, .data, .data, .sentinel, .sentinel], laidTests := true, laidLooks := .later }
def LexWideUptoCardSaid : Prop := Claim7.holds Tryd.pinned (.plain (OpenSpec.upto lexWideSpec)) lexWideUptoCard

/-- THE SECOND FORM's CARD OF 'facetroomlaw08.LexNames'. -/
def lexNamesUptoCard : Claim7 := { stood := { row := lexNamesUptoRow, standIns := [], harness := (true, "61129ffc2cb73782c12fdb70eb33a2ad418c3cce9ee618998357af6c8f87ac56"), looks := true }, kinds := [], alts := [], laidByText := true, laidKinds := [.data, .data, .data, .sentinel, .sentinel, .listed, .data], laidTests := true, laidLooks := .later }
def LexNamesUptoCardSaid : Prop := Claim7.holds Tryd.pinned (.plain (OpenSpec.upto lexNamesSpec)) lexNamesUptoCard

/-- THE SECOND FORM's CARD OF 'facetroomlaw08.LexDoes'. -/
def lexDoesUptoCard : Claim7 := { stood := { row := lexDoesUptoRow, standIns := [], harness := (true, "61129ffc2cb73782c12fdb70eb33a2ad418c3cce9ee618998357af6c8f87ac56"), looks := true }, kinds := [], alts := [], laidByText := true, laidKinds := [.data, .data, .data, .sentinel, .sentinel, .listed, .data], laidTests := true, laidLooks := .later }
def LexDoesUptoCardSaid : Prop := Claim7.holds Tryd.pinned (.plain (OpenSpec.upto lexDoesSpec)) lexDoesUptoCard
end Rows
end Go.Proofs.YtknckiblofochaaDoor
