/-
  DERIVED. GIVEN WITH THE SEED: THE CARDS: each row of YthoiikkjjaldnaaGreatDoorRows.lean that lists a variable, with what it lists TIED to the program's text (the seventh form; the later family's looks); each row that meets fmt, with fmt's text TOLD by the authors' own Lean function (tested against real Go, not proved from fmt's source: count such statements apart). THE CARD IS WHAT COUNTS. Prove the row's statement (the work); the ties are given (YthoiikkjjaldnaaGreatDoorTie.lean); close each card by the builder's one call (the guide's Derived/Test/ToyasCard.lean, 'card_holds'). Laid BY PROGRAM, IN A SANDBOX (cutbox-door.mjs). By AI agents, Wed Nov 11 2026. No macro, syntax, notation, axiom, sorry.
-/
import Derived.Test.YthoiikkjjaldnaaGreatDoorRows
import GoSem.ClaimSeven
namespace Go.Proofs.YthoiikkjjaldnaaGreatDoor
namespace Rows

/-- THE TIED CARD OF 'voxsatlaw.CoderDecodes'. -/
def coderDecodesCard : Claim7 := { stood := { row := coderDecodesRow, standIns := [], harness := (true, "1d385fe10f5976c9afa13638c162587dd34c1b8c137734b97b5c17c730aed7bf"), looks := false }, kinds := [], alts := [], laidByText := true, laidKinds := [.data, .data, .data, .data, .data, .widerDeep], laidTests := true, laidLooks := .later }
def CoderDecodesCardSaid : Prop := Claim7.holds Tryz.pinned (.plain (OpenSpec.ofChange coderDecodesSpec)) coderDecodesCard

/-- THE TIED CARD OF 'voxsatlaw.CoderEncodes'. -/
def coderEncodesCard : Claim7 := { stood := { row := coderEncodesRow, standIns := [], harness := (true, "1d385fe10f5976c9afa13638c162587dd34c1b8c137734b97b5c17c730aed7bf"), looks := false }, kinds := [], alts := [], laidByText := true, laidKinds := [.data, .data, .data, .data, .data, .widerDeep], laidTests := true, laidLooks := .later }
def CoderEncodesCardSaid : Prop := Claim7.holds Tryz.pinned (.plain (OpenSpec.ofChange coderEncodesSpec)) coderEncodesCard

/-- THE TIED CARD OF 'voxsatlaw.DeskPlays'. -/
def deskPlaysCard : Claim7 := { stood := { row := deskPlaysRow, standIns := [], harness := (true, "1d385fe10f5976c9afa13638c162587dd34c1b8c137734b97b5c17c730aed7bf"), looks := false }, kinds := [], alts := [], laidByText := true, laidKinds := [.data, .data, .data, .data, .data, .widerDeep], laidTests := true, laidLooks := .later }
def DeskPlaysCardSaid : Prop := Claim7.holds Tryz.pinned (.plain (OpenSpec.ofChange deskPlaysSpec)) deskPlaysCard

/-- THE SECOND FORM's CARD OF 'voxsatlaw.CoderDecodes'. -/
def coderDecodesUptoCard : Claim7 := { stood := { row := coderDecodesUptoRow, standIns := [], harness := (true, "1d385fe10f5976c9afa13638c162587dd34c1b8c137734b97b5c17c730aed7bf"), looks := false }, kinds := [], alts := [], laidByText := true, laidKinds := [.data, .data, .data, .data, .data, .widerDeep], laidTests := true, laidLooks := .later }
def CoderDecodesUptoCardSaid : Prop := Claim7.holds Tryz.pinned (.plain (OpenSpec.upto coderDecodesSpec)) coderDecodesUptoCard

/-- THE SECOND FORM's CARD OF 'voxsatlaw.CoderEncodes'. -/
def coderEncodesUptoCard : Claim7 := { stood := { row := coderEncodesUptoRow, standIns := [], harness := (true, "1d385fe10f5976c9afa13638c162587dd34c1b8c137734b97b5c17c730aed7bf"), looks := false }, kinds := [], alts := [], laidByText := true, laidKinds := [.data, .data, .data, .data, .data, .widerDeep], laidTests := true, laidLooks := .later }
def CoderEncodesUptoCardSaid : Prop := Claim7.holds Tryz.pinned (.plain (OpenSpec.upto coderEncodesSpec)) coderEncodesUptoCard

/-- THE SECOND FORM's CARD OF 'voxsatlaw.DeskPlays'. -/
def deskPlaysUptoCard : Claim7 := { stood := { row := deskPlaysUptoRow, standIns := [], harness := (true, "1d385fe10f5976c9afa13638c162587dd34c1b8c137734b97b5c17c730aed7bf"), looks := false }, kinds := [], alts := [], laidByText := true, laidKinds := [.data, .data, .data, .data, .data, .widerDeep], laidTests := true, laidLooks := .later }
def DeskPlaysUptoCardSaid : Prop := Claim7.holds Tryz.pinned (.plain (OpenSpec.upto deskPlaysSpec)) deskPlaysUptoCard
end Rows
end Go.Proofs.YthoiikkjjaldnaaGreatDoor
