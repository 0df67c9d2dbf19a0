/-
  DERIVED. GIVEN WITH THE SEED: THE CARDS: each row of YthoiikkjjaldnaaDoorRows.lean that lists a variable, with what it lists TIED to the program's text (the seventh form; the later family's looks); each row that meets fmt, with fmt's text TOLD by the authors' own Lean function (tested against real Go, not proved from fmt's source: count such statements apart). THE CARD IS WHAT COUNTS. Prove the row's statement (the work); the ties are given (YthoiikkjjaldnaaDoorTie.lean); close each card by the builder's one call (the guide's Derived/Test/ToyasCard.lean, 'card_holds'). Laid BY PROGRAM, IN A SANDBOX (cutbox-door.mjs). By AI agents, Wed Nov 11 2026. No macro, syntax, notation, axiom, sorry.
-/
import Derived.Test.YthoiikkjjaldnaaDoorRows
import GoSem.ClaimSeven
namespace Go.Proofs.YthoiikkjjaldnaaDoor
namespace Rows

/-- THE TIED CARD OF 'voxsattop.TopSync'. -/
def topSyncCard : Claim7 := { stood := { row := topSyncRow, standIns := [], harness := (true, "8a4a06b7ff4539be5e550c0f79cf8d140563fca0b9dff4ca7f532cffec67cd6a"), looks := false }, kinds := [], alts := [], laidByText := true, laidKinds := [.data, .data, .data], laidTests := true, laidLooks := .later }
def TopSyncCardSaid : Prop := Claim7.holds Tryd.pinned (.plain (OpenSpec.ofChange topSyncSpec)) topSyncCard

/-- THE TIED CARD OF 'voxsattop.TopFades'. -/
def topFadesCard : Claim7 := { stood := { row := topFadesRow, standIns := [], harness := (true, "8a4a06b7ff4539be5e550c0f79cf8d140563fca0b9dff4ca7f532cffec67cd6a"), looks := false }, kinds := [], alts := [], laidByText := true, laidKinds := [.data, .data, .data], laidTests := true, laidLooks := .later }
def TopFadesCardSaid : Prop := Claim7.holds Tryd.pinned (.plain (OpenSpec.ofChange topFadesSpec)) topFadesCard

/-- THE TIED CARD OF 'voxsattop.TopLone'. -/
def topLoneCard : Claim7 := { stood := { row := topLoneRow, standIns := [], harness := (true, "8a4a06b7ff4539be5e550c0f79cf8d140563fca0b9dff4ca7f532cffec67cd6a"), looks := false }, kinds := [], alts := [], laidByText := true, laidKinds := [.data, .data, .data], laidTests := true, laidLooks := .later }
def TopLoneCardSaid : Prop := Claim7.holds Tryd.pinned (.plain (OpenSpec.ofChange topLoneSpec)) topLoneCard

/-- THE TIED CARD OF 'voxsattop.TopDesk'. -/
def topDeskCard : Claim7 := { stood := { row := topDeskRow, standIns := [], harness := (true, "8a4a06b7ff4539be5e550c0f79cf8d140563fca0b9dff4ca7f532cffec67cd6a"), looks := false }, kinds := [], alts := [], laidByText := true, laidKinds := [.data, .data, .data], laidTests := true, laidLooks := .later }
def TopDeskCardSaid : Prop := Claim7.holds Tryd.pinned (.plain (OpenSpec.ofChange topDeskSpec)) topDeskCard

/-- THE SECOND FORM's CARD OF 'voxsattop.TopSync'. -/
def topSyncUptoCard : Claim7 := { stood := { row := topSyncUptoRow, standIns := [], harness := (true, "8a4a06b7ff4539be5e550c0f79cf8d140563fca0b9dff4ca7f532cffec67cd6a"), looks := false }, kinds := [], alts := [], laidByText := true, laidKinds := [.data, .data, .data], laidTests := true, laidLooks := .later }
def TopSyncUptoCardSaid : Prop := Claim7.holds Tryd.pinned (.plain (OpenSpec.upto topSyncSpec)) topSyncUptoCard

/-- THE SECOND FORM's CARD OF 'voxsattop.TopFades'. -/
def topFadesUptoCard : Claim7 := { stood := { row := topFadesUptoRow, standIns := [], harness := (true, "8a4a06b7ff4539be5e550c0f79cf8d140563fca0b9dff4ca7f532cffec67cd6a"), looks := false }, kinds := [], alts := [], laidByText := true, laidKinds := [.data, .data, .data], laidTests := true, laidLooks := .later }
def TopFadesUptoCardSaid : Prop := Claim7.holds Tryd.pinned (.plain (OpenSpec.upto topFadesSpec)) topFadesUptoCard

/-- THE SECOND FORM's CARD OF 'voxsattop.TopLone'. -/
def topLoneUptoCard : Claim7 := { stood := { row := topLoneUptoRow, standIns := [], harness := (true, "8a4a06b7ff4539be5e550c0f79cf8d140563fca0b9dff4ca7f532cffec67cd6a"), looks := false }, kinds := [], alts := [], laidByText := true, laidKinds := [.data, .data, .data], laidTests := true, laidLooks := .later }
def TopLoneUptoCardSaid : Prop := Claim7.holds Tryd.pinned (.plain (OpenSpec.upto topLoneSpec)) topLoneUptoCard

/-- THE SECOND FORM's CARD OF 'voxsattop.TopDesk'. -/
def topDeskUptoCard : Claim7 := { stood := { row := topDeskUptoRow, standIns := [], harness := (true, "8a4a06b7ff4539be5e550c0f79cf8d140563fca0b9dff4ca7f532cffec67cd6a"), looks := false }, kinds := [], alts := [], laidByText := true, laidKinds := [.data, .data, .data], laidTests := true, laidLooks := .later }
def TopDeskUptoCardSaid : Prop := Claim7.holds Tryd.pinned (.plain (OpenSpec.upto topDeskSpec)) topDeskUptoCard
end Rows
end Go.Proofs.YthoiikkjjaldnaaDoor
