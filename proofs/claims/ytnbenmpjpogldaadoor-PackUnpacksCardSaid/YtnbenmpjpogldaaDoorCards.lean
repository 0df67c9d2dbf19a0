/-
  DERIVED. GIVEN WITH THE SEED: THE CARDS: each row of YtnbenmpjpogldaaDoorRows.lean that lists a variable, with what it lists TIED to the program's text (the seventh form; the later family's looks); each row that meets fmt, with fmt's text TOLD by the authors' own Lean function (tested against real Go, not proved from fmt's source: count such statements apart). THE CARD IS WHAT COUNTS. Prove the row's statement (the work); the ties are given (YtnbenmpjpogldaaDoorTie.lean); close each card by the builder's one call (the guide's Derived/Test/ToyasCard.lean, 'card_holds'). Laid BY PROGRAM, IN A SANDBOX (cutbox-door.mjs). By AI agents, Wed Nov 11 2026. No macro, syntax, notation, axiom, sorry.
-/
import Derived.Test.YtnbenmpjpogldaaDoorRows
import GoSem.ClaimSeven
namespace Go.Proofs.YtnbenmpjpogldaaDoor
namespace Rows

/-- THE TIED CARD OF 'voxsatlaw.PackGoods'. -/
def packGoodsCard : Claim7 := { stood := { row := packGoodsRow, standIns := [], harness := (true, "ef721886b5ec81d1093765d540ce4d87ec0cd897e76147f981448ed78b8bf826"), looks := false }, kinds := [], alts := [], laidByText := true, laidKinds := [.data, .data], laidTests := true, laidLooks := .later }
def PackGoodsCardSaid : Prop := Claim7.holds Tryd.pinned (.plain (OpenSpec.ofChange packGoodsSpec)) packGoodsCard

/-- THE TIED CARD OF 'voxsatlaw.PackPacks'. -/
def packPacksCard : Claim7 := { stood := { row := packPacksRow, standIns := [], harness := (true, "ef721886b5ec81d1093765d540ce4d87ec0cd897e76147f981448ed78b8bf826"), looks := false }, kinds := [], alts := [], laidByText := true, laidKinds := [.data, .data], laidTests := true, laidLooks := .later }
def PackPacksCardSaid : Prop := Claim7.holds Tryd.pinned (.plain (OpenSpec.ofChange packPacksSpec)) packPacksCard

/-- THE TIED CARD OF 'voxsatlaw.PackUnpacks'. -/
def packUnpacksCard : Claim7 := { stood := { row := packUnpacksRow, standIns := [], harness := (true, "ef721886b5ec81d1093765d540ce4d87ec0cd897e76147f981448ed78b8bf826"), looks := false }, kinds := [], alts := [], laidByText := true, laidKinds := [.data, .data], laidTests := true, laidLooks := .later }
def PackUnpacksCardSaid : Prop := Claim7.holds Tryd.pinned (.plain (OpenSpec.ofChange packUnpacksSpec)) packUnpacksCard

/-- THE SECOND FORM's CARD OF 'voxsatlaw.PackGoods'. -/
def packGoodsUptoCard : Claim7 := { stood := { row := packGoodsUptoRow, standIns := [], harness := (true, "ef721886b5ec81d1093765d540ce4d87ec0cd897e76147f981448ed78b8bf826"), looks := false }, kinds := [], alts := [], laidByText := true, laidKinds := [.data, .data], laidTests := true, laidLooks := .later }
def PackGoodsUptoCardSaid : Prop := Claim7.holds Tryd.pinned (.plain (OpenSpec.upto packGoodsSpec)) packGoodsUptoCard

/-- THE SECOND FORM's CARD OF 'voxsatlaw.PackPacks'. -/
def packPacksUptoCard : Claim7 := { stood := { row := packPacksUptoRow, standIns := [], harness := (true, "ef721886b5ec81d1093765d540ce4d87ec0cd897e76147f981448ed78b8bf826"), looks := false }, kinds := [], alts := [], laidByText := true, laidKinds := [.data, .data], laidTests := true, laidLooks := .later }
def PackPacksUptoCardSaid : Prop := Claim7.holds Tryd.pinned (.plain (OpenSpec.upto packPacksSpec)) packPacksUptoCard

/-- THE SECOND FORM's CARD OF 'voxsatlaw.PackUnpacks'. -/
def packUnpacksUptoCard : Claim7 := { stood := { row := packUnpacksUptoRow, standIns := [], harness := (true, "ef721886b5ec81d1093765d540ce4d87ec0cd897e76147f981448ed78b8bf826"), looks := false }, kinds := [], alts := [], laidByText := true, laidKinds := [.data, .data], laidTests := true, laidLooks := .later }
def PackUnpacksUptoCardSaid : Prop := Claim7.holds Tryd.pinned (.plain (OpenSpec.upto packUnpacksSpec)) packUnpacksUptoCard
end Rows
end Go.Proofs.YtnbenmpjpogldaaDoor
