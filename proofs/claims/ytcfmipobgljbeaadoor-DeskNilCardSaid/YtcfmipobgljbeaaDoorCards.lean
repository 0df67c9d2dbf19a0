/-
  DERIVED. GIVEN WITH THE SEED: THE CARDS: each row of YtcfmipobgljbeaaDoorRows.lean that lists a variable, with what it lists TIED to the program's text (the seventh form; the later family's looks); each row that meets fmt, with fmt's text TOLD by the authors' own Lean function (tested against real Go, not proved from fmt's source: count such statements apart). THE CARD IS WHAT COUNTS. Prove the row's statement (the work); the ties are given (YtcfmipobgljbeaaDoorTie.lean); close each card by the builder's one call (the guide's Derived/Test/ToyasCard.lean, 'card_holds'). Laid BY PROGRAM, IN A SANDBOX (cutbox-door.mjs). By AI agents, Wed Nov 11 2026. No macro, syntax, notation, axiom, sorry.
-/
import Derived.Test.YtcfmipobgljbeaaDoorRows
import GoSem.ClaimSeven
namespace Go.Proofs.YtcfmipobgljbeaaDoor
namespace Rows

/-- THE TIED CARD OF 'voxsatlaw.DeskNil'. -/
def deskNilCard : Claim7 := { stood := { row := deskNilRow, standIns := [], harness := (true, "92e7a1bf318c3b1fa640bedc743d0fe2be644c94acb42c1ad3b9544816156ace"), looks := false }, kinds := [], alts := [], laidByText := true, laidKinds := [.data, .data, .data], laidTests := true, laidLooks := .later }
def DeskNilCardSaid : Prop := Claim7.holds Tryd.pinned (.plain (OpenSpec.ofChange deskNilSpec)) deskNilCard

/-- THE TIED CARD OF 'voxsatlaw.PackGoods'. -/
def packGoodsCard : Claim7 := { stood := { row := packGoodsRow, standIns := [], harness := (true, "92e7a1bf318c3b1fa640bedc743d0fe2be644c94acb42c1ad3b9544816156ace"), looks := false }, kinds := [], alts := [], laidByText := true, laidKinds := [.data, .data], laidTests := true, laidLooks := .later }
def PackGoodsCardSaid : Prop := Claim7.holds Tryd.pinned (.plain (OpenSpec.ofChange packGoodsSpec)) packGoodsCard

/-- THE TIED CARD OF 'voxsatlaw.PackPacks'. -/
def packPacksCard : Claim7 := { stood := { row := packPacksRow, standIns := [], harness := (true, "92e7a1bf318c3b1fa640bedc743d0fe2be644c94acb42c1ad3b9544816156ace"), looks := false }, kinds := [], alts := [], laidByText := true, laidKinds := [.data, .data], laidTests := true, laidLooks := .later }
def PackPacksCardSaid : Prop := Claim7.holds Tryd.pinned (.plain (OpenSpec.ofChange packPacksSpec)) packPacksCard

/-- THE TIED CARD OF 'voxsatlaw.PackUnpacks'. -/
def packUnpacksCard : Claim7 := { stood := { row := packUnpacksRow, standIns := [], harness := (true, "92e7a1bf318c3b1fa640bedc743d0fe2be644c94acb42c1ad3b9544816156ace"), looks := false }, kinds := [], alts := [], laidByText := true, laidKinds := [.data, .data], laidTests := true, laidLooks := .later }
def PackUnpacksCardSaid : Prop := Claim7.holds Tryd.pinned (.plain (OpenSpec.ofChange packUnpacksSpec)) packUnpacksCard

/-- THE SECOND FORM's CARD OF 'voxsatlaw.DeskNil'. -/
def deskNilUptoCard : Claim7 := { stood := { row := deskNilUptoRow, standIns := [], harness := (true, "92e7a1bf318c3b1fa640bedc743d0fe2be644c94acb42c1ad3b9544816156ace"), looks := false }, kinds := [], alts := [], laidByText := true, laidKinds := [.data, .data, .data], laidTests := true, laidLooks := .later }
def DeskNilUptoCardSaid : Prop := Claim7.holds Tryd.pinned (.plain (OpenSpec.upto deskNilSpec)) deskNilUptoCard

/-- THE SECOND FORM's CARD OF 'voxsatlaw.PackGoods'. -/
def packGoodsUptoCard : Claim7 := { stood := { row := packGoodsUptoRow, standIns := [], harness := (true, "92e7a1bf318c3b1fa640bedc743d0fe2be644c94acb42c1ad3b9544816156ace"), looks := false }, kinds := [], alts := [], laidByText := true, laidKinds := [.data, .data], laidTests := true, laidLooks := .later }
def PackGoodsUptoCardSaid : Prop := Claim7.holds Tryd.pinned (.plain (OpenSpec.upto packGoodsSpec)) packGoodsUptoCard

/-- THE SECOND FORM's CARD OF 'voxsatlaw.PackPacks'. -/
def packPacksUptoCard : Claim7 := { stood := { row := packPacksUptoRow, standIns := [], harness := (true, "92e7a1bf318c3b1fa640bedc743d0fe2be644c94acb42c1ad3b9544816156ace"), looks := false }, kinds := [], alts := [], laidByText := true, laidKinds := [.data, .data], laidTests := true, laidLooks := .later }
def PackPacksUptoCardSaid : Prop := Claim7.holds Tryd.pinned (.plain (OpenSpec.upto packPacksSpec)) packPacksUptoCard

/-- THE SECOND FORM's CARD OF 'voxsatlaw.PackUnpacks'. -/
def packUnpacksUptoCard : Claim7 := { stood := { row := packUnpacksUptoRow, standIns := [], harness := (true, "92e7a1bf318c3b1fa640bedc743d0fe2be644c94acb42c1ad3b9544816156ace"), looks := false }, kinds := [], alts := [], laidByText := true, laidKinds := [.data, .data], laidTests := true, laidLooks := .later }
def PackUnpacksUptoCardSaid : Prop := Claim7.holds Tryd.pinned (.plain (OpenSpec.upto packUnpacksSpec)) packUnpacksUptoCard
end Rows
end Go.Proofs.YtcfmipobgljbeaaDoor
