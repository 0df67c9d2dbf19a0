/-
  DERIVED. GIVEN WITH THE SEED: THE CARDS: each row of YtnielfleokbloaaDoorRows.lean that lists a variable, with what it lists TIED to the program's text (the seventh form; the later family's looks); each row that meets fmt, with fmt's text TOLD by the authors' own Lean function (tested against real Go, not proved from fmt's source: count such statements apart). THE CARD IS WHAT COUNTS. Prove the row's statement (the work); the ties are given (YtnielfleokbloaaDoorTie.lean); close each card by the builder's one call (the guide's Derived/Test/ToyasCard.lean, 'card_holds'). Laid BY PROGRAM, IN A SANDBOX (cutbox-door.mjs). By AI agents, Wed Nov 11 2026. No macro, syntax, notation, axiom, sorry.
-/
import Derived.Test.YtnielfleokbloaaDoorRows
import GoSem.ClaimSeven
namespace Go.Proofs.YtnielfleokbloaaDoor
namespace Rows

/-- THE TIED CARD OF 'voxsatlaw.DualPows'. -/
def dualPowsCard : Claim7 := { stood := { row := dualPowsRow, standIns := [], harness := (true, "5a91881ec7998d3b73a53ea488047b6c22effa76861f2688c6b221c48ba09ca2"), looks := false }, kinds := [], alts := [], laidByText := true, laidKinds := [.data, .data], laidTests := true, laidLooks := .later }
def DualPowsCardSaid : Prop := Claim7.holds Tryd.pinned (.plain (OpenSpec.ofChange dualPowsSpec)) dualPowsCard

/-- THE TIED CARD OF 'voxsatlaw.GainLevels'. -/
def gainLevelsCard : Claim7 := { stood := { row := gainLevelsRow, standIns := [], harness := (true, "5a91881ec7998d3b73a53ea488047b6c22effa76861f2688c6b221c48ba09ca2"), looks := false }, kinds := [], alts := [], laidByText := true, laidKinds := [.data, .data], laidTests := true, laidLooks := .later }
def GainLevelsCardSaid : Prop := Claim7.holds Tryd.pinned (.plain (OpenSpec.ofChange gainLevelsSpec)) gainLevelsCard

/-- THE TIED CARD OF 'voxsatlaw.GainOnes'. -/
def gainOnesCard : Claim7 := { stood := { row := gainOnesRow, standIns := [], harness := (true, "5a91881ec7998d3b73a53ea488047b6c22effa76861f2688c6b221c48ba09ca2"), looks := false }, kinds := [], alts := [], laidByText := true, laidKinds := [.data, .data], laidTests := true, laidLooks := .later }
def GainOnesCardSaid : Prop := Claim7.holds Tryd.pinned (.plain (OpenSpec.ofChange gainOnesSpec)) gainOnesCard

/-- THE TIED CARD OF 'voxsatlaw.PitchGains'. -/
def pitchGainsCard : Claim7 := { stood := { row := pitchGainsRow, standIns := [], harness := (true, "5a91881ec7998d3b73a53ea488047b6c22effa76861f2688c6b221c48ba09ca2"), looks := false }, kinds := [], alts := [], laidByText := true, laidKinds := [.data, .widerDeep], laidTests := true, laidLooks := .later }
def PitchGainsCardSaid : Prop := Claim7.holds Tryd.pinned (.plain (OpenSpec.ofChange pitchGainsSpec)) pitchGainsCard

/-- THE TIED CARD OF 'voxsatlaw.PitchNearests'. -/
def pitchNearestsCard : Claim7 := { stood := { row := pitchNearestsRow, standIns := [], harness := (true, "5a91881ec7998d3b73a53ea488047b6c22effa76861f2688c6b221c48ba09ca2"), looks := false }, kinds := [], alts := [], laidByText := true, laidKinds := [.data, .widerDeep], laidTests := true, laidLooks := .later }
def PitchNearestsCardSaid : Prop := Claim7.holds Tryd.pinned (.plain (OpenSpec.ofChange pitchNearestsSpec)) pitchNearestsCard

/-- THE TIED CARD OF 'voxsatlaw.QuantLevels'. -/
def quantLevelsCard : Claim7 := { stood := { row := quantLevelsRow, standIns := [], harness := (true, "5a91881ec7998d3b73a53ea488047b6c22effa76861f2688c6b221c48ba09ca2"), looks := false }, kinds := [], alts := [], laidByText := true, laidKinds := [.data, .data], laidTests := true, laidLooks := .later }
def QuantLevelsCardSaid : Prop := Claim7.holds Tryd.pinned (.plain (OpenSpec.ofChange quantLevelsSpec)) quantLevelsCard

/-- THE TIED CARD OF 'voxsatlaw.QuantOnes'. -/
def quantOnesCard : Claim7 := { stood := { row := quantOnesRow, standIns := [], harness := (true, "5a91881ec7998d3b73a53ea488047b6c22effa76861f2688c6b221c48ba09ca2"), looks := false }, kinds := [], alts := [], laidByText := true, laidKinds := [.data, .data], laidTests := true, laidLooks := .later }
def QuantOnesCardSaid : Prop := Claim7.holds Tryd.pinned (.plain (OpenSpec.ofChange quantOnesSpec)) quantOnesCard

/-- THE TIED CARD OF 'voxsatlaw.QuantAlls'. -/
def quantAllsCard : Claim7 := { stood := { row := quantAllsRow, standIns := [], harness := (true, "5a91881ec7998d3b73a53ea488047b6c22effa76861f2688c6b221c48ba09ca2"), looks := false }, kinds := [], alts := [], laidByText := true, laidKinds := [.data, .data], laidTests := true, laidLooks := .later }
def QuantAllsCardSaid : Prop := Claim7.holds Tryd.pinned (.plain (OpenSpec.ofChange quantAllsSpec)) quantAllsCard

/-- THE TIED CARD OF 'voxsatlaw.PackGoods'. -/
def packGoodsCard : Claim7 := { stood := { row := packGoodsRow, standIns := [], harness := (true, "5a91881ec7998d3b73a53ea488047b6c22effa76861f2688c6b221c48ba09ca2"), looks := false }, kinds := [], alts := [], laidByText := true, laidKinds := [.data, .data], laidTests := true, laidLooks := .later }
def PackGoodsCardSaid : Prop := Claim7.holds Tryd.pinned (.plain (OpenSpec.ofChange packGoodsSpec)) packGoodsCard

/-- THE SECOND FORM's CARD OF 'voxsatlaw.DualPows'. -/
def dualPowsUptoCard : Claim7 := { stood := { row := dualPowsUptoRow, standIns := [], harness := (true, "5a91881ec7998d3b73a53ea488047b6c22effa76861f2688c6b221c48ba09ca2"), looks := false }, kinds := [], alts := [], laidByText := true, laidKinds := [.data, .data], laidTests := true, laidLooks := .later }
def DualPowsUptoCardSaid : Prop := Claim7.holds Tryd.pinned (.plain (OpenSpec.upto dualPowsSpec)) dualPowsUptoCard

/-- THE SECOND FORM's CARD OF 'voxsatlaw.GainLevels'. -/
def gainLevelsUptoCard : Claim7 := { stood := { row := gainLevelsUptoRow, standIns := [], harness := (true, "5a91881ec7998d3b73a53ea488047b6c22effa76861f2688c6b221c48ba09ca2"), looks := false }, kinds := [], alts := [], laidByText := true, laidKinds := [.data, .data], laidTests := true, laidLooks := .later }
def GainLevelsUptoCardSaid : Prop := Claim7.holds Tryd.pinned (.plain (OpenSpec.upto gainLevelsSpec)) gainLevelsUptoCard

/-- THE SECOND FORM's CARD OF 'voxsatlaw.GainOnes'. -/
def gainOnesUptoCard : Claim7 := { stood := { row := gainOnesUptoRow, standIns := [], harness := (true, "5a91881ec7998d3b73a53ea488047b6c22effa76861f2688c6b221c48ba09ca2"), looks := false }, kinds := [], alts := [], laidByText := true, laidKinds := [.data, .data], laidTests := true, laidLooks := .later }
def GainOnesUptoCardSaid : Prop := Claim7.holds Tryd.pinned (.plain (OpenSpec.upto gainOnesSpec)) gainOnesUptoCard

/-- THE SECOND FORM's CARD OF 'voxsatlaw.PitchGains'. -/
def pitchGainsUptoCard : Claim7 := { stood := { row := pitchGainsUptoRow, standIns := [], harness := (true, "5a91881ec7998d3b73a53ea488047b6c22effa76861f2688c6b221c48ba09ca2"), looks := false }, kinds := [], alts := [], laidByText := true, laidKinds := [.data, .widerDeep], laidTests := true, laidLooks := .later }
def PitchGainsUptoCardSaid : Prop := Claim7.holds Tryd.pinned (.plain (OpenSpec.upto pitchGainsSpec)) pitchGainsUptoCard

/-- THE SECOND FORM's CARD OF 'voxsatlaw.PitchNearests'. -/
def pitchNearestsUptoCard : Claim7 := { stood := { row := pitchNearestsUptoRow, standIns := [], harness := (true, "5a91881ec7998d3b73a53ea488047b6c22effa76861f2688c6b221c48ba09ca2"), looks := false }, kinds := [], alts := [], laidByText := true, laidKinds := [.data, .widerDeep], laidTests := true, laidLooks := .later }
def PitchNearestsUptoCardSaid : Prop := Claim7.holds Tryd.pinned (.plain (OpenSpec.upto pitchNearestsSpec)) pitchNearestsUptoCard

/-- THE SECOND FORM's CARD OF 'voxsatlaw.QuantLevels'. -/
def quantLevelsUptoCard : Claim7 := { stood := { row := quantLevelsUptoRow, standIns := [], harness := (true, "5a91881ec7998d3b73a53ea488047b6c22effa76861f2688c6b221c48ba09ca2"), looks := false }, kinds := [], alts := [], laidByText := true, laidKinds := [.data, .data], laidTests := true, laidLooks := .later }
def QuantLevelsUptoCardSaid : Prop := Claim7.holds Tryd.pinned (.plain (OpenSpec.upto quantLevelsSpec)) quantLevelsUptoCard

/-- THE SECOND FORM's CARD OF 'voxsatlaw.QuantOnes'. -/
def quantOnesUptoCard : Claim7 := { stood := { row := quantOnesUptoRow, standIns := [], harness := (true, "5a91881ec7998d3b73a53ea488047b6c22effa76861f2688c6b221c48ba09ca2"), looks := false }, kinds := [], alts := [], laidByText := true, laidKinds := [.data, .data], laidTests := true, laidLooks := .later }
def QuantOnesUptoCardSaid : Prop := Claim7.holds Tryd.pinned (.plain (OpenSpec.upto quantOnesSpec)) quantOnesUptoCard

/-- THE SECOND FORM's CARD OF 'voxsatlaw.QuantAlls'. -/
def quantAllsUptoCard : Claim7 := { stood := { row := quantAllsUptoRow, standIns := [], harness := (true, "5a91881ec7998d3b73a53ea488047b6c22effa76861f2688c6b221c48ba09ca2"), looks := false }, kinds := [], alts := [], laidByText := true, laidKinds := [.data, .data], laidTests := true, laidLooks := .later }
def QuantAllsUptoCardSaid : Prop := Claim7.holds Tryd.pinned (.plain (OpenSpec.upto quantAllsSpec)) quantAllsUptoCard

/-- THE SECOND FORM's CARD OF 'voxsatlaw.PackGoods'. -/
def packGoodsUptoCard : Claim7 := { stood := { row := packGoodsUptoRow, standIns := [], harness := (true, "5a91881ec7998d3b73a53ea488047b6c22effa76861f2688c6b221c48ba09ca2"), looks := false }, kinds := [], alts := [], laidByText := true, laidKinds := [.data, .data], laidTests := true, laidLooks := .later }
def PackGoodsUptoCardSaid : Prop := Claim7.holds Tryd.pinned (.plain (OpenSpec.upto packGoodsSpec)) packGoodsUptoCard
end Rows
end Go.Proofs.YtnielfleokbloaaDoor
