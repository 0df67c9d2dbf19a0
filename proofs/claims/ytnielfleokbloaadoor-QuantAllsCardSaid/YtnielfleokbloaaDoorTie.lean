/-
  DERIVED. GIVEN WITH THE SEED: THE PROGRAM's TIES (one call each: nine closed facts by the kernel) AND EACH ROW's TIE, after the 31st guide's Derived/Test/Toyas{Tie, Card}.lean. No idea stands in it: it is a product of the set-up. Laid BY PROGRAM, IN A SANDBOX (cutbox-door.mjs). By AI agents, Wed Nov 11 2026. No macro, syntax, notation, axiom, sorry.
-/
import Derived.Test.YtnielfleokbloaaDoorRows
import Derived.LaidByTextLater
import Derived.SevenTiedAt
import Derived.LaidSub
import Derived.LaidOnce
namespace Go.Proofs.YtnielfleokbloaaDoor
open Go
set_option maxRecDepth 100000
theorem seatTie1 : Tryd.prog.laidByTextLater [("voxsat/dual.roots", Rows.laid_voxsat_dual_roots), ("voxsat/pitch.gains", Rows.laid_voxsat_pitch_gains), ("voxsat/quant.width", Rows.laid_voxsat_quant_width), ("voxsat/voxsatref.steps", Rows.laid_voxsat_voxsatref_steps), ("voxsat/voxsatref.widths", Rows.laid_voxsat_voxsatref_widths), ("voxsat/voxsatref.pitchGains", Rows.laid_voxsat_voxsatref_pitchGains)] [.data, .data, .data, .data, .data, .widerDeep] true :=
  Program.laidByTextLater_by_one 39 8 16 (by kernel_rfl) (by kernel_rfl) (by kernel_rfl) (by kernel_rfl) (by kernel_rfl) (by kernel_rfl) (fun _ _ => by kernel_rfl)
theorem noOwnUnsafe : Tryd.pinned.checked.prog.headLifts.contains "ownunsafe" = false := by kernel_rfl
theorem tie : Tryd.prog.laidByTextLater [("voxsat/dual.roots", Rows.laid_voxsat_dual_roots), ("voxsat/voxsatref.steps", Rows.laid_voxsat_voxsatref_steps)] [.data, .data] true :=
  Program.laidByTextLater.sub seatTie1 ["voxsat/dual.roots", "voxsat/voxsatref.steps"] (by kernel_rfl) (by kernel_rfl)
theorem dualPows_row_tie : Rows.dualPowsRow.laidByTextAt .later Tryd.pinned [.data, .data] true :=
  OpenClaim.laidByTextAt_later rfl rfl tie noOwnUnsafe
theorem gainLevels_row_tie : Rows.gainLevelsRow.laidByTextAt .later Tryd.pinned [.data, .data] true :=
  OpenClaim.laidByTextAt_later rfl rfl tie noOwnUnsafe
theorem gainOnes_row_tie : Rows.gainOnesRow.laidByTextAt .later Tryd.pinned [.data, .data] true :=
  OpenClaim.laidByTextAt_later rfl rfl tie noOwnUnsafe
theorem tie2 : Tryd.prog.laidByTextLater [("voxsat/pitch.gains", Rows.laid_voxsat_pitch_gains), ("voxsat/voxsatref.pitchGains", Rows.laid_voxsat_voxsatref_pitchGains)] [.data, .widerDeep] true :=
  Program.laidByTextLater.sub seatTie1 ["voxsat/pitch.gains", "voxsat/voxsatref.pitchGains"] (by kernel_rfl) (by kernel_rfl)
theorem pitchGains_row_tie : Rows.pitchGainsRow.laidByTextAt .later Tryd.pinned [.data, .widerDeep] true :=
  OpenClaim.laidByTextAt_later rfl rfl tie2 noOwnUnsafe
theorem pitchNearests_row_tie : Rows.pitchNearestsRow.laidByTextAt .later Tryd.pinned [.data, .widerDeep] true :=
  OpenClaim.laidByTextAt_later rfl rfl tie2 noOwnUnsafe
theorem tie3 : Tryd.prog.laidByTextLater [("voxsat/quant.width", Rows.laid_voxsat_quant_width), ("voxsat/voxsatref.widths", Rows.laid_voxsat_voxsatref_widths)] [.data, .data] true :=
  Program.laidByTextLater.sub seatTie1 ["voxsat/quant.width", "voxsat/voxsatref.widths"] (by kernel_rfl) (by kernel_rfl)
theorem quantLevels_row_tie : Rows.quantLevelsRow.laidByTextAt .later Tryd.pinned [.data, .data] true :=
  OpenClaim.laidByTextAt_later rfl rfl tie3 noOwnUnsafe
theorem quantOnes_row_tie : Rows.quantOnesRow.laidByTextAt .later Tryd.pinned [.data, .data] true :=
  OpenClaim.laidByTextAt_later rfl rfl tie3 noOwnUnsafe
theorem quantAlls_row_tie : Rows.quantAllsRow.laidByTextAt .later Tryd.pinned [.data, .data] true :=
  OpenClaim.laidByTextAt_later rfl rfl tie3 noOwnUnsafe
theorem packGoods_row_tie : Rows.packGoodsRow.laidByTextAt .later Tryd.pinned [.data, .data] true :=
  OpenClaim.laidByTextAt_later rfl rfl tie3 noOwnUnsafe
theorem dualPowsUpto_row_tie : Rows.dualPowsUptoRow.laidByTextAt .later Tryd.pinned [.data, .data] true :=
  OpenClaim.laidByTextAt_later rfl rfl tie noOwnUnsafe
theorem gainLevelsUpto_row_tie : Rows.gainLevelsUptoRow.laidByTextAt .later Tryd.pinned [.data, .data] true :=
  OpenClaim.laidByTextAt_later rfl rfl tie noOwnUnsafe
theorem gainOnesUpto_row_tie : Rows.gainOnesUptoRow.laidByTextAt .later Tryd.pinned [.data, .data] true :=
  OpenClaim.laidByTextAt_later rfl rfl tie noOwnUnsafe
theorem pitchGainsUpto_row_tie : Rows.pitchGainsUptoRow.laidByTextAt .later Tryd.pinned [.data, .widerDeep] true :=
  OpenClaim.laidByTextAt_later rfl rfl tie2 noOwnUnsafe
theorem pitchNearestsUpto_row_tie : Rows.pitchNearestsUptoRow.laidByTextAt .later Tryd.pinned [.data, .widerDeep] true :=
  OpenClaim.laidByTextAt_later rfl rfl tie2 noOwnUnsafe
theorem quantLevelsUpto_row_tie : Rows.quantLevelsUptoRow.laidByTextAt .later Tryd.pinned [.data, .data] true :=
  OpenClaim.laidByTextAt_later rfl rfl tie3 noOwnUnsafe
theorem quantOnesUpto_row_tie : Rows.quantOnesUptoRow.laidByTextAt .later Tryd.pinned [.data, .data] true :=
  OpenClaim.laidByTextAt_later rfl rfl tie3 noOwnUnsafe
theorem quantAllsUpto_row_tie : Rows.quantAllsUptoRow.laidByTextAt .later Tryd.pinned [.data, .data] true :=
  OpenClaim.laidByTextAt_later rfl rfl tie3 noOwnUnsafe
theorem packGoodsUpto_row_tie : Rows.packGoodsUptoRow.laidByTextAt .later Tryd.pinned [.data, .data] true :=
  OpenClaim.laidByTextAt_later rfl rfl tie3 noOwnUnsafe
end Go.Proofs.YtnielfleokbloaaDoor
