/-
  DERIVED. GIVEN WITH THE SEED: THE PROGRAM's TIES (one call each: nine closed facts by the kernel) AND EACH ROW's TIE, after the 31st guide's Derived/Test/Toyas{Tie, Card}.lean. No idea stands in it: it is a product of the set-up. Laid BY PROGRAM, IN A SANDBOX (cutbox-door.mjs). By AI agents, Wed Nov 11 2026. No macro, syntax, notation, axiom, sorry.
-/
import Derived.Test.YtaahbkbnfpajdaaGreatDoorRows
import Derived.LaidByTextLater
import Derived.SevenTiedAt
import Derived.LaidSub
import Derived.LaidOnce
namespace Go.Proofs.YtaahbkbnfpajdaaGreatDoor
open Go
set_option maxRecDepth 100000
theorem seatTie1 : Tryz.prog.laidByTextLater [("voxsat/dual.roots", Rows.laid_voxsat_dual_roots), ("voxsat/pitch.gains", Rows.laid_voxsat_pitch_gains), ("voxsat/quant.width", Rows.laid_voxsat_quant_width), ("voxsat/voxsatref.steps", Rows.laid_voxsat_voxsatref_steps), ("voxsat/voxsatref.widths", Rows.laid_voxsat_voxsatref_widths), ("voxsat/voxsatref.pitchGains", Rows.laid_voxsat_voxsatref_pitchGains)] [.data, .data, .data, .data, .data, .widerDeep] true :=
  Program.laidByTextLater_by_one 39 8 16 (by kernel_rfl) (by kernel_rfl) (by kernel_rfl) (by kernel_rfl) (by kernel_rfl) (by kernel_rfl) (fun _ _ => by kernel_rfl)
theorem noOwnUnsafe : Tryz.pinned.checked.prog.headLifts.contains "ownunsafe" = false := by kernel_rfl
theorem tie : Tryz.prog.laidByTextLater [("voxsat/dual.roots", Rows.laid_voxsat_dual_roots), ("voxsat/pitch.gains", Rows.laid_voxsat_pitch_gains), ("voxsat/quant.width", Rows.laid_voxsat_quant_width), ("voxsat/voxsatref.steps", Rows.laid_voxsat_voxsatref_steps), ("voxsat/voxsatref.widths", Rows.laid_voxsat_voxsatref_widths), ("voxsat/voxsatref.pitchGains", Rows.laid_voxsat_voxsatref_pitchGains)] [.data, .data, .data, .data, .data, .widerDeep] true :=
  Program.laidByTextLater.sub seatTie1 ["voxsat/dual.roots", "voxsat/pitch.gains", "voxsat/quant.width", "voxsat/voxsatref.steps", "voxsat/voxsatref.widths", "voxsat/voxsatref.pitchGains"] (by kernel_rfl) (by kernel_rfl)
theorem deskPlays_row_tie : Rows.deskPlaysRow.laidByTextAt .later Tryz.pinned [.data, .data, .data, .data, .data, .widerDeep] true :=
  OpenClaim.laidByTextAt_later rfl rfl tie noOwnUnsafe
theorem deskPlaysUpto_row_tie : Rows.deskPlaysUptoRow.laidByTextAt .later Tryz.pinned [.data, .data, .data, .data, .data, .widerDeep] true :=
  OpenClaim.laidByTextAt_later rfl rfl tie noOwnUnsafe
end Go.Proofs.YtaahbkbnfpajdaaGreatDoor
