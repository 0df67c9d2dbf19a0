/-
  NARROWER THAN 'FOR EVERY INPUT', by the rows' own cells (each row's printed sentence says how): DualPows: laid · GainLevels: laid · GainOnes: laid · PitchGains: laid · PitchNearests: laid · QuantLevels: laid · QuantOnes: laid · QuantAlls: laid · PackGoods: laid.
  DERIVED. THE GIVEN ROWS OF THIS SEAT. 9 by the template 'for every input the law returns true; each argument reads behind the call as it read before'; 0 by the template 'total and deterministic' (their statements: YtnielfleokbloaaDoorTotals.lean).
  GIVEN WITH THE SEED: the statements are not yours to turn. If you find one false, say at which input.
  Laid BY PROGRAM, IN A SANDBOX (cutbox-rows.mjs): the forced cells as the released guide's own fill.sh prints them over the translation f7cfac8a6450275a… (all of the seat's roots in one cut). By AI agents, Wed Nov 11 2026. No macro, syntax, notation, axiom, sorry.
-/
import Derived.Test.YtnielfleokbloaaDoorChecked
import GoSem.Claim
import GoSem.ClaimJoined
import GoSem.ClaimMapViews
import Derived.JoinedTies
import Derived.KernelRfl
namespace Go.Proofs.YtnielfleokbloaaDoor
/- THE CELL 'sum', in the pinned program and in every row, IS THE sha256 OF THE DUMP (.gsa) THAT YtnielfleokbloaaDoorProg.lean LOADS. Nothing in Lean hashes anything: it is a label: what it is worth is what the hold of that sum in a sandbox is worth. -/
noncomputable def Tryd.pinned : Pinned := { name := "ytnielfleokbloaadoor", sum := "f7cfac8a6450275a277f72e09ffb8d1fb9030535358ece42b5882cdedc5626b3", checked := Tryd.checked }
namespace Rows
def none {H : Type} : Left H := { results := [], args := [] }

/- WHAT THE LISTED PACKAGE-LEVEL VARIABLES READ AS WHEN THE CALL BEGINS. Each datum BY PROGRAM (the guide's laid-datum.mjs) off the statement by which the dump's own 'gosem.cut.vars' lays the variable. In a bare row this is a premise. The card (YtnielfleokbloaaDoorCards.lean) ties it to the program's text. -/
def laid_voxsat_dual_roots {H : Type} : DataW H := .agg [.lit (.int .i64 444758425), .lit (.int .i64 203159592), .lit (.int .i64 97181937), .lit (.int .i64 47538611), .lit (.int .i64 23511884), .lit (.int .i64 11692281), .lit (.int .i64 5830311), .lit (.int .i64 2911209), .lit (.int .i64 1454619), .lit (.int .i64 727063), .lit (.int .i64 363470), .lit (.int .i64 181719), .lit (.int .i64 90856), .lit (.int .i64 45427), .lit (.int .i64 22713)]
def laid_voxsat_voxsatref_steps {H : Type} : DataW H := .slice [.lit (.int .i64 444758425), .lit (.int .i64 203159592), .lit (.int .i64 97181937), .lit (.int .i64 47538611), .lit (.int .i64 23511884), .lit (.int .i64 11692281), .lit (.int .i64 5830311), .lit (.int .i64 2911209), .lit (.int .i64 1454619), .lit (.int .i64 727063), .lit (.int .i64 363470), .lit (.int .i64 181719), .lit (.int .i64 90856), .lit (.int .i64 45427), .lit (.int .i64 22713)] []
def laid_voxsat_pitch_gains {H : Type} : DataW H := .agg [.lit (.int .i64 0), .lit (.int .i64 3277), .lit (.int .i64 6554), .lit (.int .i64 9830), .lit (.int .i64 12452), .lit (.int .i64 14746), .lit (.int .i64 16384), .lit (.int .i64 18022)]
def laid_voxsat_voxsatref_pitchGains {H : Type} : DataW H := .slice [.lit (.int .i64 0), .lit (.int .i64 3277), .lit (.int .i64 6554), .lit (.int .i64 9830), .lit (.int .i64 12452), .lit (.int .i64 14746), .lit (.int .i64 16384), .lit (.int .i64 18022)] []
def laid_voxsat_quant_width {H : Type} : DataW H := .agg [.lit (.int .i64 6), .lit (.int .i64 6), .lit (.int .i64 5), .lit (.int .i64 5), .lit (.int .i64 4), .lit (.int .i64 4), .lit (.int .i64 3), .lit (.int .i64 3)]
def laid_voxsat_voxsatref_widths {H : Type} : DataW H := .slice [.lit (.int .i64 6), .lit (.int .i64 6), .lit (.int .i64 5), .lit (.int .i64 5), .lit (.int .i64 4), .lit (.int .i64 4), .lit (.int .i64 3), .lit (.int .i64 3)] []

/-- 'voxsatlaw.DualPows': WHATEVER THE INPUT: true; the input reads as it did. -/
def dualPowsSpec : ChangeSpec := { name := "dualPows", fn := fun _ => fun
  | [d1, d2] => { results := [.lit (.bool true)], args := [d1, d2] }
  | _ => none }
def dualPowsRow : OpenClaim := { program := "ytnielfleokbloaadoor", sum := "f7cfac8a6450275a277f72e09ffb8d1fb9030535358ece42b5882cdedc5626b3", func := "voxsat/voxsatlaw.DualPows", spec := "dualPows", named := ["voxsat/dual.roots", "voxsat/voxsatref.steps"], apart := false, laid := [("voxsat/dual.roots", laid_voxsat_dual_roots), ("voxsat/voxsatref.steps", laid_voxsat_voxsatref_steps)] }
def DualPowsSaid : Prop := dualPowsRow.holds Tryd.pinned (OpenSpec.ofChange dualPowsSpec)

/-- ITS FALSE NEIGHBOUR: 'it returns false'. Refute it at one input. -/
def dualPowsWrong : ChangeSpec := { name := "dualPows", fn := fun _ => fun
  | [d1, d2] => { results := [.lit (.bool false)], args := [d1, d2] }
  | _ => none }
def DualPowsWrongFalsely : Prop := dualPowsRow.holds Tryd.pinned (OpenSpec.ofChange dualPowsWrong)

/-- 'voxsatlaw.GainLevels': WHATEVER THE INPUT: true; the input reads as it did. -/
def gainLevelsSpec : ChangeSpec := { name := "gainLevels", fn := fun _ => fun
  | [d] => { results := [.lit (.bool true)], args := [d] }
  | _ => none }
def gainLevelsRow : OpenClaim := { program := "ytnielfleokbloaadoor", sum := "f7cfac8a6450275a277f72e09ffb8d1fb9030535358ece42b5882cdedc5626b3", func := "voxsat/voxsatlaw.GainLevels", spec := "gainLevels", named := ["voxsat/dual.roots", "voxsat/voxsatref.steps"], apart := false, laid := [("voxsat/dual.roots", laid_voxsat_dual_roots), ("voxsat/voxsatref.steps", laid_voxsat_voxsatref_steps)] }
def GainLevelsSaid : Prop := gainLevelsRow.holds Tryd.pinned (OpenSpec.ofChange gainLevelsSpec)

/-- ITS FALSE NEIGHBOUR: 'it returns false'. Refute it at one input. -/
def gainLevelsWrong : ChangeSpec := { name := "gainLevels", fn := fun _ => fun
  | [d] => { results := [.lit (.bool false)], args := [d] }
  | _ => none }
def GainLevelsWrongFalsely : Prop := gainLevelsRow.holds Tryd.pinned (OpenSpec.ofChange gainLevelsWrong)

/-- 'voxsatlaw.GainOnes': WHATEVER THE INPUT: true; the input reads as it did. -/
def gainOnesSpec : ChangeSpec := { name := "gainOnes", fn := fun _ => fun
  | [d1, d2] => { results := [.lit (.bool true)], args := [d1, d2] }
  | _ => none }
def gainOnesRow : OpenClaim := { program := "ytnielfleokbloaadoor", sum := "f7cfac8a6450275a277f72e09ffb8d1fb9030535358ece42b5882cdedc5626b3", func := "voxsat/voxsatlaw.GainOnes", spec := "gainOnes", named := ["voxsat/dual.roots", "voxsat/voxsatref.steps"], apart := false, laid := [("voxsat/dual.roots", laid_voxsat_dual_roots), ("voxsat/voxsatref.steps", laid_voxsat_voxsatref_steps)] }
def GainOnesSaid : Prop := gainOnesRow.holds Tryd.pinned (OpenSpec.ofChange gainOnesSpec)

/-- ITS FALSE NEIGHBOUR: 'it returns false'. Refute it at one input. -/
def gainOnesWrong : ChangeSpec := { name := "gainOnes", fn := fun _ => fun
  | [d1, d2] => { results := [.lit (.bool false)], args := [d1, d2] }
  | _ => none }
def GainOnesWrongFalsely : Prop := gainOnesRow.holds Tryd.pinned (OpenSpec.ofChange gainOnesWrong)

/-- 'voxsatlaw.PitchGains': WHATEVER THE INPUT: true; the input reads as it did. -/
def pitchGainsSpec : ChangeSpec := { name := "pitchGains", fn := fun _ => fun
  | [d] => { results := [.lit (.bool true)], args := [d] }
  | _ => none }
def pitchGainsRow : OpenClaim := { program := "ytnielfleokbloaadoor", sum := "f7cfac8a6450275a277f72e09ffb8d1fb9030535358ece42b5882cdedc5626b3", func := "voxsat/voxsatlaw.PitchGains", spec := "pitchGains", named := ["voxsat/pitch.gains", "voxsat/voxsatref.pitchGains"], apart := false, laid := [("voxsat/pitch.gains", laid_voxsat_pitch_gains), ("voxsat/voxsatref.pitchGains", laid_voxsat_voxsatref_pitchGains)] }
def PitchGainsSaid : Prop := pitchGainsRow.holds Tryd.pinned (OpenSpec.ofChange pitchGainsSpec)

/-- ITS FALSE NEIGHBOUR: 'it returns false'. Refute it at one input. -/
def pitchGainsWrong : ChangeSpec := { name := "pitchGains", fn := fun _ => fun
  | [d] => { results := [.lit (.bool false)], args := [d] }
  | _ => none }
def PitchGainsWrongFalsely : Prop := pitchGainsRow.holds Tryd.pinned (OpenSpec.ofChange pitchGainsWrong)

/-- 'voxsatlaw.PitchNearests': WHATEVER THE INPUT: true; the input reads as it did. -/
def pitchNearestsSpec : ChangeSpec := { name := "pitchNearests", fn := fun _ => fun
  | [d1, d2] => { results := [.lit (.bool true)], args := [d1, d2] }
  | _ => none }
def pitchNearestsRow : OpenClaim := { program := "ytnielfleokbloaadoor", sum := "f7cfac8a6450275a277f72e09ffb8d1fb9030535358ece42b5882cdedc5626b3", func := "voxsat/voxsatlaw.PitchNearests", spec := "pitchNearests", named := ["voxsat/pitch.gains", "voxsat/voxsatref.pitchGains"], apart := false, laid := [("voxsat/pitch.gains", laid_voxsat_pitch_gains), ("voxsat/voxsatref.pitchGains", laid_voxsat_voxsatref_pitchGains)] }
def PitchNearestsSaid : Prop := pitchNearestsRow.holds Tryd.pinned (OpenSpec.ofChange pitchNearestsSpec)

/-- ITS FALSE NEIGHBOUR: 'it returns false'. Refute it at one input. -/
def pitchNearestsWrong : ChangeSpec := { name := "pitchNearests", fn := fun _ => fun
  | [d1, d2] => { results := [.lit (.bool false)], args := [d1, d2] }
  | _ => none }
def PitchNearestsWrongFalsely : Prop := pitchNearestsRow.holds Tryd.pinned (OpenSpec.ofChange pitchNearestsWrong)

/-- 'voxsatlaw.QuantLevels': WHATEVER THE INPUT: true; the input reads as it did. -/
def quantLevelsSpec : ChangeSpec := { name := "quantLevels", fn := fun _ => fun
  | [d1, d2] => { results := [.lit (.bool true)], args := [d1, d2] }
  | _ => none }
def quantLevelsRow : OpenClaim := { program := "ytnielfleokbloaadoor", sum := "f7cfac8a6450275a277f72e09ffb8d1fb9030535358ece42b5882cdedc5626b3", func := "voxsat/voxsatlaw.QuantLevels", spec := "quantLevels", recurses := true, named := ["voxsat/quant.width", "voxsat/voxsatref.widths"], apart := false, laid := [("voxsat/quant.width", laid_voxsat_quant_width), ("voxsat/voxsatref.widths", laid_voxsat_voxsatref_widths)] }
def QuantLevelsSaid : Prop := quantLevelsRow.holds Tryd.pinned (OpenSpec.ofChange quantLevelsSpec)

/-- ITS FALSE NEIGHBOUR: 'it returns false'. Refute it at one input. -/
def quantLevelsWrong : ChangeSpec := { name := "quantLevels", fn := fun _ => fun
  | [d1, d2] => { results := [.lit (.bool false)], args := [d1, d2] }
  | _ => none }
def QuantLevelsWrongFalsely : Prop := quantLevelsRow.holds Tryd.pinned (OpenSpec.ofChange quantLevelsWrong)

/-- 'voxsatlaw.QuantOnes': WHATEVER THE INPUT: true; the input reads as it did. -/
def quantOnesSpec : ChangeSpec := { name := "quantOnes", fn := fun _ => fun
  | [d1, d2] => { results := [.lit (.bool true)], args := [d1, d2] }
  | _ => none }
def quantOnesRow : OpenClaim := { program := "ytnielfleokbloaadoor", sum := "f7cfac8a6450275a277f72e09ffb8d1fb9030535358ece42b5882cdedc5626b3", func := "voxsat/voxsatlaw.QuantOnes", spec := "quantOnes", recurses := true, named := ["voxsat/quant.width", "voxsat/voxsatref.widths"], apart := false, laid := [("voxsat/quant.width", laid_voxsat_quant_width), ("voxsat/voxsatref.widths", laid_voxsat_voxsatref_widths)] }
def QuantOnesSaid : Prop := quantOnesRow.holds Tryd.pinned (OpenSpec.ofChange quantOnesSpec)

/-- ITS FALSE NEIGHBOUR: 'it returns false'. Refute it at one input. -/
def quantOnesWrong : ChangeSpec := { name := "quantOnes", fn := fun _ => fun
  | [d1, d2] => { results := [.lit (.bool false)], args := [d1, d2] }
  | _ => none }
def QuantOnesWrongFalsely : Prop := quantOnesRow.holds Tryd.pinned (OpenSpec.ofChange quantOnesWrong)

/-- 'voxsatlaw.QuantAlls': WHATEVER THE INPUT: true; the input reads as it did. -/
def quantAllsSpec : ChangeSpec := { name := "quantAlls", fn := fun _ => fun
  | [d] => { results := [.lit (.bool true)], args := [d] }
  | _ => none }
def quantAllsRow : OpenClaim := { program := "ytnielfleokbloaadoor", sum := "f7cfac8a6450275a277f72e09ffb8d1fb9030535358ece42b5882cdedc5626b3", func := "voxsat/voxsatlaw.QuantAlls", spec := "quantAlls", recurses := true, named := ["voxsat/quant.width", "voxsat/voxsatref.widths"], apart := false, laid := [("voxsat/quant.width", laid_voxsat_quant_width), ("voxsat/voxsatref.widths", laid_voxsat_voxsatref_widths)] }
def QuantAllsSaid : Prop := quantAllsRow.holds Tryd.pinned (OpenSpec.ofChange quantAllsSpec)

/-- ITS FALSE NEIGHBOUR: 'it returns false'. Refute it at one input. -/
def quantAllsWrong : ChangeSpec := { name := "quantAlls", fn := fun _ => fun
  | [d] => { results := [.lit (.bool false)], args := [d] }
  | _ => none }
def QuantAllsWrongFalsely : Prop := quantAllsRow.holds Tryd.pinned (OpenSpec.ofChange quantAllsWrong)

/-- 'voxsatlaw.PackGoods': WHATEVER THE INPUT: true; the input reads as it did. -/
def packGoodsSpec : ChangeSpec := { name := "packGoods", fn := fun _ => fun
  | [d] => { results := [.lit (.bool true)], args := [d] }
  | _ => none }
def packGoodsRow : OpenClaim := { program := "ytnielfleokbloaadoor", sum := "f7cfac8a6450275a277f72e09ffb8d1fb9030535358ece42b5882cdedc5626b3", func := "voxsat/voxsatlaw.PackGoods", spec := "packGoods", named := ["voxsat/quant.width", "voxsat/voxsatref.widths"], apart := false, laid := [("voxsat/quant.width", laid_voxsat_quant_width), ("voxsat/voxsatref.widths", laid_voxsat_voxsatref_widths)] }
def PackGoodsSaid : Prop := packGoodsRow.holds Tryd.pinned (OpenSpec.ofChange packGoodsSpec)

/-- ITS FALSE NEIGHBOUR: 'it returns false'. Refute it at one input. -/
def packGoodsWrong : ChangeSpec := { name := "packGoods", fn := fun _ => fun
  | [d] => { results := [.lit (.bool false)], args := [d] }
  | _ => none }
def PackGoodsWrongFalsely : Prop := packGoodsRow.holds Tryd.pinned (OpenSpec.ofChange packGoodsWrong)

/- THE SECOND FORM. 'bulk': how many values and letters a reading holds, each counted each time it is reached (what is shared counts as often as it is met; a slice's spare places count too). A statement '..UptoSaid' is the law's where the arguments, and the package variables that the reading takes, are together of bulk at most 1048576: NARROWER than '..Said'. Prove '..Said' where nothing that the law and all that it calls make is longer than what came in: it says more and counts as full. Else prove '..UptoSaid'. A law counts once. -/
mutual
def uptoBulk {H : Type} : DataW H → Nat
  | .lit (.string bytes) => bytes.length + 1
  | .lit _ => 1
  | .nil => 1
  | .ptr d => uptoBulk d + 1
  | .slice elems spare => uptoBulkAll elems + uptoBulkAll spare + 1
  | .agg parts => uptoBulkAll parts + 1
  | .iface _ d => uptoBulk d + 1
  | .map entries => uptoBulkEntries entries + 1
  | .held _ => 1
def uptoBulkAll {H : Type} : List (DataW H) → Nat
  | [] => 0
  | d :: r => uptoBulk d + uptoBulkAll r
def uptoBulkEntries {H : Type} : List (Lit × DataW H) → Nat
  | [] => 0
  | x :: r => uptoBulkEntry x + uptoBulkEntries r
def uptoBulkEntry {H : Type} : Lit × DataW H → Nat
  | (.string bytes, d) => bytes.length + uptoBulk d + 1
  | (_, d) => uptoBulk d + 1
 end
def uptoSmall : (H : Type) → List (DataW H) → Bool := fun _ ds => decide (uptoBulkAll ds ≤ 1048576)
def OpenSpec.upto (s : _root_.Go.ChangeSpec) : _root_.Go.OpenSpec := { _root_.Go.OpenSpec.ofChange s with cond := some uptoSmall }

/-- 'voxsatlaw.DualPows', WHERE WHAT IT READS IS OF BULK AT MOST 1048576: true; the input reads as it did. -/
def dualPowsUptoRow : OpenClaim := { program := "ytnielfleokbloaadoor", sum := "f7cfac8a6450275a277f72e09ffb8d1fb9030535358ece42b5882cdedc5626b3", func := "voxsat/voxsatlaw.DualPows", spec := "dualPows", named := ["voxsat/dual.roots", "voxsat/voxsatref.steps"], apart := false, laid := [("voxsat/dual.roots", laid_voxsat_dual_roots), ("voxsat/voxsatref.steps", laid_voxsat_voxsatref_steps)], narrowed := true }
def DualPowsUptoSaid : Prop := dualPowsUptoRow.holds Tryd.pinned (OpenSpec.upto dualPowsSpec)

/-- 'voxsatlaw.GainLevels', WHERE WHAT IT READS IS OF BULK AT MOST 1048576: true; the input reads as it did. -/
def gainLevelsUptoRow : OpenClaim := { program := "ytnielfleokbloaadoor", sum := "f7cfac8a6450275a277f72e09ffb8d1fb9030535358ece42b5882cdedc5626b3", func := "voxsat/voxsatlaw.GainLevels", spec := "gainLevels", named := ["voxsat/dual.roots", "voxsat/voxsatref.steps"], apart := false, laid := [("voxsat/dual.roots", laid_voxsat_dual_roots), ("voxsat/voxsatref.steps", laid_voxsat_voxsatref_steps)], narrowed := true }
def GainLevelsUptoSaid : Prop := gainLevelsUptoRow.holds Tryd.pinned (OpenSpec.upto gainLevelsSpec)

/-- 'voxsatlaw.GainOnes', WHERE WHAT IT READS IS OF BULK AT MOST 1048576: true; the input reads as it did. -/
def gainOnesUptoRow : OpenClaim := { program := "ytnielfleokbloaadoor", sum := "f7cfac8a6450275a277f72e09ffb8d1fb9030535358ece42b5882cdedc5626b3", func := "voxsat/voxsatlaw.GainOnes", spec := "gainOnes", named := ["voxsat/dual.roots", "voxsat/voxsatref.steps"], apart := false, laid := [("voxsat/dual.roots", laid_voxsat_dual_roots), ("voxsat/voxsatref.steps", laid_voxsat_voxsatref_steps)], narrowed := true }
def GainOnesUptoSaid : Prop := gainOnesUptoRow.holds Tryd.pinned (OpenSpec.upto gainOnesSpec)

/-- 'voxsatlaw.PitchGains', WHERE WHAT IT READS IS OF BULK AT MOST 1048576: true; the input reads as it did. -/
def pitchGainsUptoRow : OpenClaim := { program := "ytnielfleokbloaadoor", sum := "f7cfac8a6450275a277f72e09ffb8d1fb9030535358ece42b5882cdedc5626b3", func := "voxsat/voxsatlaw.PitchGains", spec := "pitchGains", named := ["voxsat/pitch.gains", "voxsat/voxsatref.pitchGains"], apart := false, laid := [("voxsat/pitch.gains", laid_voxsat_pitch_gains), ("voxsat/voxsatref.pitchGains", laid_voxsat_voxsatref_pitchGains)], narrowed := true }
def PitchGainsUptoSaid : Prop := pitchGainsUptoRow.holds Tryd.pinned (OpenSpec.upto pitchGainsSpec)

/-- 'voxsatlaw.PitchNearests', WHERE WHAT IT READS IS OF BULK AT MOST 1048576: true; the input reads as it did. -/
def pitchNearestsUptoRow : OpenClaim := { program := "ytnielfleokbloaadoor", sum := "f7cfac8a6450275a277f72e09ffb8d1fb9030535358ece42b5882cdedc5626b3", func := "voxsat/voxsatlaw.PitchNearests", spec := "pitchNearests", named := ["voxsat/pitch.gains", "voxsat/voxsatref.pitchGains"], apart := false, laid := [("voxsat/pitch.gains", laid_voxsat_pitch_gains), ("voxsat/voxsatref.pitchGains", laid_voxsat_voxsatref_pitchGains)], narrowed := true }
def PitchNearestsUptoSaid : Prop := pitchNearestsUptoRow.holds Tryd.pinned (OpenSpec.upto pitchNearestsSpec)

/-- 'voxsatlaw.QuantLevels', WHERE WHAT IT READS IS OF BULK AT MOST 1048576: true; the input reads as it did. -/
def quantLevelsUptoRow : OpenClaim := { program := "ytnielfleokbloaadoor", sum := "f7cfac8a6450275a277f72e09ffb8d1fb9030535358ece42b5882cdedc5626b3", func := "voxsat/voxsatlaw.QuantLevels", spec := "quantLevels", recurses := true, named := ["voxsat/quant.width", "voxsat/voxsatref.widths"], apart := false, laid := [("voxsat/quant.width", laid_voxsat_quant_width), ("voxsat/voxsatref.widths", laid_voxsat_voxsatref_widths)], narrowed := true }
def QuantLevelsUptoSaid : Prop := quantLevelsUptoRow.holds Tryd.pinned (OpenSpec.upto quantLevelsSpec)

/-- 'voxsatlaw.QuantOnes', WHERE WHAT IT READS IS OF BULK AT MOST 1048576: true; the input reads as it did. -/
def quantOnesUptoRow : OpenClaim := { program := "ytnielfleokbloaadoor", sum := "f7cfac8a6450275a277f72e09ffb8d1fb9030535358ece42b5882cdedc5626b3", func := "voxsat/voxsatlaw.QuantOnes", spec := "quantOnes", recurses := true, named := ["voxsat/quant.width", "voxsat/voxsatref.widths"], apart := false, laid := [("voxsat/quant.width", laid_voxsat_quant_width), ("voxsat/voxsatref.widths", laid_voxsat_voxsatref_widths)], narrowed := true }
def QuantOnesUptoSaid : Prop := quantOnesUptoRow.holds Tryd.pinned (OpenSpec.upto quantOnesSpec)

/-- 'voxsatlaw.QuantAlls', WHERE WHAT IT READS IS OF BULK AT MOST 1048576: true; the input reads as it did. -/
def quantAllsUptoRow : OpenClaim := { program := "ytnielfleokbloaadoor", sum := "f7cfac8a6450275a277f72e09ffb8d1fb9030535358ece42b5882cdedc5626b3", func := "voxsat/voxsatlaw.QuantAlls", spec := "quantAlls", recurses := true, named := ["voxsat/quant.width", "voxsat/voxsatref.widths"], apart := false, laid := [("voxsat/quant.width", laid_voxsat_quant_width), ("voxsat/voxsatref.widths", laid_voxsat_voxsatref_widths)], narrowed := true }
def QuantAllsUptoSaid : Prop := quantAllsUptoRow.holds Tryd.pinned (OpenSpec.upto quantAllsSpec)

/-- 'voxsatlaw.PackGoods', WHERE WHAT IT READS IS OF BULK AT MOST 1048576: true; the input reads as it did. -/
def packGoodsUptoRow : OpenClaim := { program := "ytnielfleokbloaadoor", sum := "f7cfac8a6450275a277f72e09ffb8d1fb9030535358ece42b5882cdedc5626b3", func := "voxsat/voxsatlaw.PackGoods", spec := "packGoods", named := ["voxsat/quant.width", "voxsat/voxsatref.widths"], apart := false, laid := [("voxsat/quant.width", laid_voxsat_quant_width), ("voxsat/voxsatref.widths", laid_voxsat_voxsatref_widths)], narrowed := true }
def PackGoodsUptoSaid : Prop := packGoodsUptoRow.holds Tryd.pinned (OpenSpec.upto packGoodsSpec)

end Rows
end Go.Proofs.YtnielfleokbloaaDoor
