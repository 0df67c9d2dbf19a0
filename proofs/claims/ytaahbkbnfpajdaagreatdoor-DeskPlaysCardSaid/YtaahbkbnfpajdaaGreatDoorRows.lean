/-
  NARROWER THAN 'FOR EVERY INPUT', by the rows' own cells (each row's printed sentence says how): DeskPlays: laid.
  DERIVED. THE GIVEN ROWS OF THIS SEAT. 1 by the template 'for every input the law returns true; each argument reads behind the call as it read before'; 0 by the template 'total and deterministic' (their statements: YtaahbkbnfpajdaaGreatDoorTotals.lean).
  GIVEN WITH THE SEED: the statements are not yours to turn. If you find one false, say at which input.
  Laid BY PROGRAM, IN A SANDBOX (cutbox-rows.mjs): the forced cells as the released guide's own fill.sh prints them over the translation b4ca8a93218a6221… (all of the seat's roots in one cut). By AI agents, Wed Nov 11 2026. No macro, syntax, notation, axiom, sorry.
-/
import Derived.Test.YtaahbkbnfpajdaaGreatDoorChecked
import GoSem.Claim
import GoSem.ClaimJoined
import GoSem.ClaimMapViews
import Derived.JoinedTies
import Derived.KernelRfl
namespace Go.Proofs.YtaahbkbnfpajdaaGreatDoor
/- THE CELL 'sum', in the pinned program and in every row, IS THE sha256 OF THE DUMP (.gsa) THAT YtaahbkbnfpajdaaGreatDoorProg.lean LOADS. Nothing in Lean hashes anything: it is a label: what it is worth is what the hold of that sum in a sandbox is worth. -/
noncomputable def Tryz.pinned : Pinned := { name := "ytaahbkbnfpajdaagreatdoor", sum := "b4ca8a93218a62215124dd629dd87c97032118a4951474cae99f70da74a602ad", checked := Tryz.checked }
namespace Rows
def none {H : Type} : Left H := { results := [], args := [] }

/- WHAT THE LISTED PACKAGE-LEVEL VARIABLES READ AS WHEN THE CALL BEGINS. Each datum BY PROGRAM (the guide's laid-datum.mjs) off the statement by which the dump's own 'gosem.cut.vars' lays the variable. In a bare row this is a premise. The card (YtaahbkbnfpajdaaGreatDoorCards.lean) ties it to the program's text. -/
def laid_voxsat_dual_roots {H : Type} : DataW H := .agg [.lit (.int .i64 444758425), .lit (.int .i64 203159592), .lit (.int .i64 97181937), .lit (.int .i64 47538611), .lit (.int .i64 23511884), .lit (.int .i64 11692281), .lit (.int .i64 5830311), .lit (.int .i64 2911209), .lit (.int .i64 1454619), .lit (.int .i64 727063), .lit (.int .i64 363470), .lit (.int .i64 181719), .lit (.int .i64 90856), .lit (.int .i64 45427), .lit (.int .i64 22713)]
def laid_voxsat_pitch_gains {H : Type} : DataW H := .agg [.lit (.int .i64 0), .lit (.int .i64 3277), .lit (.int .i64 6554), .lit (.int .i64 9830), .lit (.int .i64 12452), .lit (.int .i64 14746), .lit (.int .i64 16384), .lit (.int .i64 18022)]
def laid_voxsat_quant_width {H : Type} : DataW H := .agg [.lit (.int .i64 6), .lit (.int .i64 6), .lit (.int .i64 5), .lit (.int .i64 5), .lit (.int .i64 4), .lit (.int .i64 4), .lit (.int .i64 3), .lit (.int .i64 3)]
def laid_voxsat_voxsatref_steps {H : Type} : DataW H := .slice [.lit (.int .i64 444758425), .lit (.int .i64 203159592), .lit (.int .i64 97181937), .lit (.int .i64 47538611), .lit (.int .i64 23511884), .lit (.int .i64 11692281), .lit (.int .i64 5830311), .lit (.int .i64 2911209), .lit (.int .i64 1454619), .lit (.int .i64 727063), .lit (.int .i64 363470), .lit (.int .i64 181719), .lit (.int .i64 90856), .lit (.int .i64 45427), .lit (.int .i64 22713)] []
def laid_voxsat_voxsatref_widths {H : Type} : DataW H := .slice [.lit (.int .i64 6), .lit (.int .i64 6), .lit (.int .i64 5), .lit (.int .i64 5), .lit (.int .i64 4), .lit (.int .i64 4), .lit (.int .i64 3), .lit (.int .i64 3)] []
def laid_voxsat_voxsatref_pitchGains {H : Type} : DataW H := .slice [.lit (.int .i64 0), .lit (.int .i64 3277), .lit (.int .i64 6554), .lit (.int .i64 9830), .lit (.int .i64 12452), .lit (.int .i64 14746), .lit (.int .i64 16384), .lit (.int .i64 18022)] []

/-- 'voxsatlaw.DeskPlays': WHATEVER THE INPUT: true; the input reads as it did. -/
def deskPlaysSpec : ChangeSpec := { name := "deskPlays", fn := fun _ => fun
  | [d] => { results := [.lit (.bool true)], args := [d] }
  | _ => none }
def deskPlaysRow : OpenClaim := { program := "ytaahbkbnfpajdaagreatdoor", sum := "b4ca8a93218a62215124dd629dd87c97032118a4951474cae99f70da74a602ad", func := "voxsat/voxsatlaw.DeskPlays", spec := "deskPlays", inPlace := ["math/bits.Add64"], unfollowed := true, recurses := true, named := ["voxsat/quant.width", "voxsat/pitch.gains", "voxsat/dual.roots", "voxsat/voxsatref.widths", "voxsat/voxsatref.pitchGains", "voxsat/voxsatref.steps"], apart := false, laid := [("voxsat/dual.roots", laid_voxsat_dual_roots), ("voxsat/pitch.gains", laid_voxsat_pitch_gains), ("voxsat/quant.width", laid_voxsat_quant_width), ("voxsat/voxsatref.steps", laid_voxsat_voxsatref_steps), ("voxsat/voxsatref.widths", laid_voxsat_voxsatref_widths), ("voxsat/voxsatref.pitchGains", laid_voxsat_voxsatref_pitchGains)] }
def DeskPlaysSaid : Prop := deskPlaysRow.holds Tryz.pinned (OpenSpec.ofChange deskPlaysSpec)

/-- ITS FALSE NEIGHBOUR: 'it returns false'. Refute it at one input. -/
def deskPlaysWrong : ChangeSpec := { name := "deskPlays", fn := fun _ => fun
  | [d] => { results := [.lit (.bool false)], args := [d] }
  | _ => none }
def DeskPlaysWrongFalsely : Prop := deskPlaysRow.holds Tryz.pinned (OpenSpec.ofChange deskPlaysWrong)

/- THE SECOND FORM. 'bulk': how many values and letters a reading holds, each counted each time it is reached (what is shared counts as often as it is met; a slice's spare places count too). A statement '..UptoSaid' is the law's where the arguments, and the package variables that the reading takes, are together of bulk at most 1048576: NARROWER than '..Said'. Prove '..Said' where nothing that the law and all that it calls make is longer than what came in: it says more and counts as full. Else prove '..UptoSaid'. A law counts once. -/
mutual
def uptoBulk {H : Type} : DataW H → Nat
  | .lit (.string bytes) => bytes.length + 1
  | .lit _ => 1
  | .nil => 1
  | .ptr d => uptoBulk d + 1
  | .slice elems spare => uptoBulkAll elems + uptoBulkAll spare + 1
  | .agg parts => uptoBulkAll parts + 1
  | .iface _ d => uptoBulk d + 1
  | .map entries => uptoBulkEntries entries + 1
  | .held _ => 1
def uptoBulkAll {H : Type} : List (DataW H) → Nat
  | [] => 0
  | d :: r => uptoBulk d + uptoBulkAll r
def uptoBulkEntries {H : Type} : List (Lit × DataW H) → Nat
  | [] => 0
  | x :: r => uptoBulkEntry x + uptoBulkEntries r
def uptoBulkEntry {H : Type} : Lit × DataW H → Nat
  | (.string bytes, d) => bytes.length + uptoBulk d + 1
  | (_, d) => uptoBulk d + 1
 end
def uptoSmall : (H : Type) → List (DataW H) → Bool := fun _ ds => decide (uptoBulkAll ds ≤ 1048576)
def OpenSpec.upto (s : _root_.Go.ChangeSpec) : _root_.Go.OpenSpec := { _root_.Go.OpenSpec.ofChange s with cond := some uptoSmall }

/-- 'voxsatlaw.DeskPlays', WHERE WHAT IT READS IS OF BULK AT MOST 1048576: true; the input reads as it did. -/
def deskPlaysUptoRow : OpenClaim := { program := "ytaahbkbnfpajdaagreatdoor", sum := "b4ca8a93218a62215124dd629dd87c97032118a4951474cae99f70da74a602ad", func := "voxsat/voxsatlaw.DeskPlays", spec := "deskPlays", inPlace := ["math/bits.Add64"], unfollowed := true, recurses := true, named := ["voxsat/quant.width", "voxsat/pitch.gains", "voxsat/dual.roots", "voxsat/voxsatref.widths", "voxsat/voxsatref.pitchGains", "voxsat/voxsatref.steps"], apart := false, laid := [("voxsat/dual.roots", laid_voxsat_dual_roots), ("voxsat/pitch.gains", laid_voxsat_pitch_gains), ("voxsat/quant.width", laid_voxsat_quant_width), ("voxsat/voxsatref.steps", laid_voxsat_voxsatref_steps), ("voxsat/voxsatref.widths", laid_voxsat_voxsatref_widths), ("voxsat/voxsatref.pitchGains", laid_voxsat_voxsatref_pitchGains)], narrowed := true }
def DeskPlaysUptoSaid : Prop := deskPlaysUptoRow.holds Tryz.pinned (OpenSpec.upto deskPlaysSpec)

end Rows
end Go.Proofs.YtaahbkbnfpajdaaGreatDoor
