/-
  NARROWER THAN 'FOR EVERY INPUT', by the rows' own cells (each row's printed sentence says how): TopSync: laid · TopFades: laid · TopLone: laid · TopDesk: laid.
  DERIVED. THE GIVEN ROWS OF THIS SEAT. 4 by the template 'for every input the law returns true; each argument reads behind the call as it read before'; 0 by the template 'total and deterministic' (their statements: YthoiikkjjaldnaaDoorTotals.lean).
  GIVEN WITH THE SEED: the statements are not yours to turn. If you find one false, say at which input.
  Laid BY PROGRAM, IN A SANDBOX (cutbox-rows.mjs): the forced cells as the released guide's own fill.sh prints them over the translation 53b5e7ed0b9b9330… (all of the seat's roots in one cut). By AI agents, Wed Nov 11 2026. No macro, syntax, notation, axiom, sorry.
-/
import Derived.Test.YthoiikkjjaldnaaDoorChecked
import GoSem.Claim
import GoSem.ClaimJoined
import GoSem.ClaimMapViews
import Derived.JoinedTies
import Derived.KernelRfl
namespace Go.Proofs.YthoiikkjjaldnaaDoor
/- THE CELL 'sum', in the pinned program and in every row, IS THE sha256 OF THE DUMP (.gsa) THAT YthoiikkjjaldnaaDoorProg.lean LOADS. Nothing in Lean hashes anything: it is a label: what it is worth is what the hold of that sum in a sandbox is worth. -/
noncomputable def Tryd.pinned : Pinned := { name := "ythoiikkjjaldnaadoor", sum := "53b5e7ed0b9b9330ada6c595a01bcc5956f5a021eae36b10c5004beafa3448e1", checked := Tryd.checked }
namespace Rows
def none {H : Type} : Left H := { results := [], args := [] }

/- WHAT THE LISTED PACKAGE-LEVEL VARIABLES READ AS WHEN THE CALL BEGINS. Each datum BY PROGRAM (the guide's laid-datum.mjs) off the statement by which the dump's own 'gosem.cut.vars' lays the variable. In a bare row this is a premise. The card (YthoiikkjjaldnaaDoorCards.lean) ties it to the program's text. -/
def laid_voxsat_dual_roots {H : Type} : DataW H := .agg [.lit (.int .i64 444758425), .lit (.int .i64 203159592), .lit (.int .i64 97181937), .lit (.int .i64 47538611), .lit (.int .i64 23511884), .lit (.int .i64 11692281), .lit (.int .i64 5830311), .lit (.int .i64 2911209), .lit (.int .i64 1454619), .lit (.int .i64 727063), .lit (.int .i64 363470), .lit (.int .i64 181719), .lit (.int .i64 90856), .lit (.int .i64 45427), .lit (.int .i64 22713)]
def laid_voxsat_pitch_gains {H : Type} : DataW H := .agg [.lit (.int .i64 0), .lit (.int .i64 3277), .lit (.int .i64 6554), .lit (.int .i64 9830), .lit (.int .i64 12452), .lit (.int .i64 14746), .lit (.int .i64 16384), .lit (.int .i64 18022)]
def laid_voxsat_quant_width {H : Type} : DataW H := .agg [.lit (.int .i64 6), .lit (.int .i64 6), .lit (.int .i64 5), .lit (.int .i64 5), .lit (.int .i64 4), .lit (.int .i64 4), .lit (.int .i64 3), .lit (.int .i64 3)]

/-- 'voxsattop.TopSync': WHATEVER THE INPUT: true; the input reads as it did. -/
def topSyncSpec : ChangeSpec := { name := "topSync", fn := fun _ => fun
  | [d] => { results := [.lit (.bool true)], args := [d] }
  | _ => none }
def topSyncRow : OpenClaim := { program := "ythoiikkjjaldnaadoor", sum := "53b5e7ed0b9b9330ada6c595a01bcc5956f5a021eae36b10c5004beafa3448e1", func := "voxsat/voxsattop.TopSync", spec := "topSync", inPlace := ["math/bits.Add64"], unfollowed := true, recurses := true, named := ["voxsat/quant.width", "voxsat/pitch.gains", "voxsat/dual.roots"], apart := false, laid := [("voxsat/dual.roots", laid_voxsat_dual_roots), ("voxsat/pitch.gains", laid_voxsat_pitch_gains), ("voxsat/quant.width", laid_voxsat_quant_width)] }
def TopSyncSaid : Prop := topSyncRow.holds Tryd.pinned (OpenSpec.ofChange topSyncSpec)

/-- ITS FALSE NEIGHBOUR: 'it returns false'. Refute it at one input. -/
def topSyncWrong : ChangeSpec := { name := "topSync", fn := fun _ => fun
  | [d] => { results := [.lit (.bool false)], args := [d] }
  | _ => none }
def TopSyncWrongFalsely : Prop := topSyncRow.holds Tryd.pinned (OpenSpec.ofChange topSyncWrong)

/-- 'voxsattop.TopFades': WHATEVER THE INPUT: true; the input reads as it did. -/
def topFadesSpec : ChangeSpec := { name := "topFades", fn := fun _ => fun
  | [d] => { results := [.lit (.bool true)], args := [d] }
  | _ => none }
def topFadesRow : OpenClaim := { program := "ythoiikkjjaldnaadoor", sum := "53b5e7ed0b9b9330ada6c595a01bcc5956f5a021eae36b10c5004beafa3448e1", func := "voxsat/voxsattop.TopFades", spec := "topFades", inPlace := ["math/bits.Add64"], unfollowed := true, recurses := true, named := ["voxsat/quant.width", "voxsat/pitch.gains", "voxsat/dual.roots"], apart := false, laid := [("voxsat/dual.roots", laid_voxsat_dual_roots), ("voxsat/pitch.gains", laid_voxsat_pitch_gains), ("voxsat/quant.width", laid_voxsat_quant_width)] }
def TopFadesSaid : Prop := topFadesRow.holds Tryd.pinned (OpenSpec.ofChange topFadesSpec)

/-- ITS FALSE NEIGHBOUR: 'it returns false'. Refute it at one input. -/
def topFadesWrong : ChangeSpec := { name := "topFades", fn := fun _ => fun
  | [d] => { results := [.lit (.bool false)], args := [d] }
  | _ => none }
def TopFadesWrongFalsely : Prop := topFadesRow.holds Tryd.pinned (OpenSpec.ofChange topFadesWrong)

/-- 'voxsattop.TopLone': WHATEVER THE INPUT: true; the input reads as it did. -/
def topLoneSpec : ChangeSpec := { name := "topLone", fn := fun _ => fun
  | [d1, d2] => { results := [.lit (.bool true)], args := [d1, d2] }
  | _ => none }
def topLoneRow : OpenClaim := { program := "ythoiikkjjaldnaadoor", sum := "53b5e7ed0b9b9330ada6c595a01bcc5956f5a021eae36b10c5004beafa3448e1", func := "voxsat/voxsattop.TopLone", spec := "topLone", inPlace := ["math/bits.Add64"], unfollowed := true, recurses := true, named := ["voxsat/quant.width", "voxsat/pitch.gains", "voxsat/dual.roots"], apart := false, laid := [("voxsat/dual.roots", laid_voxsat_dual_roots), ("voxsat/pitch.gains", laid_voxsat_pitch_gains), ("voxsat/quant.width", laid_voxsat_quant_width)] }
def TopLoneSaid : Prop := topLoneRow.holds Tryd.pinned (OpenSpec.ofChange topLoneSpec)

/-- ITS FALSE NEIGHBOUR: 'it returns false'. Refute it at one input. -/
def topLoneWrong : ChangeSpec := { name := "topLone", fn := fun _ => fun
  | [d1, d2] => { results := [.lit (.bool false)], args := [d1, d2] }
  | _ => none }
def TopLoneWrongFalsely : Prop := topLoneRow.holds Tryd.pinned (OpenSpec.ofChange topLoneWrong)

/-- 'voxsattop.TopDesk': WHATEVER THE INPUT: true; the input reads as it did. -/
def topDeskSpec : ChangeSpec := { name := "topDesk", fn := fun _ => fun
  | [d1, d2] => { results := [.lit (.bool true)], args := [d1, d2] }
  | _ => none }
def topDeskRow : OpenClaim := { program := "ythoiikkjjaldnaadoor", sum := "53b5e7ed0b9b9330ada6c595a01bcc5956f5a021eae36b10c5004beafa3448e1", func := "voxsat/voxsattop.TopDesk", spec := "topDesk", inPlace := ["math/bits.Add64"], unfollowed := true, recurses := true, named := ["voxsat/quant.width", "voxsat/pitch.gains", "voxsat/dual.roots"], apart := false, laid := [("voxsat/dual.roots", laid_voxsat_dual_roots), ("voxsat/pitch.gains", laid_voxsat_pitch_gains), ("voxsat/quant.width", laid_voxsat_quant_width)] }
def TopDeskSaid : Prop := topDeskRow.holds Tryd.pinned (OpenSpec.ofChange topDeskSpec)

/-- ITS FALSE NEIGHBOUR: 'it returns false'. Refute it at one input. -/
def topDeskWrong : ChangeSpec := { name := "topDesk", fn := fun _ => fun
  | [d1, d2] => { results := [.lit (.bool false)], args := [d1, d2] }
  | _ => none }
def TopDeskWrongFalsely : Prop := topDeskRow.holds Tryd.pinned (OpenSpec.ofChange topDeskWrong)

/- THE SECOND FORM. 'bulk': how many values and letters a reading holds, each counted each time it is reached (what is shared counts as often as it is met; a slice's spare places count too). A statement '..UptoSaid' is the law's where the arguments, and the package variables that the reading takes, are together of bulk at most 1048576: NARROWER than '..Said'. Prove '..Said' where nothing that the law and all that it calls make is longer than what came in: it says more and counts as full. Else prove '..UptoSaid'. A law counts once. -/
mutual
def uptoBulk {H : Type} : DataW H → Nat
  | .lit (.string bytes) => bytes.length + 1
  | .lit _ => 1
  | .nil => 1
  | .ptr d => uptoBulk d + 1
  | .slice elems spare => uptoBulkAll elems + uptoBulkAll spare + 1
  | .agg parts => uptoBulkAll parts + 1
  | .iface _ d => uptoBulk d + 1
  | .map entries => uptoBulkEntries entries + 1
  | .held _ => 1
def uptoBulkAll {H : Type} : List (DataW H) → Nat
  | [] => 0
  | d :: r => uptoBulk d + uptoBulkAll r
def uptoBulkEntries {H : Type} : List (Lit × DataW H) → Nat
  | [] => 0
  | x :: r => uptoBulkEntry x + uptoBulkEntries r
def uptoBulkEntry {H : Type} : Lit × DataW H → Nat
  | (.string bytes, d) => bytes.length + uptoBulk d + 1
  | (_, d) => uptoBulk d + 1
 end
def uptoSmall : (H : Type) → List (DataW H) → Bool := fun _ ds => decide (uptoBulkAll ds ≤ 1048576)
def OpenSpec.upto (s : _root_.Go.ChangeSpec) : _root_.Go.OpenSpec := { _root_.Go.OpenSpec.ofChange s with cond := some uptoSmall }

/-- 'voxsattop.TopSync', WHERE WHAT IT READS IS OF BULK AT MOST 1048576: true; the input reads as it did. -/
def topSyncUptoRow : OpenClaim := { program := "ythoiikkjjaldnaadoor", sum := "53b5e7ed0b9b9330ada6c595a01bcc5956f5a021eae36b10c5004beafa3448e1", func := "voxsat/voxsattop.TopSync", spec := "topSync", inPlace := ["math/bits.Add64"], unfollowed := true, recurses := true, named := ["voxsat/quant.width", "voxsat/pitch.gains", "voxsat/dual.roots"], apart := false, laid := [("voxsat/dual.roots", laid_voxsat_dual_roots), ("voxsat/pitch.gains", laid_voxsat_pitch_gains), ("voxsat/quant.width", laid_voxsat_quant_width)], narrowed := true }
def TopSyncUptoSaid : Prop := topSyncUptoRow.holds Tryd.pinned (OpenSpec.upto topSyncSpec)

/-- 'voxsattop.TopFades', WHERE WHAT IT READS IS OF BULK AT MOST 1048576: true; the input reads as it did. -/
def topFadesUptoRow : OpenClaim := { program := "ythoiikkjjaldnaadoor", sum := "53b5e7ed0b9b9330ada6c595a01bcc5956f5a021eae36b10c5004beafa3448e1", func := "voxsat/voxsattop.TopFades", spec := "topFades", inPlace := ["math/bits.Add64"], unfollowed := true, recurses := true, named := ["voxsat/quant.width", "voxsat/pitch.gains", "voxsat/dual.roots"], apart := false, laid := [("voxsat/dual.roots", laid_voxsat_dual_roots), ("voxsat/pitch.gains", laid_voxsat_pitch_gains), ("voxsat/quant.width", laid_voxsat_quant_width)], narrowed := true }
def TopFadesUptoSaid : Prop := topFadesUptoRow.holds Tryd.pinned (OpenSpec.upto topFadesSpec)

/-- 'voxsattop.TopLone', WHERE WHAT IT READS IS OF BULK AT MOST 1048576: true; the input reads as it did. -/
def topLoneUptoRow : OpenClaim := { program := "ythoiikkjjaldnaadoor", sum := "53b5e7ed0b9b9330ada6c595a01bcc5956f5a021eae36b10c5004beafa3448e1", func := "voxsat/voxsattop.TopLone", spec := "topLone", inPlace := ["math/bits.Add64"], unfollowed := true, recurses := true, named := ["voxsat/quant.width", "voxsat/pitch.gains", "voxsat/dual.roots"], apart := false, laid := [("voxsat/dual.roots", laid_voxsat_dual_roots), ("voxsat/pitch.gains", laid_voxsat_pitch_gains), ("voxsat/quant.width", laid_voxsat_quant_width)], narrowed := true }
def TopLoneUptoSaid : Prop := topLoneUptoRow.holds Tryd.pinned (OpenSpec.upto topLoneSpec)

/-- 'voxsattop.TopDesk', WHERE WHAT IT READS IS OF BULK AT MOST 1048576: true; the input reads as it did. -/
def topDeskUptoRow : OpenClaim := { program := "ythoiikkjjaldnaadoor", sum := "53b5e7ed0b9b9330ada6c595a01bcc5956f5a021eae36b10c5004beafa3448e1", func := "voxsat/voxsattop.TopDesk", spec := "topDesk", inPlace := ["math/bits.Add64"], unfollowed := true, recurses := true, named := ["voxsat/quant.width", "voxsat/pitch.gains", "voxsat/dual.roots"], apart := false, laid := [("voxsat/dual.roots", laid_voxsat_dual_roots), ("voxsat/pitch.gains", laid_voxsat_pitch_gains), ("voxsat/quant.width", laid_voxsat_quant_width)], narrowed := true }
def TopDeskUptoSaid : Prop := topDeskUptoRow.holds Tryd.pinned (OpenSpec.upto topDeskSpec)

end Rows
end Go.Proofs.YthoiikkjjaldnaaDoor
