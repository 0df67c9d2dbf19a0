/-
  NARROWER THAN 'FOR EVERY INPUT', by the rows' own cells (each row's printed sentence says how): PackGoods: laid · PackPacks: laid · PackUnpacks: laid.
  DERIVED. THE GIVEN ROWS OF THIS SEAT. 3 by the template 'for every input the law returns true; each argument reads behind the call as it read before'; 0 by the template 'total and deterministic' (their statements: YtnbenmpjpogldaaDoorTotals.lean).
  GIVEN WITH THE SEED: the statements are not yours to turn. If you find one false, say at which input.
  Laid BY PROGRAM, IN A SANDBOX (cutbox-rows.mjs): the forced cells as the released guide's own fill.sh prints them over the translation d10df8da000b2a52… (all of the seat's roots in one cut). By AI agents, Wed Nov 11 2026. No macro, syntax, notation, axiom, sorry.
-/
import Derived.Test.YtnbenmpjpogldaaDoorChecked
import GoSem.Claim
import GoSem.ClaimJoined
import GoSem.ClaimMapViews
import Derived.JoinedTies
import Derived.KernelRfl
namespace Go.Proofs.YtnbenmpjpogldaaDoor
/- THE CELL 'sum', in the pinned program and in every row, IS THE sha256 OF THE DUMP (.gsa) THAT YtnbenmpjpogldaaDoorProg.lean LOADS. Nothing in Lean hashes anything: it is a label: what it is worth is what the hold of that sum in a sandbox is worth. -/
noncomputable def Tryd.pinned : Pinned := { name := "ytnbenmpjpogldaadoor", sum := "d10df8da000b2a52c6c889baa8bf5d22bd6ecd36eee6d13d0a2b722d24875c34", checked := Tryd.checked }
namespace Rows
def none {H : Type} : Left H := { results := [], args := [] }

/- WHAT THE LISTED PACKAGE-LEVEL VARIABLES READ AS WHEN THE CALL BEGINS. Each datum BY PROGRAM (the guide's laid-datum.mjs) off the statement by which the dump's own 'gosem.cut.vars' lays the variable. In a bare row this is a premise. The card (YtnbenmpjpogldaaDoorCards.lean) ties it to the program's text. -/
def laid_voxsat_quant_width {H : Type} : DataW H := .agg [.lit (.int .i64 6), .lit (.int .i64 6), .lit (.int .i64 5), .lit (.int .i64 5), .lit (.int .i64 4), .lit (.int .i64 4), .lit (.int .i64 3), .lit (.int .i64 3)]
def laid_voxsat_voxsatref_widths {H : Type} : DataW H := .slice [.lit (.int .i64 6), .lit (.int .i64 6), .lit (.int .i64 5), .lit (.int .i64 5), .lit (.int .i64 4), .lit (.int .i64 4), .lit (.int .i64 3), .lit (.int .i64 3)] []

/-- 'voxsatlaw.PackGoods': WHATEVER THE INPUT: true; the input reads as it did. -/
def packGoodsSpec : ChangeSpec := { name := "packGoods", fn := fun _ => fun
  | [d] => { results := [.lit (.bool true)], args := [d] }
  | _ => none }
def packGoodsRow : OpenClaim := { program := "ytnbenmpjpogldaadoor", sum := "d10df8da000b2a52c6c889baa8bf5d22bd6ecd36eee6d13d0a2b722d24875c34", func := "voxsat/voxsatlaw.PackGoods", spec := "packGoods", named := ["voxsat/quant.width", "voxsat/voxsatref.widths"], apart := false, laid := [("voxsat/quant.width", laid_voxsat_quant_width), ("voxsat/voxsatref.widths", laid_voxsat_voxsatref_widths)] }
def PackGoodsSaid : Prop := packGoodsRow.holds Tryd.pinned (OpenSpec.ofChange packGoodsSpec)

/-- ITS FALSE NEIGHBOUR: 'it returns false'. Refute it at one input. -/
def packGoodsWrong : ChangeSpec := { name := "packGoods", fn := fun _ => fun
  | [d] => { results := [.lit (.bool false)], args := [d] }
  | _ => none }
def PackGoodsWrongFalsely : Prop := packGoodsRow.holds Tryd.pinned (OpenSpec.ofChange packGoodsWrong)

/-- 'voxsatlaw.PackPacks': WHATEVER THE INPUT: true; the input reads as it did. -/
def packPacksSpec : ChangeSpec := { name := "packPacks", fn := fun _ => fun
  | [d] => { results := [.lit (.bool true)], args := [d] }
  | _ => none }
def packPacksRow : OpenClaim := { program := "ytnbenmpjpogldaadoor", sum := "d10df8da000b2a52c6c889baa8bf5d22bd6ecd36eee6d13d0a2b722d24875c34", func := "voxsat/voxsatlaw.PackPacks", spec := "packPacks", unfollowed := true, recurses := true, named := ["voxsat/quant.width", "voxsat/voxsatref.widths"], apart := false, laid := [("voxsat/quant.width", laid_voxsat_quant_width), ("voxsat/voxsatref.widths", laid_voxsat_voxsatref_widths)] }
def PackPacksSaid : Prop := packPacksRow.holds Tryd.pinned (OpenSpec.ofChange packPacksSpec)

/-- ITS FALSE NEIGHBOUR: 'it returns false'. Refute it at one input. -/
def packPacksWrong : ChangeSpec := { name := "packPacks", fn := fun _ => fun
  | [d] => { results := [.lit (.bool false)], args := [d] }
  | _ => none }
def PackPacksWrongFalsely : Prop := packPacksRow.holds Tryd.pinned (OpenSpec.ofChange packPacksWrong)

/-- 'voxsatlaw.PackUnpacks': WHATEVER THE INPUT: true; the input reads as it did. -/
def packUnpacksSpec : ChangeSpec := { name := "packUnpacks", fn := fun _ => fun
  | [d] => { results := [.lit (.bool true)], args := [d] }
  | _ => none }
def packUnpacksRow : OpenClaim := { program := "ytnbenmpjpogldaadoor", sum := "d10df8da000b2a52c6c889baa8bf5d22bd6ecd36eee6d13d0a2b722d24875c34", func := "voxsat/voxsatlaw.PackUnpacks", spec := "packUnpacks", unfollowed := true, recurses := true, named := ["voxsat/quant.width", "voxsat/voxsatref.widths"], apart := false, laid := [("voxsat/quant.width", laid_voxsat_quant_width), ("voxsat/voxsatref.widths", laid_voxsat_voxsatref_widths)] }
def PackUnpacksSaid : Prop := packUnpacksRow.holds Tryd.pinned (OpenSpec.ofChange packUnpacksSpec)

/-- ITS FALSE NEIGHBOUR: 'it returns false'. Refute it at one input. -/
def packUnpacksWrong : ChangeSpec := { name := "packUnpacks", fn := fun _ => fun
  | [d] => { results := [.lit (.bool false)], args := [d] }
  | _ => none }
def PackUnpacksWrongFalsely : Prop := packUnpacksRow.holds Tryd.pinned (OpenSpec.ofChange packUnpacksWrong)

/- THE SECOND FORM. 'bulk': how many values and letters a reading holds, each counted each time it is reached (what is shared counts as often as it is met; a slice's spare places count too). A statement '..UptoSaid' is the law's where the arguments, and the package variables that the reading takes, are together of bulk at most 1048576: NARROWER than '..Said'. Prove '..Said' where nothing that the law and all that it calls make is longer than what came in: it says more and counts as full. Else prove '..UptoSaid'. A law counts once. -/
mutual
def uptoBulk {H : Type} : DataW H → Nat
  | .lit (.string bytes) => bytes.length + 1
  | .lit _ => 1
  | .nil => 1
  | .ptr d => uptoBulk d + 1
  | .slice elems spare => uptoBulkAll elems + uptoBulkAll spare + 1
  | .agg parts => uptoBulkAll parts + 1
  | .iface _ d => uptoBulk d + 1
  | .map entries => uptoBulkEntries entries + 1
  | .held _ => 1
def uptoBulkAll {H : Type} : List (DataW H) → Nat
  | [] => 0
  | d :: r => uptoBulk d + uptoBulkAll r
def uptoBulkEntries {H : Type} : List (Lit × DataW H) → Nat
  | [] => 0
  | x :: r => uptoBulkEntry x + uptoBulkEntries r
def uptoBulkEntry {H : Type} : Lit × DataW H → Nat
  | (.string bytes, d) => bytes.length + uptoBulk d + 1
  | (_, d) => uptoBulk d + 1
 end
def uptoSmall : (H : Type) → List (DataW H) → Bool := fun _ ds => decide (uptoBulkAll ds ≤ 1048576)
def OpenSpec.upto (s : _root_.Go.ChangeSpec) : _root_.Go.OpenSpec := { _root_.Go.OpenSpec.ofChange s with cond := some uptoSmall }

/-- 'voxsatlaw.PackGoods', WHERE WHAT IT READS IS OF BULK AT MOST 1048576: true; the input reads as it did. -/
def packGoodsUptoRow : OpenClaim := { program := "ytnbenmpjpogldaadoor", sum := "d10df8da000b2a52c6c889baa8bf5d22bd6ecd36eee6d13d0a2b722d24875c34", func := "voxsat/voxsatlaw.PackGoods", spec := "packGoods", named := ["voxsat/quant.width", "voxsat/voxsatref.widths"], apart := false, laid := [("voxsat/quant.width", laid_voxsat_quant_width), ("voxsat/voxsatref.widths", laid_voxsat_voxsatref_widths)], narrowed := true }
def PackGoodsUptoSaid : Prop := packGoodsUptoRow.holds Tryd.pinned (OpenSpec.upto packGoodsSpec)

/-- 'voxsatlaw.PackPacks', WHERE WHAT IT READS IS OF BULK AT MOST 1048576: true; the input reads as it did. -/
def packPacksUptoRow : OpenClaim := { program := "ytnbenmpjpogldaadoor", sum := "d10df8da000b2a52c6c889baa8bf5d22bd6ecd36eee6d13d0a2b722d24875c34", func := "voxsat/voxsatlaw.PackPacks", spec := "packPacks", unfollowed := true, recurses := true, named := ["voxsat/quant.width", "voxsat/voxsatref.widths"], apart := false, laid := [("voxsat/quant.width", laid_voxsat_quant_width), ("voxsat/voxsatref.widths", laid_voxsat_voxsatref_widths)], narrowed := true }
def PackPacksUptoSaid : Prop := packPacksUptoRow.holds Tryd.pinned (OpenSpec.upto packPacksSpec)

/-- 'voxsatlaw.PackUnpacks', WHERE WHAT IT READS IS OF BULK AT MOST 1048576: true; the input reads as it did. -/
def packUnpacksUptoRow : OpenClaim := { program := "ytnbenmpjpogldaadoor", sum := "d10df8da000b2a52c6c889baa8bf5d22bd6ecd36eee6d13d0a2b722d24875c34", func := "voxsat/voxsatlaw.PackUnpacks", spec := "packUnpacks", unfollowed := true, recurses := true, named := ["voxsat/quant.width", "voxsat/voxsatref.widths"], apart := false, laid := [("voxsat/quant.width", laid_voxsat_quant_width), ("voxsat/voxsatref.widths", laid_voxsat_voxsatref_widths)], narrowed := true }
def PackUnpacksUptoSaid : Prop := packUnpacksUptoRow.holds Tryd.pinned (OpenSpec.upto packUnpacksSpec)

end Rows
end Go.Proofs.YtnbenmpjpogldaaDoor
