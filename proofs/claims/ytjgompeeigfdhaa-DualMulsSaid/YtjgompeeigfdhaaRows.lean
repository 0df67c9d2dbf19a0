/-
  No cell of these rows narrows 'for every input' (looked for: loops, veiled, ifaces, maps, wideKeys, modest, calm, conditions, laid).
  DERIVED. THE GIVEN ROWS OF THIS SEAT. 11 by the template 'for every input the law returns true; each argument reads behind the call as it read before'; 0 by the template 'total and deterministic' (their statements: YtjgompeeigfdhaaTotals.lean).
  GIVEN WITH THE SEED: the statements are not yours to turn. If you find one false, say at which input.
  Laid BY PROGRAM, IN A SANDBOX (cutbox-rows.mjs): the forced cells as the released guide's own fill.sh prints them over the translation 4a3ac6834ce3b957… (all of the seat's roots in one cut). By AI agents, Wed Nov 11 2026. No macro, syntax, notation, axiom, sorry.
-/
import Derived.Test.YtjgompeeigfdhaaChecked
import GoSem.Claim
import GoSem.ClaimJoined
import GoSem.ClaimMapViews
import Derived.JoinedTies
import Derived.KernelRfl
namespace Go.Proofs.Ytjgompeeigfdhaa
/- THE CELL 'sum', in the pinned program and in every row, IS THE sha256 OF THE DUMP (.gsa) THAT YtjgompeeigfdhaaProg.lean LOADS. Nothing in Lean hashes anything: it is a label: what it is worth is what the hold of that sum in a sandbox is worth. -/
noncomputable def Try.pinned : Pinned := { name := "ytjgompeeigfdhaa", sum := "4a3ac6834ce3b9579f190edb15b018ddd5ab70a5c9c73bf01b1b60d0db19be83", checked := Try.checked }
namespace Rows
def none {H : Type} : Left H := { results := [], args := [] }

/-- 'voxsatlaw.Names': WHATEVER THE INPUT: true; the input reads as it did. -/
def namesSpec : ChangeSpec := { name := "names", fn := fun _ => fun
  | [] => { results := [.lit (.bool true)], args := [] }
  | _ => none }
def namesRow : OpenClaim := { program := "ytjgompeeigfdhaa", sum := "4a3ac6834ce3b9579f190edb15b018ddd5ab70a5c9c73bf01b1b60d0db19be83", func := "voxsat/voxsatlaw.Names", spec := "names", apart := false }
def NamesSaid : Prop := namesRow.holds Try.pinned (OpenSpec.ofChange namesSpec)

/-- ITS FALSE NEIGHBOUR: 'it returns false'. Refute it at one input. -/
def namesWrong : ChangeSpec := { name := "names", fn := fun _ => fun
  | [] => { results := [.lit (.bool false)], args := [] }
  | _ => none }
def NamesWrongFalsely : Prop := namesRow.holds Try.pinned (OpenSpec.ofChange namesWrong)

/-- 'voxsatlaw.BasicSats': WHATEVER THE INPUT: true; the input reads as it did. -/
def basicSatsSpec : ChangeSpec := { name := "basicSats", fn := fun _ => fun
  | [d] => { results := [.lit (.bool true)], args := [d] }
  | _ => none }
def basicSatsRow : OpenClaim := { program := "ytjgompeeigfdhaa", sum := "4a3ac6834ce3b9579f190edb15b018ddd5ab70a5c9c73bf01b1b60d0db19be83", func := "voxsat/voxsatlaw.BasicSats", spec := "basicSats", apart := false }
def BasicSatsSaid : Prop := basicSatsRow.holds Try.pinned (OpenSpec.ofChange basicSatsSpec)

/-- ITS FALSE NEIGHBOUR: 'it returns false'. Refute it at one input. -/
def basicSatsWrong : ChangeSpec := { name := "basicSats", fn := fun _ => fun
  | [d] => { results := [.lit (.bool false)], args := [d] }
  | _ => none }
def BasicSatsWrongFalsely : Prop := basicSatsRow.holds Try.pinned (OpenSpec.ofChange basicSatsWrong)

/-- 'voxsatlaw.BasicDoes': WHATEVER THE INPUT: true; the input reads as it did. -/
def basicDoesSpec : ChangeSpec := { name := "basicDoes", fn := fun _ => fun
  | [d1, d2, d3, d4] => { results := [.lit (.bool true)], args := [d1, d2, d3, d4] }
  | _ => none }
def basicDoesRow : OpenClaim := { program := "ytjgompeeigfdhaa", sum := "4a3ac6834ce3b9579f190edb15b018ddd5ab70a5c9c73bf01b1b60d0db19be83", func := "voxsat/voxsatlaw.BasicDoes", spec := "basicDoes", unfollowed := true, recurses := true, apart := false }
def BasicDoesSaid : Prop := basicDoesRow.holds Try.pinned (OpenSpec.ofChange basicDoesSpec)

/-- ITS FALSE NEIGHBOUR: 'it returns false'. Refute it at one input. -/
def basicDoesWrong : ChangeSpec := { name := "basicDoes", fn := fun _ => fun
  | [d1, d2, d3, d4] => { results := [.lit (.bool false)], args := [d1, d2, d3, d4] }
  | _ => none }
def BasicDoesWrongFalsely : Prop := basicDoesRow.holds Try.pinned (OpenSpec.ofChange basicDoesWrong)

/-- 'voxsatlaw.BasicNorms': WHATEVER THE INPUT: true; the input reads as it did. -/
def basicNormsSpec : ChangeSpec := { name := "basicNorms", fn := fun _ => fun
  | [d] => { results := [.lit (.bool true)], args := [d] }
  | _ => none }
def basicNormsRow : OpenClaim := { program := "ytjgompeeigfdhaa", sum := "4a3ac6834ce3b9579f190edb15b018ddd5ab70a5c9c73bf01b1b60d0db19be83", func := "voxsat/voxsatlaw.BasicNorms", spec := "basicNorms", apart := false }
def BasicNormsSaid : Prop := basicNormsRow.holds Try.pinned (OpenSpec.ofChange basicNormsSpec)

/-- ITS FALSE NEIGHBOUR: 'it returns false'. Refute it at one input. -/
def basicNormsWrong : ChangeSpec := { name := "basicNorms", fn := fun _ => fun
  | [d] => { results := [.lit (.bool false)], args := [d] }
  | _ => none }
def BasicNormsWrongFalsely : Prop := basicNormsRow.holds Try.pinned (OpenSpec.ofChange basicNormsWrong)

/-- 'voxsatlaw.BasicBetters': WHATEVER THE INPUT: true; the input reads as it did. -/
def basicBettersSpec : ChangeSpec := { name := "basicBetters", fn := fun _ => fun
  | [d1, d2, d3, d4] => { results := [.lit (.bool true)], args := [d1, d2, d3, d4] }
  | _ => none }
def basicBettersRow : OpenClaim := { program := "ytjgompeeigfdhaa", sum := "4a3ac6834ce3b9579f190edb15b018ddd5ab70a5c9c73bf01b1b60d0db19be83", func := "voxsat/voxsatlaw.BasicBetters", spec := "basicBetters", inPlace := ["math/bits.Add64"], apart := false }
def BasicBettersSaid : Prop := basicBettersRow.holds Try.pinned (OpenSpec.ofChange basicBettersSpec)

/-- ITS FALSE NEIGHBOUR: 'it returns false'. Refute it at one input. -/
def basicBettersWrong : ChangeSpec := { name := "basicBetters", fn := fun _ => fun
  | [d1, d2, d3, d4] => { results := [.lit (.bool false)], args := [d1, d2, d3, d4] }
  | _ => none }
def BasicBettersWrongFalsely : Prop := basicBettersRow.holds Try.pinned (OpenSpec.ofChange basicBettersWrong)

/-- 'voxsatlaw.DualRoots': WHATEVER THE INPUT: true; the input reads as it did. -/
def dualRootsSpec : ChangeSpec := { name := "dualRoots", fn := fun _ => fun
  | [d] => { results := [.lit (.bool true)], args := [d] }
  | _ => none }
def dualRootsRow : OpenClaim := { program := "ytjgompeeigfdhaa", sum := "4a3ac6834ce3b9579f190edb15b018ddd5ab70a5c9c73bf01b1b60d0db19be83", func := "voxsat/voxsatlaw.DualRoots", spec := "dualRoots", apart := false }
def DualRootsSaid : Prop := dualRootsRow.holds Try.pinned (OpenSpec.ofChange dualRootsSpec)

/-- ITS FALSE NEIGHBOUR: 'it returns false'. Refute it at one input. -/
def dualRootsWrong : ChangeSpec := { name := "dualRoots", fn := fun _ => fun
  | [d] => { results := [.lit (.bool false)], args := [d] }
  | _ => none }
def DualRootsWrongFalsely : Prop := dualRootsRow.holds Try.pinned (OpenSpec.ofChange dualRootsWrong)

/-- 'voxsatlaw.DualDivs': WHATEVER THE INPUT: true; the input reads as it did. -/
def dualDivsSpec : ChangeSpec := { name := "dualDivs", fn := fun _ => fun
  | [d1, d2] => { results := [.lit (.bool true)], args := [d1, d2] }
  | _ => none }
def dualDivsRow : OpenClaim := { program := "ytjgompeeigfdhaa", sum := "4a3ac6834ce3b9579f190edb15b018ddd5ab70a5c9c73bf01b1b60d0db19be83", func := "voxsat/voxsatlaw.DualDivs", spec := "dualDivs", apart := false }
def DualDivsSaid : Prop := dualDivsRow.holds Try.pinned (OpenSpec.ofChange dualDivsSpec)

/-- ITS FALSE NEIGHBOUR: 'it returns false'. Refute it at one input. -/
def dualDivsWrong : ChangeSpec := { name := "dualDivs", fn := fun _ => fun
  | [d1, d2] => { results := [.lit (.bool false)], args := [d1, d2] }
  | _ => none }
def DualDivsWrongFalsely : Prop := dualDivsRow.holds Try.pinned (OpenSpec.ofChange dualDivsWrong)

/-- 'voxsatlaw.DualSplits': WHATEVER THE INPUT: true; the input reads as it did. -/
def dualSplitsSpec : ChangeSpec := { name := "dualSplits", fn := fun _ => fun
  | [d1, d2] => { results := [.lit (.bool true)], args := [d1, d2] }
  | _ => none }
def dualSplitsRow : OpenClaim := { program := "ytjgompeeigfdhaa", sum := "4a3ac6834ce3b9579f190edb15b018ddd5ab70a5c9c73bf01b1b60d0db19be83", func := "voxsat/voxsatlaw.DualSplits", spec := "dualSplits", apart := false }
def DualSplitsSaid : Prop := dualSplitsRow.holds Try.pinned (OpenSpec.ofChange dualSplitsSpec)

/-- ITS FALSE NEIGHBOUR: 'it returns false'. Refute it at one input. -/
def dualSplitsWrong : ChangeSpec := { name := "dualSplits", fn := fun _ => fun
  | [d1, d2] => { results := [.lit (.bool false)], args := [d1, d2] }
  | _ => none }
def DualSplitsWrongFalsely : Prop := dualSplitsRow.holds Try.pinned (OpenSpec.ofChange dualSplitsWrong)

/-- 'voxsatlaw.DualLogs': WHATEVER THE INPUT: true; the input reads as it did. -/
def dualLogsSpec : ChangeSpec := { name := "dualLogs", fn := fun _ => fun
  | [d] => { results := [.lit (.bool true)], args := [d] }
  | _ => none }
def dualLogsRow : OpenClaim := { program := "ytjgompeeigfdhaa", sum := "4a3ac6834ce3b9579f190edb15b018ddd5ab70a5c9c73bf01b1b60d0db19be83", func := "voxsat/voxsatlaw.DualLogs", spec := "dualLogs", apart := false }
def DualLogsSaid : Prop := dualLogsRow.holds Try.pinned (OpenSpec.ofChange dualLogsSpec)

/-- ITS FALSE NEIGHBOUR: 'it returns false'. Refute it at one input. -/
def dualLogsWrong : ChangeSpec := { name := "dualLogs", fn := fun _ => fun
  | [d] => { results := [.lit (.bool false)], args := [d] }
  | _ => none }
def DualLogsWrongFalsely : Prop := dualLogsRow.holds Try.pinned (OpenSpec.ofChange dualLogsWrong)

/-- 'voxsatlaw.DualMuls': WHATEVER THE INPUT: true; the input reads as it did. -/
def dualMulsSpec : ChangeSpec := { name := "dualMuls", fn := fun _ => fun
  | [d1, d2] => { results := [.lit (.bool true)], args := [d1, d2] }
  | _ => none }
def dualMulsRow : OpenClaim := { program := "ytjgompeeigfdhaa", sum := "4a3ac6834ce3b9579f190edb15b018ddd5ab70a5c9c73bf01b1b60d0db19be83", func := "voxsat/voxsatlaw.DualMuls", spec := "dualMuls", unfollowed := true, recurses := true, apart := false }
def DualMulsSaid : Prop := dualMulsRow.holds Try.pinned (OpenSpec.ofChange dualMulsSpec)

/-- ITS FALSE NEIGHBOUR: 'it returns false'. Refute it at one input. -/
def dualMulsWrong : ChangeSpec := { name := "dualMuls", fn := fun _ => fun
  | [d1, d2] => { results := [.lit (.bool false)], args := [d1, d2] }
  | _ => none }
def DualMulsWrongFalsely : Prop := dualMulsRow.holds Try.pinned (OpenSpec.ofChange dualMulsWrong)

/-- 'voxsatlaw.FrontWeights': WHATEVER THE INPUT: true; the input reads as it did. -/
def frontWeightsSpec : ChangeSpec := { name := "frontWeights", fn := fun _ => fun
  | [d] => { results := [.lit (.bool true)], args := [d] }
  | _ => none }
def frontWeightsRow : OpenClaim := { program := "ytjgompeeigfdhaa", sum := "4a3ac6834ce3b9579f190edb15b018ddd5ab70a5c9c73bf01b1b60d0db19be83", func := "voxsat/voxsatlaw.FrontWeights", spec := "frontWeights", recurses := true, apart := false }
def FrontWeightsSaid : Prop := frontWeightsRow.holds Try.pinned (OpenSpec.ofChange frontWeightsSpec)

/-- ITS FALSE NEIGHBOUR: 'it returns false'. Refute it at one input. -/
def frontWeightsWrong : ChangeSpec := { name := "frontWeights", fn := fun _ => fun
  | [d] => { results := [.lit (.bool false)], args := [d] }
  | _ => none }
def FrontWeightsWrongFalsely : Prop := frontWeightsRow.holds Try.pinned (OpenSpec.ofChange frontWeightsWrong)

/- THE SECOND FORM. 'bulk': how many values and letters a reading holds, each counted each time it is reached (what is shared counts as often as it is met; a slice's spare places count too). A statement '..UptoSaid' is the law's where the arguments, and the package variables that the reading takes, are together of bulk at most 1048576: NARROWER than '..Said'. Prove '..Said' where nothing that the law and all that it calls make is longer than what came in: it says more and counts as full. Else prove '..UptoSaid'. A law counts once. -/
mutual
def uptoBulk {H : Type} : DataW H → Nat
  | .lit (.string bytes) => bytes.length + 1
  | .lit _ => 1
  | .nil => 1
  | .ptr d => uptoBulk d + 1
  | .slice elems spare => uptoBulkAll elems + uptoBulkAll spare + 1
  | .agg parts => uptoBulkAll parts + 1
  | .iface _ d => uptoBulk d + 1
  | .map entries => uptoBulkEntries entries + 1
  | .held _ => 1
def uptoBulkAll {H : Type} : List (DataW H) → Nat
  | [] => 0
  | d :: r => uptoBulk d + uptoBulkAll r
def uptoBulkEntries {H : Type} : List (Lit × DataW H) → Nat
  | [] => 0
  | x :: r => uptoBulkEntry x + uptoBulkEntries r
def uptoBulkEntry {H : Type} : Lit × DataW H → Nat
  | (.string bytes, d) => bytes.length + uptoBulk d + 1
  | (_, d) => uptoBulk d + 1
 end
def uptoSmall : (H : Type) → List (DataW H) → Bool := fun _ ds => decide (uptoBulkAll ds ≤ 1048576)
def OpenSpec.upto (s : _root_.Go.ChangeSpec) : _root_.Go.OpenSpec := { _root_.Go.OpenSpec.ofChange s with cond := some uptoSmall }

/-- 'voxsatlaw.Names', WHERE WHAT IT READS IS OF BULK AT MOST 1048576: true; the input reads as it did. -/
def namesUptoRow : OpenClaim := { program := "ytjgompeeigfdhaa", sum := "4a3ac6834ce3b9579f190edb15b018ddd5ab70a5c9c73bf01b1b60d0db19be83", func := "voxsat/voxsatlaw.Names", spec := "names", apart := false, narrowed := true }
def NamesUptoSaid : Prop := namesUptoRow.holds Try.pinned (OpenSpec.upto namesSpec)

/-- 'voxsatlaw.BasicSats', WHERE WHAT IT READS IS OF BULK AT MOST 1048576: true; the input reads as it did. -/
def basicSatsUptoRow : OpenClaim := { program := "ytjgompeeigfdhaa", sum := "4a3ac6834ce3b9579f190edb15b018ddd5ab70a5c9c73bf01b1b60d0db19be83", func := "voxsat/voxsatlaw.BasicSats", spec := "basicSats", apart := false, narrowed := true }
def BasicSatsUptoSaid : Prop := basicSatsUptoRow.holds Try.pinned (OpenSpec.upto basicSatsSpec)

/-- 'voxsatlaw.BasicDoes', WHERE WHAT IT READS IS OF BULK AT MOST 1048576: true; the input reads as it did. -/
def basicDoesUptoRow : OpenClaim := { program := "ytjgompeeigfdhaa", sum := "4a3ac6834ce3b9579f190edb15b018ddd5ab70a5c9c73bf01b1b60d0db19be83", func := "voxsat/voxsatlaw.BasicDoes", spec := "basicDoes", unfollowed := true, recurses := true, apart := false, narrowed := true }
def BasicDoesUptoSaid : Prop := basicDoesUptoRow.holds Try.pinned (OpenSpec.upto basicDoesSpec)

/-- 'voxsatlaw.BasicNorms', WHERE WHAT IT READS IS OF BULK AT MOST 1048576: true; the input reads as it did. -/
def basicNormsUptoRow : OpenClaim := { program := "ytjgompeeigfdhaa", sum := "4a3ac6834ce3b9579f190edb15b018ddd5ab70a5c9c73bf01b1b60d0db19be83", func := "voxsat/voxsatlaw.BasicNorms", spec := "basicNorms", apart := false, narrowed := true }
def BasicNormsUptoSaid : Prop := basicNormsUptoRow.holds Try.pinned (OpenSpec.upto basicNormsSpec)

/-- 'voxsatlaw.BasicBetters', WHERE WHAT IT READS IS OF BULK AT MOST 1048576: true; the input reads as it did. -/
def basicBettersUptoRow : OpenClaim := { program := "ytjgompeeigfdhaa", sum := "4a3ac6834ce3b9579f190edb15b018ddd5ab70a5c9c73bf01b1b60d0db19be83", func := "voxsat/voxsatlaw.BasicBetters", spec := "basicBetters", inPlace := ["math/bits.Add64"], apart := false, narrowed := true }
def BasicBettersUptoSaid : Prop := basicBettersUptoRow.holds Try.pinned (OpenSpec.upto basicBettersSpec)

/-- 'voxsatlaw.DualRoots', WHERE WHAT IT READS IS OF BULK AT MOST 1048576: true; the input reads as it did. -/
def dualRootsUptoRow : OpenClaim := { program := "ytjgompeeigfdhaa", sum := "4a3ac6834ce3b9579f190edb15b018ddd5ab70a5c9c73bf01b1b60d0db19be83", func := "voxsat/voxsatlaw.DualRoots", spec := "dualRoots", apart := false, narrowed := true }
def DualRootsUptoSaid : Prop := dualRootsUptoRow.holds Try.pinned (OpenSpec.upto dualRootsSpec)

/-- 'voxsatlaw.DualDivs', WHERE WHAT IT READS IS OF BULK AT MOST 1048576: true; the input reads as it did. -/
def dualDivsUptoRow : OpenClaim := { program := "ytjgompeeigfdhaa", sum := "4a3ac6834ce3b9579f190edb15b018ddd5ab70a5c9c73bf01b1b60d0db19be83", func := "voxsat/voxsatlaw.DualDivs", spec := "dualDivs", apart := false, narrowed := true }
def DualDivsUptoSaid : Prop := dualDivsUptoRow.holds Try.pinned (OpenSpec.upto dualDivsSpec)

/-- 'voxsatlaw.DualSplits', WHERE WHAT IT READS IS OF BULK AT MOST 1048576: true; the input reads as it did. -/
def dualSplitsUptoRow : OpenClaim := { program := "ytjgompeeigfdhaa", sum := "4a3ac6834ce3b9579f190edb15b018ddd5ab70a5c9c73bf01b1b60d0db19be83", func := "voxsat/voxsatlaw.DualSplits", spec := "dualSplits", apart := false, narrowed := true }
def DualSplitsUptoSaid : Prop := dualSplitsUptoRow.holds Try.pinned (OpenSpec.upto dualSplitsSpec)

/-- 'voxsatlaw.DualLogs', WHERE WHAT IT READS IS OF BULK AT MOST 1048576: true; the input reads as it did. -/
def dualLogsUptoRow : OpenClaim := { program := "ytjgompeeigfdhaa", sum := "4a3ac6834ce3b9579f190edb15b018ddd5ab70a5c9c73bf01b1b60d0db19be83", func := "voxsat/voxsatlaw.DualLogs", spec := "dualLogs", apart := false, narrowed := true }
def DualLogsUptoSaid : Prop := dualLogsUptoRow.holds Try.pinned (OpenSpec.upto dualLogsSpec)

/-- 'voxsatlaw.DualMuls', WHERE WHAT IT READS IS OF BULK AT MOST 1048576: true; the input reads as it did. -/
def dualMulsUptoRow : OpenClaim := { program := "ytjgompeeigfdhaa", sum := "4a3ac6834ce3b9579f190edb15b018ddd5ab70a5c9c73bf01b1b60d0db19be83", func := "voxsat/voxsatlaw.DualMuls", spec := "dualMuls", unfollowed := true, recurses := true, apart := false, narrowed := true }
def DualMulsUptoSaid : Prop := dualMulsUptoRow.holds Try.pinned (OpenSpec.upto dualMulsSpec)

/-- 'voxsatlaw.FrontWeights', WHERE WHAT IT READS IS OF BULK AT MOST 1048576: true; the input reads as it did. -/
def frontWeightsUptoRow : OpenClaim := { program := "ytjgompeeigfdhaa", sum := "4a3ac6834ce3b9579f190edb15b018ddd5ab70a5c9c73bf01b1b60d0db19be83", func := "voxsat/voxsatlaw.FrontWeights", spec := "frontWeights", recurses := true, apart := false, narrowed := true }
def FrontWeightsUptoSaid : Prop := frontWeightsUptoRow.holds Try.pinned (OpenSpec.upto frontWeightsSpec)

end Rows
end Go.Proofs.Ytjgompeeigfdhaa
