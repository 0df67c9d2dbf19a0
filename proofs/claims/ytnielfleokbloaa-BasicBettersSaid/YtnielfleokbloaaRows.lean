/-
  No cell of these rows narrows 'for every input' (looked for: loops, veiled, ifaces, maps, wideKeys, modest, calm, conditions, laid).
  DERIVED. THE GIVEN ROWS OF THIS SEAT. 3 by the template 'for every input the law returns true; each argument reads behind the call as it read before'; 0 by the template 'total and deterministic' (their statements: YtnielfleokbloaaTotals.lean).
  GIVEN WITH THE SEED: the statements are not yours to turn. If you find one false, say at which input.
  Laid BY PROGRAM, IN A SANDBOX (cutbox-rows.mjs): the forced cells as the released guide's own fill.sh prints them over the translation 1877cda96ce4196c… (all of the seat's roots in one cut). By AI agents, Wed Nov 11 2026. No macro, syntax, notation, axiom, sorry.
-/
import Derived.Test.YtnielfleokbloaaChecked
import GoSem.Claim
import GoSem.ClaimJoined
import GoSem.ClaimMapViews
import Derived.JoinedTies
import Derived.KernelRfl
namespace Go.Proofs.Ytnielfleokbloaa
/- THE CELL 'sum', in the pinned program and in every row, IS THE sha256 OF THE DUMP (.gsa) THAT YtnielfleokbloaaProg.lean LOADS. Nothing in Lean hashes anything: it is a label: what it is worth is what the hold of that sum in a sandbox is worth. -/
noncomputable def Try.pinned : Pinned := { name := "ytnielfleokbloaa", sum := "1877cda96ce4196cc07dbef511a66246306b447684e78746b66604e3a33a0767", checked := Try.checked }
namespace Rows
def none {H : Type} : Left H := { results := [], args := [] }

/-- 'voxsatlaw.BasicBetters': WHATEVER THE INPUT: true; the input reads as it did. -/
def basicBettersSpec : ChangeSpec := { name := "basicBetters", fn := fun _ => fun
  | [d1, d2, d3, d4] => { results := [.lit (.bool true)], args := [d1, d2, d3, d4] }
  | _ => none }
def basicBettersRow : OpenClaim := { program := "ytnielfleokbloaa", sum := "1877cda96ce4196cc07dbef511a66246306b447684e78746b66604e3a33a0767", func := "voxsat/voxsatlaw.BasicBetters", spec := "basicBetters", inPlace := ["math/bits.Add64"], apart := false }
def BasicBettersSaid : Prop := basicBettersRow.holds Try.pinned (OpenSpec.ofChange basicBettersSpec)

/-- ITS FALSE NEIGHBOUR: 'it returns false'. Refute it at one input. -/
def basicBettersWrong : ChangeSpec := { name := "basicBetters", fn := fun _ => fun
  | [d1, d2, d3, d4] => { results := [.lit (.bool false)], args := [d1, d2, d3, d4] }
  | _ => none }
def BasicBettersWrongFalsely : Prop := basicBettersRow.holds Try.pinned (OpenSpec.ofChange basicBettersWrong)

/-- 'voxsatlaw.DualRoots': WHATEVER THE INPUT: true; the input reads as it did. -/
def dualRootsSpec : ChangeSpec := { name := "dualRoots", fn := fun _ => fun
  | [d] => { results := [.lit (.bool true)], args := [d] }
  | _ => none }
def dualRootsRow : OpenClaim := { program := "ytnielfleokbloaa", sum := "1877cda96ce4196cc07dbef511a66246306b447684e78746b66604e3a33a0767", func := "voxsat/voxsatlaw.DualRoots", spec := "dualRoots", apart := false }
def DualRootsSaid : Prop := dualRootsRow.holds Try.pinned (OpenSpec.ofChange dualRootsSpec)

/-- ITS FALSE NEIGHBOUR: 'it returns false'. Refute it at one input. -/
def dualRootsWrong : ChangeSpec := { name := "dualRoots", fn := fun _ => fun
  | [d] => { results := [.lit (.bool false)], args := [d] }
  | _ => none }
def DualRootsWrongFalsely : Prop := dualRootsRow.holds Try.pinned (OpenSpec.ofChange dualRootsWrong)

/-- 'voxsatlaw.ConcealSilents': WHATEVER THE INPUT: true; the input reads as it did. -/
def concealSilentsSpec : ChangeSpec := { name := "concealSilents", fn := fun _ => fun
  | [d] => { results := [.lit (.bool true)], args := [d] }
  | _ => none }
def concealSilentsRow : OpenClaim := { program := "ytnielfleokbloaa", sum := "1877cda96ce4196cc07dbef511a66246306b447684e78746b66604e3a33a0767", func := "voxsat/voxsatlaw.ConcealSilents", spec := "concealSilents", unfollowed := true, recurses := true, apart := false }
def ConcealSilentsSaid : Prop := concealSilentsRow.holds Try.pinned (OpenSpec.ofChange concealSilentsSpec)

/-- ITS FALSE NEIGHBOUR: 'it returns false'. Refute it at one input. -/
def concealSilentsWrong : ChangeSpec := { name := "concealSilents", fn := fun _ => fun
  | [d] => { results := [.lit (.bool false)], args := [d] }
  | _ => none }
def ConcealSilentsWrongFalsely : Prop := concealSilentsRow.holds Try.pinned (OpenSpec.ofChange concealSilentsWrong)

/- THE SECOND FORM. 'bulk': how many values and letters a reading holds, each counted each time it is reached (what is shared counts as often as it is met; a slice's spare places count too). A statement '..UptoSaid' is the law's where the arguments, and the package variables that the reading takes, are together of bulk at most 1048576: NARROWER than '..Said'. Prove '..Said' where nothing that the law and all that it calls make is longer than what came in: it says more and counts as full. Else prove '..UptoSaid'. A law counts once. -/
mutual
def uptoBulk {H : Type} : DataW H → Nat
  | .lit (.string bytes) => bytes.length + 1
  | .lit _ => 1
  | .nil => 1
  | .ptr d => uptoBulk d + 1
  | .slice elems spare => uptoBulkAll elems + uptoBulkAll spare + 1
  | .agg parts => uptoBulkAll parts + 1
  | .iface _ d => uptoBulk d + 1
  | .map entries => uptoBulkEntries entries + 1
  | .held _ => 1
def uptoBulkAll {H : Type} : List (DataW H) → Nat
  | [] => 0
  | d :: r => uptoBulk d + uptoBulkAll r
def uptoBulkEntries {H : Type} : List (Lit × DataW H) → Nat
  | [] => 0
  | x :: r => uptoBulkEntry x + uptoBulkEntries r
def uptoBulkEntry {H : Type} : Lit × DataW H → Nat
  | (.string bytes, d) => bytes.length + uptoBulk d + 1
  | (_, d) => uptoBulk d + 1
 end
def uptoSmall : (H : Type) → List (DataW H) → Bool := fun _ ds => decide (uptoBulkAll ds ≤ 1048576)
def OpenSpec.upto (s : _root_.Go.ChangeSpec) : _root_.Go.OpenSpec := { _root_.Go.OpenSpec.ofChange s with cond := some uptoSmall }

/-- 'voxsatlaw.BasicBetters', WHERE WHAT IT READS IS OF BULK AT MOST 1048576: true; the input reads as it did. -/
def basicBettersUptoRow : OpenClaim := { program := "ytnielfleokbloaa", sum := "1877cda96ce4196cc07dbef511a66246306b447684e78746b66604e3a33a0767", func := "voxsat/voxsatlaw.BasicBetters", spec := "basicBetters", inPlace := ["math/bits.Add64"], apart := false, narrowed := true }
def BasicBettersUptoSaid : Prop := basicBettersUptoRow.holds Try.pinned (OpenSpec.upto basicBettersSpec)

/-- 'voxsatlaw.DualRoots', WHERE WHAT IT READS IS OF BULK AT MOST 1048576: true; the input reads as it did. -/
def dualRootsUptoRow : OpenClaim := { program := "ytnielfleokbloaa", sum := "1877cda96ce4196cc07dbef511a66246306b447684e78746b66604e3a33a0767", func := "voxsat/voxsatlaw.DualRoots", spec := "dualRoots", apart := false, narrowed := true }
def DualRootsUptoSaid : Prop := dualRootsUptoRow.holds Try.pinned (OpenSpec.upto dualRootsSpec)

/-- 'voxsatlaw.ConcealSilents', WHERE WHAT IT READS IS OF BULK AT MOST 1048576: true; the input reads as it did. -/
def concealSilentsUptoRow : OpenClaim := { program := "ytnielfleokbloaa", sum := "1877cda96ce4196cc07dbef511a66246306b447684e78746b66604e3a33a0767", func := "voxsat/voxsatlaw.ConcealSilents", spec := "concealSilents", unfollowed := true, recurses := true, apart := false, narrowed := true }
def ConcealSilentsUptoSaid : Prop := concealSilentsUptoRow.holds Try.pinned (OpenSpec.upto concealSilentsSpec)

end Rows
end Go.Proofs.Ytnielfleokbloaa
