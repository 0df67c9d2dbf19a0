/-
  No cell of these rows narrows 'for every input' (looked for: loops, veiled, ifaces, maps, wideKeys, modest, calm, conditions, laid).
  DERIVED. THE GIVEN ROWS OF THIS SEAT. 11 by the template 'for every input the law returns true; each argument reads behind the call as it read before'; 0 by the template 'total and deterministic' (their statements: YtniechgbbkkncaaTotals.lean).
  GIVEN WITH THE SEED: the statements are not yours to turn. If you find one false, say at which input.
  Laid BY PROGRAM, IN A SANDBOX (cutbox-rows.mjs): the forced cells as the released guide's own fill.sh prints them over the translation ef438e98a716ea6c… (all of the seat's roots in one cut). By AI agents, Wed Nov 11 2026. No macro, syntax, notation, axiom, sorry.
-/
import Derived.Test.YtniechgbbkkncaaChecked
import GoSem.Claim
import GoSem.ClaimJoined
import GoSem.ClaimMapViews
import Derived.JoinedTies
import Derived.KernelRfl
namespace Go.Proofs.Ytniechgbbkkncaa
/- THE CELL 'sum', in the pinned program and in every row, IS THE sha256 OF THE DUMP (.gsa) THAT YtniechgbbkkncaaProg.lean LOADS. Nothing in Lean hashes anything: it is a label: what it is worth is what the hold of that sum in a sandbox is worth. -/
noncomputable def Try.pinned : Pinned := { name := "ytniechgbbkkncaa", sum := "ef438e98a716ea6c471a1498e5ca16462d6edfe6ea1e3c94c11a813624c47f4a", checked := Try.checked }
namespace Rows
def none {H : Type} : Left H := { results := [], args := [] }

/-- 'voxsatlaw.FrontHighs': WHATEVER THE INPUT: true; the input reads as it did. -/
def frontHighsSpec : ChangeSpec := { name := "frontHighs", fn := fun _ => fun
  | [d1, d2] => { results := [.lit (.bool true)], args := [d1, d2] }
  | _ => none }
def frontHighsRow : OpenClaim := { program := "ytniechgbbkkncaa", sum := "ef438e98a716ea6c471a1498e5ca16462d6edfe6ea1e3c94c11a813624c47f4a", func := "voxsat/voxsatlaw.FrontHighs", spec := "frontHighs", apart := false }
def FrontHighsSaid : Prop := frontHighsRow.holds Try.pinned (OpenSpec.ofChange frontHighsSpec)

/-- ITS FALSE NEIGHBOUR: 'it returns false'. Refute it at one input. -/
def frontHighsWrong : ChangeSpec := { name := "frontHighs", fn := fun _ => fun
  | [d1, d2] => { results := [.lit (.bool false)], args := [d1, d2] }
  | _ => none }
def FrontHighsWrongFalsely : Prop := frontHighsRow.holds Try.pinned (OpenSpec.ofChange frontHighsWrong)

/-- 'voxsatlaw.FrontCorrelates': WHATEVER THE INPUT: true; the input reads as it did. -/
def frontCorrelatesSpec : ChangeSpec := { name := "frontCorrelates", fn := fun _ => fun
  | [d] => { results := [.lit (.bool true)], args := [d] }
  | _ => none }
def frontCorrelatesRow : OpenClaim := { program := "ytniechgbbkkncaa", sum := "ef438e98a716ea6c471a1498e5ca16462d6edfe6ea1e3c94c11a813624c47f4a", func := "voxsat/voxsatlaw.FrontCorrelates", spec := "frontCorrelates", recurses := true, apart := false }
def FrontCorrelatesSaid : Prop := frontCorrelatesRow.holds Try.pinned (OpenSpec.ofChange frontCorrelatesSpec)

/-- ITS FALSE NEIGHBOUR: 'it returns false'. Refute it at one input. -/
def frontCorrelatesWrong : ChangeSpec := { name := "frontCorrelates", fn := fun _ => fun
  | [d] => { results := [.lit (.bool false)], args := [d] }
  | _ => none }
def FrontCorrelatesWrongFalsely : Prop := frontCorrelatesRow.holds Try.pinned (OpenSpec.ofChange frontCorrelatesWrong)

/-- 'voxsatlaw.DualRoots': WHATEVER THE INPUT: true; the input reads as it did. -/
def dualRootsSpec : ChangeSpec := { name := "dualRoots", fn := fun _ => fun
  | [d] => { results := [.lit (.bool true)], args := [d] }
  | _ => none }
def dualRootsRow : OpenClaim := { program := "ytniechgbbkkncaa", sum := "ef438e98a716ea6c471a1498e5ca16462d6edfe6ea1e3c94c11a813624c47f4a", func := "voxsat/voxsatlaw.DualRoots", spec := "dualRoots", apart := false }
def DualRootsSaid : Prop := dualRootsRow.holds Try.pinned (OpenSpec.ofChange dualRootsSpec)

/-- ITS FALSE NEIGHBOUR: 'it returns false'. Refute it at one input. -/
def dualRootsWrong : ChangeSpec := { name := "dualRoots", fn := fun _ => fun
  | [d] => { results := [.lit (.bool false)], args := [d] }
  | _ => none }
def DualRootsWrongFalsely : Prop := dualRootsRow.holds Try.pinned (OpenSpec.ofChange dualRootsWrong)

/-- 'voxsatlaw.ConcealGoods': WHATEVER THE INPUT: true; the input reads as it did. -/
def concealGoodsSpec : ChangeSpec := { name := "concealGoods", fn := fun _ => fun
  | [d] => { results := [.lit (.bool true)], args := [d] }
  | _ => none }
def concealGoodsRow : OpenClaim := { program := "ytniechgbbkkncaa", sum := "ef438e98a716ea6c471a1498e5ca16462d6edfe6ea1e3c94c11a813624c47f4a", func := "voxsat/voxsatlaw.ConcealGoods", spec := "concealGoods", unfollowed := true, recurses := true, apart := false }
def ConcealGoodsSaid : Prop := concealGoodsRow.holds Try.pinned (OpenSpec.ofChange concealGoodsSpec)

/-- ITS FALSE NEIGHBOUR: 'it returns false'. Refute it at one input. -/
def concealGoodsWrong : ChangeSpec := { name := "concealGoods", fn := fun _ => fun
  | [d] => { results := [.lit (.bool false)], args := [d] }
  | _ => none }
def ConcealGoodsWrongFalsely : Prop := concealGoodsRow.holds Try.pinned (OpenSpec.ofChange concealGoodsWrong)

/-- 'voxsatlaw.ConcealSilents': WHATEVER THE INPUT: true; the input reads as it did. -/
def concealSilentsSpec : ChangeSpec := { name := "concealSilents", fn := fun _ => fun
  | [d] => { results := [.lit (.bool true)], args := [d] }
  | _ => none }
def concealSilentsRow : OpenClaim := { program := "ytniechgbbkkncaa", sum := "ef438e98a716ea6c471a1498e5ca16462d6edfe6ea1e3c94c11a813624c47f4a", func := "voxsat/voxsatlaw.ConcealSilents", spec := "concealSilents", unfollowed := true, recurses := true, apart := false }
def ConcealSilentsSaid : Prop := concealSilentsRow.holds Try.pinned (OpenSpec.ofChange concealSilentsSpec)

/-- ITS FALSE NEIGHBOUR: 'it returns false'. Refute it at one input. -/
def concealSilentsWrong : ChangeSpec := { name := "concealSilents", fn := fun _ => fun
  | [d] => { results := [.lit (.bool false)], args := [d] }
  | _ => none }
def ConcealSilentsWrongFalsely : Prop := concealSilentsRow.holds Try.pinned (OpenSpec.ofChange concealSilentsWrong)

/-- 'voxsatlaw.ConcealMixes': WHATEVER THE INPUT: true; the input reads as it did. -/
def concealMixesSpec : ChangeSpec := { name := "concealMixes", fn := fun _ => fun
  | [d1, d2, d3, d4] => { results := [.lit (.bool true)], args := [d1, d2, d3, d4] }
  | _ => none }
def concealMixesRow : OpenClaim := { program := "ytniechgbbkkncaa", sum := "ef438e98a716ea6c471a1498e5ca16462d6edfe6ea1e3c94c11a813624c47f4a", func := "voxsat/voxsatlaw.ConcealMixes", spec := "concealMixes", apart := false }
def ConcealMixesSaid : Prop := concealMixesRow.holds Try.pinned (OpenSpec.ofChange concealMixesSpec)

/-- ITS FALSE NEIGHBOUR: 'it returns false'. Refute it at one input. -/
def concealMixesWrong : ChangeSpec := { name := "concealMixes", fn := fun _ => fun
  | [d1, d2, d3, d4] => { results := [.lit (.bool false)], args := [d1, d2, d3, d4] }
  | _ => none }
def ConcealMixesWrongFalsely : Prop := concealMixesRow.holds Try.pinned (OpenSpec.ofChange concealMixesWrong)

/-- 'voxsatlaw.ConcealErases': WHATEVER THE INPUT: true; the input reads as it did. -/
def concealErasesSpec : ChangeSpec := { name := "concealErases", fn := fun _ => fun
  | [d1, d2] => { results := [.lit (.bool true)], args := [d1, d2] }
  | _ => none }
def concealErasesRow : OpenClaim := { program := "ytniechgbbkkncaa", sum := "ef438e98a716ea6c471a1498e5ca16462d6edfe6ea1e3c94c11a813624c47f4a", func := "voxsat/voxsatlaw.ConcealErases", spec := "concealErases", unfollowed := true, recurses := true, apart := false }
def ConcealErasesSaid : Prop := concealErasesRow.holds Try.pinned (OpenSpec.ofChange concealErasesSpec)

/-- ITS FALSE NEIGHBOUR: 'it returns false'. Refute it at one input. -/
def concealErasesWrong : ChangeSpec := { name := "concealErases", fn := fun _ => fun
  | [d1, d2] => { results := [.lit (.bool false)], args := [d1, d2] }
  | _ => none }
def ConcealErasesWrongFalsely : Prop := concealErasesRow.holds Try.pinned (OpenSpec.ofChange concealErasesWrong)

/-- 'voxsatlaw.PitchPicks': WHATEVER THE INPUT: true; the input reads as it did. -/
def pitchPicksSpec : ChangeSpec := { name := "pitchPicks", fn := fun _ => fun
  | [d1, d2, d3] => { results := [.lit (.bool true)], args := [d1, d2, d3] }
  | _ => none }
def pitchPicksRow : OpenClaim := { program := "ytniechgbbkkncaa", sum := "ef438e98a716ea6c471a1498e5ca16462d6edfe6ea1e3c94c11a813624c47f4a", func := "voxsat/voxsatlaw.PitchPicks", spec := "pitchPicks", inPlace := ["math/bits.Add64"], unfollowed := true, recurses := true, apart := false }
def PitchPicksSaid : Prop := pitchPicksRow.holds Try.pinned (OpenSpec.ofChange pitchPicksSpec)

/-- ITS FALSE NEIGHBOUR: 'it returns false'. Refute it at one input. -/
def pitchPicksWrong : ChangeSpec := { name := "pitchPicks", fn := fun _ => fun
  | [d1, d2, d3] => { results := [.lit (.bool false)], args := [d1, d2, d3] }
  | _ => none }
def PitchPicksWrongFalsely : Prop := pitchPicksRow.holds Try.pinned (OpenSpec.ofChange pitchPicksWrong)

/-- 'voxsatlaw.PulsesScores': WHATEVER THE INPUT: true; the input reads as it did. -/
def pulsesScoresSpec : ChangeSpec := { name := "pulsesScores", fn := fun _ => fun
  | [d1, d2, d3] => { results := [.lit (.bool true)], args := [d1, d2, d3] }
  | _ => none }
def pulsesScoresRow : OpenClaim := { program := "ytniechgbbkkncaa", sum := "ef438e98a716ea6c471a1498e5ca16462d6edfe6ea1e3c94c11a813624c47f4a", func := "voxsat/voxsatlaw.PulsesScores", spec := "pulsesScores", apart := false }
def PulsesScoresSaid : Prop := pulsesScoresRow.holds Try.pinned (OpenSpec.ofChange pulsesScoresSpec)

/-- ITS FALSE NEIGHBOUR: 'it returns false'. Refute it at one input. -/
def pulsesScoresWrong : ChangeSpec := { name := "pulsesScores", fn := fun _ => fun
  | [d1, d2, d3] => { results := [.lit (.bool false)], args := [d1, d2, d3] }
  | _ => none }
def PulsesScoresWrongFalsely : Prop := pulsesScoresRow.holds Try.pinned (OpenSpec.ofChange pulsesScoresWrong)

/-- 'voxsatlaw.PulsesFews': WHATEVER THE INPUT: true; the input reads as it did. -/
def pulsesFewsSpec : ChangeSpec := { name := "pulsesFews", fn := fun _ => fun
  | [d1, d2] => { results := [.lit (.bool true)], args := [d1, d2] }
  | _ => none }
def pulsesFewsRow : OpenClaim := { program := "ytniechgbbkkncaa", sum := "ef438e98a716ea6c471a1498e5ca16462d6edfe6ea1e3c94c11a813624c47f4a", func := "voxsat/voxsatlaw.PulsesFews", spec := "pulsesFews", inPlace := ["math/bits.Add64"], unfollowed := true, recurses := true, apart := false }
def PulsesFewsSaid : Prop := pulsesFewsRow.holds Try.pinned (OpenSpec.ofChange pulsesFewsSpec)

/-- ITS FALSE NEIGHBOUR: 'it returns false'. Refute it at one input. -/
def pulsesFewsWrong : ChangeSpec := { name := "pulsesFews", fn := fun _ => fun
  | [d1, d2] => { results := [.lit (.bool false)], args := [d1, d2] }
  | _ => none }
def PulsesFewsWrongFalsely : Prop := pulsesFewsRow.holds Try.pinned (OpenSpec.ofChange pulsesFewsWrong)

/-- 'voxsatlaw.PulsesAlls': WHATEVER THE INPUT: true; the input reads as it did. -/
def pulsesAllsSpec : ChangeSpec := { name := "pulsesAlls", fn := fun _ => fun
  | [d1, d2] => { results := [.lit (.bool true)], args := [d1, d2] }
  | _ => none }
def pulsesAllsRow : OpenClaim := { program := "ytniechgbbkkncaa", sum := "ef438e98a716ea6c471a1498e5ca16462d6edfe6ea1e3c94c11a813624c47f4a", func := "voxsat/voxsatlaw.PulsesAlls", spec := "pulsesAlls", inPlace := ["math/bits.Add64"], unfollowed := true, recurses := true, apart := false }
def PulsesAllsSaid : Prop := pulsesAllsRow.holds Try.pinned (OpenSpec.ofChange pulsesAllsSpec)

/-- ITS FALSE NEIGHBOUR: 'it returns false'. Refute it at one input. -/
def pulsesAllsWrong : ChangeSpec := { name := "pulsesAlls", fn := fun _ => fun
  | [d1, d2] => { results := [.lit (.bool false)], args := [d1, d2] }
  | _ => none }
def PulsesAllsWrongFalsely : Prop := pulsesAllsRow.holds Try.pinned (OpenSpec.ofChange pulsesAllsWrong)

/- THE SECOND FORM. 'bulk': how many values and letters a reading holds, each counted each time it is reached (what is shared counts as often as it is met; a slice's spare places count too). A statement '..UptoSaid' is the law's where the arguments, and the package variables that the reading takes, are together of bulk at most 1048576: NARROWER than '..Said'. Prove '..Said' where nothing that the law and all that it calls make is longer than what came in: it says more and counts as full. Else prove '..UptoSaid'. A law counts once. -/
mutual
def uptoBulk {H : Type} : DataW H → Nat
  | .lit (.string bytes) => bytes.length + 1
  | .lit _ => 1
  | .nil => 1
  | .ptr d => uptoBulk d + 1
  | .slice elems spare => uptoBulkAll elems + uptoBulkAll spare + 1
  | .agg parts => uptoBulkAll parts + 1
  | .iface _ d => uptoBulk d + 1
  | .map entries => uptoBulkEntries entries + 1
  | .held _ => 1
def uptoBulkAll {H : Type} : List (DataW H) → Nat
  | [] => 0
  | d :: r => uptoBulk d + uptoBulkAll r
def uptoBulkEntries {H : Type} : List (Lit × DataW H) → Nat
  | [] => 0
  | x :: r => uptoBulkEntry x + uptoBulkEntries r
def uptoBulkEntry {H : Type} : Lit × DataW H → Nat
  | (.string bytes, d) => bytes.length + uptoBulk d + 1
  | (_, d) => uptoBulk d + 1
 end
def uptoSmall : (H : Type) → List (DataW H) → Bool := fun _ ds => decide (uptoBulkAll ds ≤ 1048576)
def OpenSpec.upto (s : _root_.Go.ChangeSpec) : _root_.Go.OpenSpec := { _root_.Go.OpenSpec.ofChange s with cond := some uptoSmall }

/-- 'voxsatlaw.FrontHighs', WHERE WHAT IT READS IS OF BULK AT MOST 1048576: true; the input reads as it did. -/
def frontHighsUptoRow : OpenClaim := { program := "ytniechgbbkkncaa", sum := "ef438e98a716ea6c471a1498e5ca16462d6edfe6ea1e3c94c11a813624c47f4a", func := "voxsat/voxsatlaw.FrontHighs", spec := "frontHighs", apart := false, narrowed := true }
def FrontHighsUptoSaid : Prop := frontHighsUptoRow.holds Try.pinned (OpenSpec.upto frontHighsSpec)

/-- 'voxsatlaw.FrontCorrelates', WHERE WHAT IT READS IS OF BULK AT MOST 1048576: true; the input reads as it did. -/
def frontCorrelatesUptoRow : OpenClaim := { program := "ytniechgbbkkncaa", sum := "ef438e98a716ea6c471a1498e5ca16462d6edfe6ea1e3c94c11a813624c47f4a", func := "voxsat/voxsatlaw.FrontCorrelates", spec := "frontCorrelates", recurses := true, apart := false, narrowed := true }
def FrontCorrelatesUptoSaid : Prop := frontCorrelatesUptoRow.holds Try.pinned (OpenSpec.upto frontCorrelatesSpec)

/-- 'voxsatlaw.DualRoots', WHERE WHAT IT READS IS OF BULK AT MOST 1048576: true; the input reads as it did. -/
def dualRootsUptoRow : OpenClaim := { program := "ytniechgbbkkncaa", sum := "ef438e98a716ea6c471a1498e5ca16462d6edfe6ea1e3c94c11a813624c47f4a", func := "voxsat/voxsatlaw.DualRoots", spec := "dualRoots", apart := false, narrowed := true }
def DualRootsUptoSaid : Prop := dualRootsUptoRow.holds Try.pinned (OpenSpec.upto dualRootsSpec)

/-- 'voxsatlaw.ConcealGoods', WHERE WHAT IT READS IS OF BULK AT MOST 1048576: true; the input reads as it did. -/
def concealGoodsUptoRow : OpenClaim := { program := "ytniechgbbkkncaa", sum := "ef438e98a716ea6c471a1498e5ca16462d6edfe6ea1e3c94c11a813624c47f4a", func := "voxsat/voxsatlaw.ConcealGoods", spec := "concealGoods", unfollowed := true, recurses := true, apart := false, narrowed := true }
def ConcealGoodsUptoSaid : Prop := concealGoodsUptoRow.holds Try.pinned (OpenSpec.upto concealGoodsSpec)

/-- 'voxsatlaw.ConcealSilents', WHERE WHAT IT READS IS OF BULK AT MOST 1048576: true; the input reads as it did. -/
def concealSilentsUptoRow : OpenClaim := { program := "ytniechgbbkkncaa", sum := "ef438e98a716ea6c471a1498e5ca16462d6edfe6ea1e3c94c11a813624c47f4a", func := "voxsat/voxsatlaw.ConcealSilents", spec := "concealSilents", unfollowed := true, recurses := true, apart := false, narrowed := true }
def ConcealSilentsUptoSaid : Prop := concealSilentsUptoRow.holds Try.pinned (OpenSpec.upto concealSilentsSpec)

/-- 'voxsatlaw.ConcealMixes', WHERE WHAT IT READS IS OF BULK AT MOST 1048576: true; the input reads as it did. -/
def concealMixesUptoRow : OpenClaim := { program := "ytniechgbbkkncaa", sum := "ef438e98a716ea6c471a1498e5ca16462d6edfe6ea1e3c94c11a813624c47f4a", func := "voxsat/voxsatlaw.ConcealMixes", spec := "concealMixes", apart := false, narrowed := true }
def ConcealMixesUptoSaid : Prop := concealMixesUptoRow.holds Try.pinned (OpenSpec.upto concealMixesSpec)

/-- 'voxsatlaw.ConcealErases', WHERE WHAT IT READS IS OF BULK AT MOST 1048576: true; the input reads as it did. -/
def concealErasesUptoRow : OpenClaim := { program := "ytniechgbbkkncaa", sum := "ef438e98a716ea6c471a1498e5ca16462d6edfe6ea1e3c94c11a813624c47f4a", func := "voxsat/voxsatlaw.ConcealErases", spec := "concealErases", unfollowed := true, recurses := true, apart := false, narrowed := true }
def ConcealErasesUptoSaid : Prop := concealErasesUptoRow.holds Try.pinned (OpenSpec.upto concealErasesSpec)

/-- 'voxsatlaw.PitchPicks', WHERE WHAT IT READS IS OF BULK AT MOST 1048576: true; the input reads as it did. -/
def pitchPicksUptoRow : OpenClaim := { program := "ytniechgbbkkncaa", sum := "ef438e98a716ea6c471a1498e5ca16462d6edfe6ea1e3c94c11a813624c47f4a", func := "voxsat/voxsatlaw.PitchPicks", spec := "pitchPicks", inPlace := ["math/bits.Add64"], unfollowed := true, recurses := true, apart := false, narrowed := true }
def PitchPicksUptoSaid : Prop := pitchPicksUptoRow.holds Try.pinned (OpenSpec.upto pitchPicksSpec)

/-- 'voxsatlaw.PulsesScores', WHERE WHAT IT READS IS OF BULK AT MOST 1048576: true; the input reads as it did. -/
def pulsesScoresUptoRow : OpenClaim := { program := "ytniechgbbkkncaa", sum := "ef438e98a716ea6c471a1498e5ca16462d6edfe6ea1e3c94c11a813624c47f4a", func := "voxsat/voxsatlaw.PulsesScores", spec := "pulsesScores", apart := false, narrowed := true }
def PulsesScoresUptoSaid : Prop := pulsesScoresUptoRow.holds Try.pinned (OpenSpec.upto pulsesScoresSpec)

/-- 'voxsatlaw.PulsesFews', WHERE WHAT IT READS IS OF BULK AT MOST 1048576: true; the input reads as it did. -/
def pulsesFewsUptoRow : OpenClaim := { program := "ytniechgbbkkncaa", sum := "ef438e98a716ea6c471a1498e5ca16462d6edfe6ea1e3c94c11a813624c47f4a", func := "voxsat/voxsatlaw.PulsesFews", spec := "pulsesFews", inPlace := ["math/bits.Add64"], unfollowed := true, recurses := true, apart := false, narrowed := true }
def PulsesFewsUptoSaid : Prop := pulsesFewsUptoRow.holds Try.pinned (OpenSpec.upto pulsesFewsSpec)

/-- 'voxsatlaw.PulsesAlls', WHERE WHAT IT READS IS OF BULK AT MOST 1048576: true; the input reads as it did. -/
def pulsesAllsUptoRow : OpenClaim := { program := "ytniechgbbkkncaa", sum := "ef438e98a716ea6c471a1498e5ca16462d6edfe6ea1e3c94c11a813624c47f4a", func := "voxsat/voxsatlaw.PulsesAlls", spec := "pulsesAlls", inPlace := ["math/bits.Add64"], unfollowed := true, recurses := true, apart := false, narrowed := true }
def PulsesAllsUptoSaid : Prop := pulsesAllsUptoRow.holds Try.pinned (OpenSpec.upto pulsesAllsSpec)

end Rows
end Go.Proofs.Ytniechgbbkkncaa
