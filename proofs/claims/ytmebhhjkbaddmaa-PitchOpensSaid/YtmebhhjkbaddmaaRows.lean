/-
  No cell of these rows narrows 'for every input' (looked for: loops, veiled, ifaces, maps, wideKeys, modest, calm, conditions, laid).
  DERIVED. THE GIVEN ROWS OF THIS SEAT. 12 by the template 'for every input the law returns true; each argument reads behind the call as it read before'; 0 by the template 'total and deterministic' (their statements: YtmebhhjkbaddmaaTotals.lean).
  GIVEN WITH THE SEED: the statements are not yours to turn. If you find one false, say at which input.
  Laid BY PROGRAM, IN A SANDBOX (cutbox-rows.mjs): the forced cells as the released guide's own fill.sh prints them over the translation 765d95a63ae76edc… (all of the seat's roots in one cut). By AI agents, Wed Nov 11 2026. No macro, syntax, notation, axiom, sorry.
-/
import Derived.Test.YtmebhhjkbaddmaaChecked
import GoSem.Claim
import GoSem.ClaimJoined
import GoSem.ClaimMapViews
import Derived.JoinedTies
import Derived.KernelRfl
namespace Go.Proofs.Ytmebhhjkbaddmaa
/- THE CELL 'sum', in the pinned program and in every row, IS THE sha256 OF THE DUMP (.gsa) THAT YtmebhhjkbaddmaaProg.lean LOADS. Nothing in Lean hashes anything: it is a label: what it is worth is what the hold of that sum in a sandbox is worth. -/
noncomputable def Try.pinned : Pinned := { name := "ytmebhhjkbaddmaa", sum := "765d95a63ae76edcd5610521d12218af0c038ef1e9ece3d1c52a1f8c6909297f", checked := Try.checked }
namespace Rows
def none {H : Type} : Left H := { results := [], args := [] }

/-- 'voxsatlaw.SynthFolds': WHATEVER THE INPUT: true; the input reads as it did. -/
def synthFoldsSpec : ChangeSpec := { name := "synthFolds", fn := fun _ => fun
  | [d1, d2] => { results := [.lit (.bool true)], args := [d1, d2] }
  | _ => none }
def synthFoldsRow : OpenClaim := { program := "ytmebhhjkbaddmaa", sum := "765d95a63ae76edcd5610521d12218af0c038ef1e9ece3d1c52a1f8c6909297f", func := "voxsat/voxsatlaw.SynthFolds", spec := "synthFolds", apart := false }
def SynthFoldsSaid : Prop := synthFoldsRow.holds Try.pinned (OpenSpec.ofChange synthFoldsSpec)

/-- ITS FALSE NEIGHBOUR: 'it returns false'. Refute it at one input. -/
def synthFoldsWrong : ChangeSpec := { name := "synthFolds", fn := fun _ => fun
  | [d1, d2] => { results := [.lit (.bool false)], args := [d1, d2] }
  | _ => none }
def SynthFoldsWrongFalsely : Prop := synthFoldsRow.holds Try.pinned (OpenSpec.ofChange synthFoldsWrong)

/-- 'voxsatlaw.PitchOpens': WHATEVER THE INPUT: true; the input reads as it did. -/
def pitchOpensSpec : ChangeSpec := { name := "pitchOpens", fn := fun _ => fun
  | [d] => { results := [.lit (.bool true)], args := [d] }
  | _ => none }
def pitchOpensRow : OpenClaim := { program := "ytmebhhjkbaddmaa", sum := "765d95a63ae76edcd5610521d12218af0c038ef1e9ece3d1c52a1f8c6909297f", func := "voxsat/voxsatlaw.PitchOpens", spec := "pitchOpens", inPlace := ["math/bits.Add64"], apart := false }
def PitchOpensSaid : Prop := pitchOpensRow.holds Try.pinned (OpenSpec.ofChange pitchOpensSpec)

/-- ITS FALSE NEIGHBOUR: 'it returns false'. Refute it at one input. -/
def pitchOpensWrong : ChangeSpec := { name := "pitchOpens", fn := fun _ => fun
  | [d] => { results := [.lit (.bool false)], args := [d] }
  | _ => none }
def PitchOpensWrongFalsely : Prop := pitchOpensRow.holds Try.pinned (OpenSpec.ofChange pitchOpensWrong)

/-- 'voxsatlaw.PitchPicks': WHATEVER THE INPUT: true; the input reads as it did. -/
def pitchPicksSpec : ChangeSpec := { name := "pitchPicks", fn := fun _ => fun
  | [d1, d2, d3] => { results := [.lit (.bool true)], args := [d1, d2, d3] }
  | _ => none }
def pitchPicksRow : OpenClaim := { program := "ytmebhhjkbaddmaa", sum := "765d95a63ae76edcd5610521d12218af0c038ef1e9ece3d1c52a1f8c6909297f", func := "voxsat/voxsatlaw.PitchPicks", spec := "pitchPicks", inPlace := ["math/bits.Add64"], unfollowed := true, recurses := true, apart := false }
def PitchPicksSaid : Prop := pitchPicksRow.holds Try.pinned (OpenSpec.ofChange pitchPicksSpec)

/-- ITS FALSE NEIGHBOUR: 'it returns false'. Refute it at one input. -/
def pitchPicksWrong : ChangeSpec := { name := "pitchPicks", fn := fun _ => fun
  | [d1, d2, d3] => { results := [.lit (.bool false)], args := [d1, d2, d3] }
  | _ => none }
def PitchPicksWrongFalsely : Prop := pitchPicksRow.holds Try.pinned (OpenSpec.ofChange pitchPicksWrong)

/-- 'voxsatlaw.PulsesBuilds': WHATEVER THE INPUT: true; the input reads as it did. -/
def pulsesBuildsSpec : ChangeSpec := { name := "pulsesBuilds", fn := fun _ => fun
  | [d1, d2, d3] => { results := [.lit (.bool true)], args := [d1, d2, d3] }
  | _ => none }
def pulsesBuildsRow : OpenClaim := { program := "ytmebhhjkbaddmaa", sum := "765d95a63ae76edcd5610521d12218af0c038ef1e9ece3d1c52a1f8c6909297f", func := "voxsat/voxsatlaw.PulsesBuilds", spec := "pulsesBuilds", apart := false }
def PulsesBuildsSaid : Prop := pulsesBuildsRow.holds Try.pinned (OpenSpec.ofChange pulsesBuildsSpec)

/-- ITS FALSE NEIGHBOUR: 'it returns false'. Refute it at one input. -/
def pulsesBuildsWrong : ChangeSpec := { name := "pulsesBuilds", fn := fun _ => fun
  | [d1, d2, d3] => { results := [.lit (.bool false)], args := [d1, d2, d3] }
  | _ => none }
def PulsesBuildsWrongFalsely : Prop := pulsesBuildsRow.holds Try.pinned (OpenSpec.ofChange pulsesBuildsWrong)

/-- 'voxsatlaw.PulsesTargets': WHATEVER THE INPUT: true; the input reads as it did. -/
def pulsesTargetsSpec : ChangeSpec := { name := "pulsesTargets", fn := fun _ => fun
  | [d1, d2] => { results := [.lit (.bool true)], args := [d1, d2] }
  | _ => none }
def pulsesTargetsRow : OpenClaim := { program := "ytmebhhjkbaddmaa", sum := "765d95a63ae76edcd5610521d12218af0c038ef1e9ece3d1c52a1f8c6909297f", func := "voxsat/voxsatlaw.PulsesTargets", spec := "pulsesTargets", apart := false }
def PulsesTargetsSaid : Prop := pulsesTargetsRow.holds Try.pinned (OpenSpec.ofChange pulsesTargetsSpec)

/-- ITS FALSE NEIGHBOUR: 'it returns false'. Refute it at one input. -/
def pulsesTargetsWrong : ChangeSpec := { name := "pulsesTargets", fn := fun _ => fun
  | [d1, d2] => { results := [.lit (.bool false)], args := [d1, d2] }
  | _ => none }
def PulsesTargetsWrongFalsely : Prop := pulsesTargetsRow.holds Try.pinned (OpenSpec.ofChange pulsesTargetsWrong)

/-- 'voxsatlaw.PulsesEnergies': WHATEVER THE INPUT: true; the input reads as it did. -/
def pulsesEnergiesSpec : ChangeSpec := { name := "pulsesEnergies", fn := fun _ => fun
  | [d1, d2, d3] => { results := [.lit (.bool true)], args := [d1, d2, d3] }
  | _ => none }
def pulsesEnergiesRow : OpenClaim := { program := "ytmebhhjkbaddmaa", sum := "765d95a63ae76edcd5610521d12218af0c038ef1e9ece3d1c52a1f8c6909297f", func := "voxsat/voxsatlaw.PulsesEnergies", spec := "pulsesEnergies", apart := false }
def PulsesEnergiesSaid : Prop := pulsesEnergiesRow.holds Try.pinned (OpenSpec.ofChange pulsesEnergiesSpec)

/-- ITS FALSE NEIGHBOUR: 'it returns false'. Refute it at one input. -/
def pulsesEnergiesWrong : ChangeSpec := { name := "pulsesEnergies", fn := fun _ => fun
  | [d1, d2, d3] => { results := [.lit (.bool false)], args := [d1, d2, d3] }
  | _ => none }
def PulsesEnergiesWrongFalsely : Prop := pulsesEnergiesRow.holds Try.pinned (OpenSpec.ofChange pulsesEnergiesWrong)

/-- 'voxsatlaw.PulsesScores': WHATEVER THE INPUT: true; the input reads as it did. -/
def pulsesScoresSpec : ChangeSpec := { name := "pulsesScores", fn := fun _ => fun
  | [d1, d2, d3] => { results := [.lit (.bool true)], args := [d1, d2, d3] }
  | _ => none }
def pulsesScoresRow : OpenClaim := { program := "ytmebhhjkbaddmaa", sum := "765d95a63ae76edcd5610521d12218af0c038ef1e9ece3d1c52a1f8c6909297f", func := "voxsat/voxsatlaw.PulsesScores", spec := "pulsesScores", apart := false }
def PulsesScoresSaid : Prop := pulsesScoresRow.holds Try.pinned (OpenSpec.ofChange pulsesScoresSpec)

/-- ITS FALSE NEIGHBOUR: 'it returns false'. Refute it at one input. -/
def pulsesScoresWrong : ChangeSpec := { name := "pulsesScores", fn := fun _ => fun
  | [d1, d2, d3] => { results := [.lit (.bool false)], args := [d1, d2, d3] }
  | _ => none }
def PulsesScoresWrongFalsely : Prop := pulsesScoresRow.holds Try.pinned (OpenSpec.ofChange pulsesScoresWrong)

/-- 'voxsatlaw.PulsesFews': WHATEVER THE INPUT: true; the input reads as it did. -/
def pulsesFewsSpec : ChangeSpec := { name := "pulsesFews", fn := fun _ => fun
  | [d1, d2] => { results := [.lit (.bool true)], args := [d1, d2] }
  | _ => none }
def pulsesFewsRow : OpenClaim := { program := "ytmebhhjkbaddmaa", sum := "765d95a63ae76edcd5610521d12218af0c038ef1e9ece3d1c52a1f8c6909297f", func := "voxsat/voxsatlaw.PulsesFews", spec := "pulsesFews", inPlace := ["math/bits.Add64"], unfollowed := true, recurses := true, apart := false }
def PulsesFewsSaid : Prop := pulsesFewsRow.holds Try.pinned (OpenSpec.ofChange pulsesFewsSpec)

/-- ITS FALSE NEIGHBOUR: 'it returns false'. Refute it at one input. -/
def pulsesFewsWrong : ChangeSpec := { name := "pulsesFews", fn := fun _ => fun
  | [d1, d2] => { results := [.lit (.bool false)], args := [d1, d2] }
  | _ => none }
def PulsesFewsWrongFalsely : Prop := pulsesFewsRow.holds Try.pinned (OpenSpec.ofChange pulsesFewsWrong)

/-- 'voxsatlaw.PulsesAlls': WHATEVER THE INPUT: true; the input reads as it did. -/
def pulsesAllsSpec : ChangeSpec := { name := "pulsesAlls", fn := fun _ => fun
  | [d1, d2] => { results := [.lit (.bool true)], args := [d1, d2] }
  | _ => none }
def pulsesAllsRow : OpenClaim := { program := "ytmebhhjkbaddmaa", sum := "765d95a63ae76edcd5610521d12218af0c038ef1e9ece3d1c52a1f8c6909297f", func := "voxsat/voxsatlaw.PulsesAlls", spec := "pulsesAlls", inPlace := ["math/bits.Add64"], unfollowed := true, recurses := true, apart := false }
def PulsesAllsSaid : Prop := pulsesAllsRow.holds Try.pinned (OpenSpec.ofChange pulsesAllsSpec)

/-- ITS FALSE NEIGHBOUR: 'it returns false'. Refute it at one input. -/
def pulsesAllsWrong : ChangeSpec := { name := "pulsesAlls", fn := fun _ => fun
  | [d1, d2] => { results := [.lit (.bool false)], args := [d1, d2] }
  | _ => none }
def PulsesAllsWrongFalsely : Prop := pulsesAllsRow.holds Try.pinned (OpenSpec.ofChange pulsesAllsWrong)

/-- 'voxsatlaw.ConcealGoods': WHATEVER THE INPUT: true; the input reads as it did. -/
def concealGoodsSpec : ChangeSpec := { name := "concealGoods", fn := fun _ => fun
  | [d] => { results := [.lit (.bool true)], args := [d] }
  | _ => none }
def concealGoodsRow : OpenClaim := { program := "ytmebhhjkbaddmaa", sum := "765d95a63ae76edcd5610521d12218af0c038ef1e9ece3d1c52a1f8c6909297f", func := "voxsat/voxsatlaw.ConcealGoods", spec := "concealGoods", unfollowed := true, recurses := true, apart := false }
def ConcealGoodsSaid : Prop := concealGoodsRow.holds Try.pinned (OpenSpec.ofChange concealGoodsSpec)

/-- ITS FALSE NEIGHBOUR: 'it returns false'. Refute it at one input. -/
def concealGoodsWrong : ChangeSpec := { name := "concealGoods", fn := fun _ => fun
  | [d] => { results := [.lit (.bool false)], args := [d] }
  | _ => none }
def ConcealGoodsWrongFalsely : Prop := concealGoodsRow.holds Try.pinned (OpenSpec.ofChange concealGoodsWrong)

/-- 'voxsatlaw.ConcealMixes': WHATEVER THE INPUT: true; the input reads as it did. -/
def concealMixesSpec : ChangeSpec := { name := "concealMixes", fn := fun _ => fun
  | [d1, d2, d3, d4] => { results := [.lit (.bool true)], args := [d1, d2, d3, d4] }
  | _ => none }
def concealMixesRow : OpenClaim := { program := "ytmebhhjkbaddmaa", sum := "765d95a63ae76edcd5610521d12218af0c038ef1e9ece3d1c52a1f8c6909297f", func := "voxsat/voxsatlaw.ConcealMixes", spec := "concealMixes", apart := false }
def ConcealMixesSaid : Prop := concealMixesRow.holds Try.pinned (OpenSpec.ofChange concealMixesSpec)

/-- ITS FALSE NEIGHBOUR: 'it returns false'. Refute it at one input. -/
def concealMixesWrong : ChangeSpec := { name := "concealMixes", fn := fun _ => fun
  | [d1, d2, d3, d4] => { results := [.lit (.bool false)], args := [d1, d2, d3, d4] }
  | _ => none }
def ConcealMixesWrongFalsely : Prop := concealMixesRow.holds Try.pinned (OpenSpec.ofChange concealMixesWrong)

/-- 'voxsatlaw.ConcealErases': WHATEVER THE INPUT: true; the input reads as it did. -/
def concealErasesSpec : ChangeSpec := { name := "concealErases", fn := fun _ => fun
  | [d1, d2] => { results := [.lit (.bool true)], args := [d1, d2] }
  | _ => none }
def concealErasesRow : OpenClaim := { program := "ytmebhhjkbaddmaa", sum := "765d95a63ae76edcd5610521d12218af0c038ef1e9ece3d1c52a1f8c6909297f", func := "voxsat/voxsatlaw.ConcealErases", spec := "concealErases", unfollowed := true, recurses := true, apart := false }
def ConcealErasesSaid : Prop := concealErasesRow.holds Try.pinned (OpenSpec.ofChange concealErasesSpec)

/-- ITS FALSE NEIGHBOUR: 'it returns false'. Refute it at one input. -/
def concealErasesWrong : ChangeSpec := { name := "concealErases", fn := fun _ => fun
  | [d1, d2] => { results := [.lit (.bool false)], args := [d1, d2] }
  | _ => none }
def ConcealErasesWrongFalsely : Prop := concealErasesRow.holds Try.pinned (OpenSpec.ofChange concealErasesWrong)

/- THE SECOND FORM. 'bulk': how many values and letters a reading holds, each counted each time it is reached (what is shared counts as often as it is met; a slice's spare places count too). A statement '..UptoSaid' is the law's where the arguments, and the package variables that the reading takes, are together of bulk at most 1048576: NARROWER than '..Said'. Prove '..Said' where nothing that the law and all that it calls make is longer than what came in: it says more and counts as full. Else prove '..UptoSaid'. A law counts once. -/
mutual
def uptoBulk {H : Type} : DataW H → Nat
  | .lit (.string bytes) => bytes.length + 1
  | .lit _ => 1
  | .nil => 1
  | .ptr d => uptoBulk d + 1
  | .slice elems spare => uptoBulkAll elems + uptoBulkAll spare + 1
  | .agg parts => uptoBulkAll parts + 1
  | .iface _ d => uptoBulk d + 1
  | .map entries => uptoBulkEntries entries + 1
  | .held _ => 1
def uptoBulkAll {H : Type} : List (DataW H) → Nat
  | [] => 0
  | d :: r => uptoBulk d + uptoBulkAll r
def uptoBulkEntries {H : Type} : List (Lit × DataW H) → Nat
  | [] => 0
  | x :: r => uptoBulkEntry x + uptoBulkEntries r
def uptoBulkEntry {H : Type} : Lit × DataW H → Nat
  | (.string bytes, d) => bytes.length + uptoBulk d + 1
  | (_, d) => uptoBulk d + 1
 end
def uptoSmall : (H : Type) → List (DataW H) → Bool := fun _ ds => decide (uptoBulkAll ds ≤ 1048576)
def OpenSpec.upto (s : _root_.Go.ChangeSpec) : _root_.Go.OpenSpec := { _root_.Go.OpenSpec.ofChange s with cond := some uptoSmall }

/-- 'voxsatlaw.SynthFolds', WHERE WHAT IT READS IS OF BULK AT MOST 1048576: true; the input reads as it did. -/
def synthFoldsUptoRow : OpenClaim := { program := "ytmebhhjkbaddmaa", sum := "765d95a63ae76edcd5610521d12218af0c038ef1e9ece3d1c52a1f8c6909297f", func := "voxsat/voxsatlaw.SynthFolds", spec := "synthFolds", apart := false, narrowed := true }
def SynthFoldsUptoSaid : Prop := synthFoldsUptoRow.holds Try.pinned (OpenSpec.upto synthFoldsSpec)

/-- 'voxsatlaw.PitchOpens', WHERE WHAT IT READS IS OF BULK AT MOST 1048576: true; the input reads as it did. -/
def pitchOpensUptoRow : OpenClaim := { program := "ytmebhhjkbaddmaa", sum := "765d95a63ae76edcd5610521d12218af0c038ef1e9ece3d1c52a1f8c6909297f", func := "voxsat/voxsatlaw.PitchOpens", spec := "pitchOpens", inPlace := ["math/bits.Add64"], apart := false, narrowed := true }
def PitchOpensUptoSaid : Prop := pitchOpensUptoRow.holds Try.pinned (OpenSpec.upto pitchOpensSpec)

/-- 'voxsatlaw.PitchPicks', WHERE WHAT IT READS IS OF BULK AT MOST 1048576: true; the input reads as it did. -/
def pitchPicksUptoRow : OpenClaim := { program := "ytmebhhjkbaddmaa", sum := "765d95a63ae76edcd5610521d12218af0c038ef1e9ece3d1c52a1f8c6909297f", func := "voxsat/voxsatlaw.PitchPicks", spec := "pitchPicks", inPlace := ["math/bits.Add64"], unfollowed := true, recurses := true, apart := false, narrowed := true }
def PitchPicksUptoSaid : Prop := pitchPicksUptoRow.holds Try.pinned (OpenSpec.upto pitchPicksSpec)

/-- 'voxsatlaw.PulsesBuilds', WHERE WHAT IT READS IS OF BULK AT MOST 1048576: true; the input reads as it did. -/
def pulsesBuildsUptoRow : OpenClaim := { program := "ytmebhhjkbaddmaa", sum := "765d95a63ae76edcd5610521d12218af0c038ef1e9ece3d1c52a1f8c6909297f", func := "voxsat/voxsatlaw.PulsesBuilds", spec := "pulsesBuilds", apart := false, narrowed := true }
def PulsesBuildsUptoSaid : Prop := pulsesBuildsUptoRow.holds Try.pinned (OpenSpec.upto pulsesBuildsSpec)

/-- 'voxsatlaw.PulsesTargets', WHERE WHAT IT READS IS OF BULK AT MOST 1048576: true; the input reads as it did. -/
def pulsesTargetsUptoRow : OpenClaim := { program := "ytmebhhjkbaddmaa", sum := "765d95a63ae76edcd5610521d12218af0c038ef1e9ece3d1c52a1f8c6909297f", func := "voxsat/voxsatlaw.PulsesTargets", spec := "pulsesTargets", apart := false, narrowed := true }
def PulsesTargetsUptoSaid : Prop := pulsesTargetsUptoRow.holds Try.pinned (OpenSpec.upto pulsesTargetsSpec)

/-- 'voxsatlaw.PulsesEnergies', WHERE WHAT IT READS IS OF BULK AT MOST 1048576: true; the input reads as it did. -/
def pulsesEnergiesUptoRow : OpenClaim := { program := "ytmebhhjkbaddmaa", sum := "765d95a63ae76edcd5610521d12218af0c038ef1e9ece3d1c52a1f8c6909297f", func := "voxsat/voxsatlaw.PulsesEnergies", spec := "pulsesEnergies", apart := false, narrowed := true }
def PulsesEnergiesUptoSaid : Prop := pulsesEnergiesUptoRow.holds Try.pinned (OpenSpec.upto pulsesEnergiesSpec)

/-- 'voxsatlaw.PulsesScores', WHERE WHAT IT READS IS OF BULK AT MOST 1048576: true; the input reads as it did. -/
def pulsesScoresUptoRow : OpenClaim := { program := "ytmebhhjkbaddmaa", sum := "765d95a63ae76edcd5610521d12218af0c038ef1e9ece3d1c52a1f8c6909297f", func := "voxsat/voxsatlaw.PulsesScores", spec := "pulsesScores", apart := false, narrowed := true }
def PulsesScoresUptoSaid : Prop := pulsesScoresUptoRow.holds Try.pinned (OpenSpec.upto pulsesScoresSpec)

/-- 'voxsatlaw.PulsesFews', WHERE WHAT IT READS IS OF BULK AT MOST 1048576: true; the input reads as it did. -/
def pulsesFewsUptoRow : OpenClaim := { program := "ytmebhhjkbaddmaa", sum := "765d95a63ae76edcd5610521d12218af0c038ef1e9ece3d1c52a1f8c6909297f", func := "voxsat/voxsatlaw.PulsesFews", spec := "pulsesFews", inPlace := ["math/bits.Add64"], unfollowed := true, recurses := true, apart := false, narrowed := true }
def PulsesFewsUptoSaid : Prop := pulsesFewsUptoRow.holds Try.pinned (OpenSpec.upto pulsesFewsSpec)

/-- 'voxsatlaw.PulsesAlls', WHERE WHAT IT READS IS OF BULK AT MOST 1048576: true; the input reads as it did. -/
def pulsesAllsUptoRow : OpenClaim := { program := "ytmebhhjkbaddmaa", sum := "765d95a63ae76edcd5610521d12218af0c038ef1e9ece3d1c52a1f8c6909297f", func := "voxsat/voxsatlaw.PulsesAlls", spec := "pulsesAlls", inPlace := ["math/bits.Add64"], unfollowed := true, recurses := true, apart := false, narrowed := true }
def PulsesAllsUptoSaid : Prop := pulsesAllsUptoRow.holds Try.pinned (OpenSpec.upto pulsesAllsSpec)

/-- 'voxsatlaw.ConcealGoods', WHERE WHAT IT READS IS OF BULK AT MOST 1048576: true; the input reads as it did. -/
def concealGoodsUptoRow : OpenClaim := { program := "ytmebhhjkbaddmaa", sum := "765d95a63ae76edcd5610521d12218af0c038ef1e9ece3d1c52a1f8c6909297f", func := "voxsat/voxsatlaw.ConcealGoods", spec := "concealGoods", unfollowed := true, recurses := true, apart := false, narrowed := true }
def ConcealGoodsUptoSaid : Prop := concealGoodsUptoRow.holds Try.pinned (OpenSpec.upto concealGoodsSpec)

/-- 'voxsatlaw.ConcealMixes', WHERE WHAT IT READS IS OF BULK AT MOST 1048576: true; the input reads as it did. -/
def concealMixesUptoRow : OpenClaim := { program := "ytmebhhjkbaddmaa", sum := "765d95a63ae76edcd5610521d12218af0c038ef1e9ece3d1c52a1f8c6909297f", func := "voxsat/voxsatlaw.ConcealMixes", spec := "concealMixes", apart := false, narrowed := true }
def ConcealMixesUptoSaid : Prop := concealMixesUptoRow.holds Try.pinned (OpenSpec.upto concealMixesSpec)

/-- 'voxsatlaw.ConcealErases', WHERE WHAT IT READS IS OF BULK AT MOST 1048576: true; the input reads as it did. -/
def concealErasesUptoRow : OpenClaim := { program := "ytmebhhjkbaddmaa", sum := "765d95a63ae76edcd5610521d12218af0c038ef1e9ece3d1c52a1f8c6909297f", func := "voxsat/voxsatlaw.ConcealErases", spec := "concealErases", unfollowed := true, recurses := true, apart := false, narrowed := true }
def ConcealErasesUptoSaid : Prop := concealErasesUptoRow.holds Try.pinned (OpenSpec.upto concealErasesSpec)

end Rows
end Go.Proofs.Ytmebhhjkbaddmaa
