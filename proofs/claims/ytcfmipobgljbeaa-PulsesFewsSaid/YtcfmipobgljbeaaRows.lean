/-
  No cell of these rows narrows 'for every input' (looked for: loops, veiled, ifaces, maps, wideKeys, modest, calm, conditions, laid).
  DERIVED. THE GIVEN ROWS OF THIS SEAT. 6 by the template 'for every input the law returns true; each argument reads behind the call as it read before'; 0 by the template 'total and deterministic' (their statements: YtcfmipobgljbeaaTotals.lean).
  GIVEN WITH THE SEED: the statements are not yours to turn. If you find one false, say at which input.
  Laid BY PROGRAM, IN A SANDBOX (cutbox-rows.mjs): the forced cells as the released guide's own fill.sh prints them over the translation 18d6a1331e8a5a85… (all of the seat's roots in one cut). By AI agents, Wed Nov 11 2026. No macro, syntax, notation, axiom, sorry.
-/
import Derived.Test.YtcfmipobgljbeaaChecked
import GoSem.Claim
import GoSem.ClaimJoined
import GoSem.ClaimMapViews
import Derived.JoinedTies
import Derived.KernelRfl
namespace Go.Proofs.Ytcfmipobgljbeaa
/- THE CELL 'sum', in the pinned program and in every row, IS THE sha256 OF THE DUMP (.gsa) THAT YtcfmipobgljbeaaProg.lean LOADS. Nothing in Lean hashes anything: it is a label: what it is worth is what the hold of that sum in a sandbox is worth. -/
noncomputable def Try.pinned : Pinned := { name := "ytcfmipobgljbeaa", sum := "18d6a1331e8a5a852d01e7c76b3670346e65b782f5dec3d75e026fffee420844", checked := Try.checked }
namespace Rows
def none {H : Type} : Left H := { results := [], args := [] }

/-- 'voxsatlaw.FrontCorrelates': WHATEVER THE INPUT: true; the input reads as it did. -/
def frontCorrelatesSpec : ChangeSpec := { name := "frontCorrelates", fn := fun _ => fun
  | [d] => { results := [.lit (.bool true)], args := [d] }
  | _ => none }
def frontCorrelatesRow : OpenClaim := { program := "ytcfmipobgljbeaa", sum := "18d6a1331e8a5a852d01e7c76b3670346e65b782f5dec3d75e026fffee420844", func := "voxsat/voxsatlaw.FrontCorrelates", spec := "frontCorrelates", recurses := true, apart := false }
def FrontCorrelatesSaid : Prop := frontCorrelatesRow.holds Try.pinned (OpenSpec.ofChange frontCorrelatesSpec)

/-- ITS FALSE NEIGHBOUR: 'it returns false'. Refute it at one input. -/
def frontCorrelatesWrong : ChangeSpec := { name := "frontCorrelates", fn := fun _ => fun
  | [d] => { results := [.lit (.bool false)], args := [d] }
  | _ => none }
def FrontCorrelatesWrongFalsely : Prop := frontCorrelatesRow.holds Try.pinned (OpenSpec.ofChange frontCorrelatesWrong)

/-- 'voxsatlaw.PulsesScores': WHATEVER THE INPUT: true; the input reads as it did. -/
def pulsesScoresSpec : ChangeSpec := { name := "pulsesScores", fn := fun _ => fun
  | [d1, d2, d3] => { results := [.lit (.bool true)], args := [d1, d2, d3] }
  | _ => none }
def pulsesScoresRow : OpenClaim := { program := "ytcfmipobgljbeaa", sum := "18d6a1331e8a5a852d01e7c76b3670346e65b782f5dec3d75e026fffee420844", func := "voxsat/voxsatlaw.PulsesScores", spec := "pulsesScores", apart := false }
def PulsesScoresSaid : Prop := pulsesScoresRow.holds Try.pinned (OpenSpec.ofChange pulsesScoresSpec)

/-- ITS FALSE NEIGHBOUR: 'it returns false'. Refute it at one input. -/
def pulsesScoresWrong : ChangeSpec := { name := "pulsesScores", fn := fun _ => fun
  | [d1, d2, d3] => { results := [.lit (.bool false)], args := [d1, d2, d3] }
  | _ => none }
def PulsesScoresWrongFalsely : Prop := pulsesScoresRow.holds Try.pinned (OpenSpec.ofChange pulsesScoresWrong)

/-- 'voxsatlaw.PitchPicks': WHATEVER THE INPUT: true; the input reads as it did. -/
def pitchPicksSpec : ChangeSpec := { name := "pitchPicks", fn := fun _ => fun
  | [d1, d2, d3] => { results := [.lit (.bool true)], args := [d1, d2, d3] }
  | _ => none }
def pitchPicksRow : OpenClaim := { program := "ytcfmipobgljbeaa", sum := "18d6a1331e8a5a852d01e7c76b3670346e65b782f5dec3d75e026fffee420844", func := "voxsat/voxsatlaw.PitchPicks", spec := "pitchPicks", inPlace := ["math/bits.Add64"], unfollowed := true, recurses := true, apart := false }
def PitchPicksSaid : Prop := pitchPicksRow.holds Try.pinned (OpenSpec.ofChange pitchPicksSpec)

/-- ITS FALSE NEIGHBOUR: 'it returns false'. Refute it at one input. -/
def pitchPicksWrong : ChangeSpec := { name := "pitchPicks", fn := fun _ => fun
  | [d1, d2, d3] => { results := [.lit (.bool false)], args := [d1, d2, d3] }
  | _ => none }
def PitchPicksWrongFalsely : Prop := pitchPicksRow.holds Try.pinned (OpenSpec.ofChange pitchPicksWrong)

/-- 'voxsatlaw.PulsesFews': WHATEVER THE INPUT: true; the input reads as it did. -/
def pulsesFewsSpec : ChangeSpec := { name := "pulsesFews", fn := fun _ => fun
  | [d1, d2] => { results := [.lit (.bool true)], args := [d1, d2] }
  | _ => none }
def pulsesFewsRow : OpenClaim := { program := "ytcfmipobgljbeaa", sum := "18d6a1331e8a5a852d01e7c76b3670346e65b782f5dec3d75e026fffee420844", func := "voxsat/voxsatlaw.PulsesFews", spec := "pulsesFews", inPlace := ["math/bits.Add64"], unfollowed := true, recurses := true, apart := false }
def PulsesFewsSaid : Prop := pulsesFewsRow.holds Try.pinned (OpenSpec.ofChange pulsesFewsSpec)

/-- ITS FALSE NEIGHBOUR: 'it returns false'. Refute it at one input. -/
def pulsesFewsWrong : ChangeSpec := { name := "pulsesFews", fn := fun _ => fun
  | [d1, d2] => { results := [.lit (.bool false)], args := [d1, d2] }
  | _ => none }
def PulsesFewsWrongFalsely : Prop := pulsesFewsRow.holds Try.pinned (OpenSpec.ofChange pulsesFewsWrong)

/-- 'voxsatlaw.PulsesAlls': WHATEVER THE INPUT: true; the input reads as it did. -/
def pulsesAllsSpec : ChangeSpec := { name := "pulsesAlls", fn := fun _ => fun
  | [d1, d2] => { results := [.lit (.bool true)], args := [d1, d2] }
  | _ => none }
def pulsesAllsRow : OpenClaim := { program := "ytcfmipobgljbeaa", sum := "18d6a1331e8a5a852d01e7c76b3670346e65b782f5dec3d75e026fffee420844", func := "voxsat/voxsatlaw.PulsesAlls", spec := "pulsesAlls", inPlace := ["math/bits.Add64"], unfollowed := true, recurses := true, apart := false }
def PulsesAllsSaid : Prop := pulsesAllsRow.holds Try.pinned (OpenSpec.ofChange pulsesAllsSpec)

/-- ITS FALSE NEIGHBOUR: 'it returns false'. Refute it at one input. -/
def pulsesAllsWrong : ChangeSpec := { name := "pulsesAlls", fn := fun _ => fun
  | [d1, d2] => { results := [.lit (.bool false)], args := [d1, d2] }
  | _ => none }
def PulsesAllsWrongFalsely : Prop := pulsesAllsRow.holds Try.pinned (OpenSpec.ofChange pulsesAllsWrong)

/-- 'voxsatlaw.CoderErases': WHATEVER THE INPUT: true; the input reads as it did. -/
def coderErasesSpec : ChangeSpec := { name := "coderErases", fn := fun _ => fun
  | [d] => { results := [.lit (.bool true)], args := [d] }
  | _ => none }
def coderErasesRow : OpenClaim := { program := "ytcfmipobgljbeaa", sum := "18d6a1331e8a5a852d01e7c76b3670346e65b782f5dec3d75e026fffee420844", func := "voxsat/voxsatlaw.CoderErases", spec := "coderErases", unfollowed := true, recurses := true, apart := false }
def CoderErasesSaid : Prop := coderErasesRow.holds Try.pinned (OpenSpec.ofChange coderErasesSpec)

/-- ITS FALSE NEIGHBOUR: 'it returns false'. Refute it at one input. -/
def coderErasesWrong : ChangeSpec := { name := "coderErases", fn := fun _ => fun
  | [d] => { results := [.lit (.bool false)], args := [d] }
  | _ => none }
def CoderErasesWrongFalsely : Prop := coderErasesRow.holds Try.pinned (OpenSpec.ofChange coderErasesWrong)

/- THE SECOND FORM. 'bulk': how many values and letters a reading holds, each counted each time it is reached (what is shared counts as often as it is met; a slice's spare places count too). A statement '..UptoSaid' is the law's where the arguments, and the package variables that the reading takes, are together of bulk at most 1048576: NARROWER than '..Said'. Prove '..Said' where nothing that the law and all that it calls make is longer than what came in: it says more and counts as full. Else prove '..UptoSaid'. A law counts once. -/
mutual
def uptoBulk {H : Type} : DataW H → Nat
  | .lit (.string bytes) => bytes.length + 1
  | .lit _ => 1
  | .nil => 1
  | .ptr d => uptoBulk d + 1
  | .slice elems spare => uptoBulkAll elems + uptoBulkAll spare + 1
  | .agg parts => uptoBulkAll parts + 1
  | .iface _ d => uptoBulk d + 1
  | .map entries => uptoBulkEntries entries + 1
  | .held _ => 1
def uptoBulkAll {H : Type} : List (DataW H) → Nat
  | [] => 0
  | d :: r => uptoBulk d + uptoBulkAll r
def uptoBulkEntries {H : Type} : List (Lit × DataW H) → Nat
  | [] => 0
  | x :: r => uptoBulkEntry x + uptoBulkEntries r
def uptoBulkEntry {H : Type} : Lit × DataW H → Nat
  | (.string bytes, d) => bytes.length + uptoBulk d + 1
  | (_, d) => uptoBulk d + 1
 end
def uptoSmall : (H : Type) → List (DataW H) → Bool := fun _ ds => decide (uptoBulkAll ds ≤ 1048576)
def OpenSpec.upto (s : _root_.Go.ChangeSpec) : _root_.Go.OpenSpec := { _root_.Go.OpenSpec.ofChange s with cond := some uptoSmall }

/-- 'voxsatlaw.FrontCorrelates', WHERE WHAT IT READS IS OF BULK AT MOST 1048576: true; the input reads as it did. -/
def frontCorrelatesUptoRow : OpenClaim := { program := "ytcfmipobgljbeaa", sum := "18d6a1331e8a5a852d01e7c76b3670346e65b782f5dec3d75e026fffee420844", func := "voxsat/voxsatlaw.FrontCorrelates", spec := "frontCorrelates", recurses := true, apart := false, narrowed := true }
def FrontCorrelatesUptoSaid : Prop := frontCorrelatesUptoRow.holds Try.pinned (OpenSpec.upto frontCorrelatesSpec)

/-- 'voxsatlaw.PulsesScores', WHERE WHAT IT READS IS OF BULK AT MOST 1048576: true; the input reads as it did. -/
def pulsesScoresUptoRow : OpenClaim := { program := "ytcfmipobgljbeaa", sum := "18d6a1331e8a5a852d01e7c76b3670346e65b782f5dec3d75e026fffee420844", func := "voxsat/voxsatlaw.PulsesScores", spec := "pulsesScores", apart := false, narrowed := true }
def PulsesScoresUptoSaid : Prop := pulsesScoresUptoRow.holds Try.pinned (OpenSpec.upto pulsesScoresSpec)

/-- 'voxsatlaw.PitchPicks', WHERE WHAT IT READS IS OF BULK AT MOST 1048576: true; the input reads as it did. -/
def pitchPicksUptoRow : OpenClaim := { program := "ytcfmipobgljbeaa", sum := "18d6a1331e8a5a852d01e7c76b3670346e65b782f5dec3d75e026fffee420844", func := "voxsat/voxsatlaw.PitchPicks", spec := "pitchPicks", inPlace := ["math/bits.Add64"], unfollowed := true, recurses := true, apart := false, narrowed := true }
def PitchPicksUptoSaid : Prop := pitchPicksUptoRow.holds Try.pinned (OpenSpec.upto pitchPicksSpec)

/-- 'voxsatlaw.PulsesFews', WHERE WHAT IT READS IS OF BULK AT MOST 1048576: true; the input reads as it did. -/
def pulsesFewsUptoRow : OpenClaim := { program := "ytcfmipobgljbeaa", sum := "18d6a1331e8a5a852d01e7c76b3670346e65b782f5dec3d75e026fffee420844", func := "voxsat/voxsatlaw.PulsesFews", spec := "pulsesFews", inPlace := ["math/bits.Add64"], unfollowed := true, recurses := true, apart := false, narrowed := true }
def PulsesFewsUptoSaid : Prop := pulsesFewsUptoRow.holds Try.pinned (OpenSpec.upto pulsesFewsSpec)

/-- 'voxsatlaw.PulsesAlls', WHERE WHAT IT READS IS OF BULK AT MOST 1048576: true; the input reads as it did. -/
def pulsesAllsUptoRow : OpenClaim := { program := "ytcfmipobgljbeaa", sum := "18d6a1331e8a5a852d01e7c76b3670346e65b782f5dec3d75e026fffee420844", func := "voxsat/voxsatlaw.PulsesAlls", spec := "pulsesAlls", inPlace := ["math/bits.Add64"], unfollowed := true, recurses := true, apart := false, narrowed := true }
def PulsesAllsUptoSaid : Prop := pulsesAllsUptoRow.holds Try.pinned (OpenSpec.upto pulsesAllsSpec)

/-- 'voxsatlaw.CoderErases', WHERE WHAT IT READS IS OF BULK AT MOST 1048576: true; the input reads as it did. -/
def coderErasesUptoRow : OpenClaim := { program := "ytcfmipobgljbeaa", sum := "18d6a1331e8a5a852d01e7c76b3670346e65b782f5dec3d75e026fffee420844", func := "voxsat/voxsatlaw.CoderErases", spec := "coderErases", unfollowed := true, recurses := true, apart := false, narrowed := true }
def CoderErasesUptoSaid : Prop := coderErasesUptoRow.holds Try.pinned (OpenSpec.upto coderErasesSpec)

end Rows
end Go.Proofs.Ytcfmipobgljbeaa
