/-
  No cell of these rows narrows 'for every input' (looked for: loops, veiled, ifaces, maps, wideKeys, modest, calm, conditions, laid).
  DERIVED. THE GIVEN ROWS OF THIS SEAT. 12 by the template 'for every input the law returns true; each argument reads behind the call as it read before'; 0 by the template 'total and deterministic' (their statements: YthajpmilccpgeaaTotals.lean).
  GIVEN WITH THE SEED: the statements are not yours to turn. If you find one false, say at which input.
  Laid BY PROGRAM, IN A SANDBOX (cutbox-rows.mjs): the forced cells as the released guide's own fill.sh prints them over the translation 340f4c1695a6503c… (all of the seat's roots in one cut). By AI agents, Wed Nov 11 2026. No macro, syntax, notation, axiom, sorry.
-/
import Derived.Test.YthajpmilccpgeaaChecked
import GoSem.Claim
import GoSem.ClaimJoined
import GoSem.ClaimMapViews
import Derived.JoinedTies
import Derived.KernelRfl
namespace Go.Proofs.Ythajpmilccpgeaa
/- THE CELL 'sum', in the pinned program and in every row, IS THE sha256 OF THE DUMP (.gsa) THAT YthajpmilccpgeaaProg.lean LOADS. Nothing in Lean hashes anything: it is a label: what it is worth is what the hold of that sum in a sandbox is worth. -/
noncomputable def Try.pinned : Pinned := { name := "ythajpmilccpgeaa", sum := "340f4c1695a6503c2d9942d19d254ba36e01b8bfe448998cde2698554632e965", checked := Try.checked }
namespace Rows
def none {H : Type} : Left H := { results := [], args := [] }

/-- 'voxsatlaw.GainNoises': WHATEVER THE INPUT: true; the input reads as it did. -/
def gainNoisesSpec : ChangeSpec := { name := "gainNoises", fn := fun _ => fun
  | [d1, d2] => { results := [.lit (.bool true)], args := [d1, d2] }
  | _ => none }
def gainNoisesRow : OpenClaim := { program := "ythajpmilccpgeaa", sum := "340f4c1695a6503c2d9942d19d254ba36e01b8bfe448998cde2698554632e965", func := "voxsat/voxsatlaw.GainNoises", spec := "gainNoises", apart := false }
def GainNoisesSaid : Prop := gainNoisesRow.holds Try.pinned (OpenSpec.ofChange gainNoisesSpec)

/-- ITS FALSE NEIGHBOUR: 'it returns false'. Refute it at one input. -/
def gainNoisesWrong : ChangeSpec := { name := "gainNoises", fn := fun _ => fun
  | [d1, d2] => { results := [.lit (.bool false)], args := [d1, d2] }
  | _ => none }
def GainNoisesWrongFalsely : Prop := gainNoisesRow.holds Try.pinned (OpenSpec.ofChange gainNoisesWrong)

/-- 'voxsatlaw.GainFades': WHATEVER THE INPUT: true; the input reads as it did. -/
def gainFadesSpec : ChangeSpec := { name := "gainFades", fn := fun _ => fun
  | [d1, d2] => { results := [.lit (.bool true)], args := [d1, d2] }
  | _ => none }
def gainFadesRow : OpenClaim := { program := "ythajpmilccpgeaa", sum := "340f4c1695a6503c2d9942d19d254ba36e01b8bfe448998cde2698554632e965", func := "voxsat/voxsatlaw.GainFades", spec := "gainFades", recurses := true, apart := false }
def GainFadesSaid : Prop := gainFadesRow.holds Try.pinned (OpenSpec.ofChange gainFadesSpec)

/-- ITS FALSE NEIGHBOUR: 'it returns false'. Refute it at one input. -/
def gainFadesWrong : ChangeSpec := { name := "gainFades", fn := fun _ => fun
  | [d1, d2] => { results := [.lit (.bool false)], args := [d1, d2] }
  | _ => none }
def GainFadesWrongFalsely : Prop := gainFadesRow.holds Try.pinned (OpenSpec.ofChange gainFadesWrong)

/-- 'voxsatlaw.PitchPasts': WHATEVER THE INPUT: true; the input reads as it did. -/
def pitchPastsSpec : ChangeSpec := { name := "pitchPasts", fn := fun _ => fun
  | [d1, d2] => { results := [.lit (.bool true)], args := [d1, d2] }
  | _ => none }
def pitchPastsRow : OpenClaim := { program := "ythajpmilccpgeaa", sum := "340f4c1695a6503c2d9942d19d254ba36e01b8bfe448998cde2698554632e965", func := "voxsat/voxsatlaw.PitchPasts", spec := "pitchPasts", apart := false }
def PitchPastsSaid : Prop := pitchPastsRow.holds Try.pinned (OpenSpec.ofChange pitchPastsSpec)

/-- ITS FALSE NEIGHBOUR: 'it returns false'. Refute it at one input. -/
def pitchPastsWrong : ChangeSpec := { name := "pitchPasts", fn := fun _ => fun
  | [d1, d2] => { results := [.lit (.bool false)], args := [d1, d2] }
  | _ => none }
def PitchPastsWrongFalsely : Prop := pitchPastsRow.holds Try.pinned (OpenSpec.ofChange pitchPastsWrong)

/-- 'voxsatlaw.LpcMixes': WHATEVER THE INPUT: true; the input reads as it did. -/
def lpcMixesSpec : ChangeSpec := { name := "lpcMixes", fn := fun _ => fun
  | [d1, d2, d3] => { results := [.lit (.bool true)], args := [d1, d2, d3] }
  | _ => none }
def lpcMixesRow : OpenClaim := { program := "ythajpmilccpgeaa", sum := "340f4c1695a6503c2d9942d19d254ba36e01b8bfe448998cde2698554632e965", func := "voxsat/voxsatlaw.LpcMixes", spec := "lpcMixes", apart := false }
def LpcMixesSaid : Prop := lpcMixesRow.holds Try.pinned (OpenSpec.ofChange lpcMixesSpec)

/-- ITS FALSE NEIGHBOUR: 'it returns false'. Refute it at one input. -/
def lpcMixesWrong : ChangeSpec := { name := "lpcMixes", fn := fun _ => fun
  | [d1, d2, d3] => { results := [.lit (.bool false)], args := [d1, d2, d3] }
  | _ => none }
def LpcMixesWrongFalsely : Prop := lpcMixesRow.holds Try.pinned (OpenSpec.ofChange lpcMixesWrong)

/-- 'voxsatlaw.LpcExpands': WHATEVER THE INPUT: true; the input reads as it did. -/
def lpcExpandsSpec : ChangeSpec := { name := "lpcExpands", fn := fun _ => fun
  | [d1, d2] => { results := [.lit (.bool true)], args := [d1, d2] }
  | _ => none }
def lpcExpandsRow : OpenClaim := { program := "ythajpmilccpgeaa", sum := "340f4c1695a6503c2d9942d19d254ba36e01b8bfe448998cde2698554632e965", func := "voxsat/voxsatlaw.LpcExpands", spec := "lpcExpands", apart := false }
def LpcExpandsSaid : Prop := lpcExpandsRow.holds Try.pinned (OpenSpec.ofChange lpcExpandsSpec)

/-- ITS FALSE NEIGHBOUR: 'it returns false'. Refute it at one input. -/
def lpcExpandsWrong : ChangeSpec := { name := "lpcExpands", fn := fun _ => fun
  | [d1, d2] => { results := [.lit (.bool false)], args := [d1, d2] }
  | _ => none }
def LpcExpandsWrongFalsely : Prop := lpcExpandsRow.holds Try.pinned (OpenSpec.ofChange lpcExpandsWrong)

/-- 'voxsatlaw.LpcDirects': WHATEVER THE INPUT: true; the input reads as it did. -/
def lpcDirectsSpec : ChangeSpec := { name := "lpcDirects", fn := fun _ => fun
  | [d] => { results := [.lit (.bool true)], args := [d] }
  | _ => none }
def lpcDirectsRow : OpenClaim := { program := "ythajpmilccpgeaa", sum := "340f4c1695a6503c2d9942d19d254ba36e01b8bfe448998cde2698554632e965", func := "voxsat/voxsatlaw.LpcDirects", spec := "lpcDirects", apart := false }
def LpcDirectsSaid : Prop := lpcDirectsRow.holds Try.pinned (OpenSpec.ofChange lpcDirectsSpec)

/-- ITS FALSE NEIGHBOUR: 'it returns false'. Refute it at one input. -/
def lpcDirectsWrong : ChangeSpec := { name := "lpcDirects", fn := fun _ => fun
  | [d] => { results := [.lit (.bool false)], args := [d] }
  | _ => none }
def LpcDirectsWrongFalsely : Prop := lpcDirectsRow.holds Try.pinned (OpenSpec.ofChange lpcDirectsWrong)

/-- 'voxsatlaw.LpcLevinsons': WHATEVER THE INPUT: true; the input reads as it did. -/
def lpcLevinsonsSpec : ChangeSpec := { name := "lpcLevinsons", fn := fun _ => fun
  | [d] => { results := [.lit (.bool true)], args := [d] }
  | _ => none }
def lpcLevinsonsRow : OpenClaim := { program := "ythajpmilccpgeaa", sum := "340f4c1695a6503c2d9942d19d254ba36e01b8bfe448998cde2698554632e965", func := "voxsat/voxsatlaw.LpcLevinsons", spec := "lpcLevinsons", apart := false }
def LpcLevinsonsSaid : Prop := lpcLevinsonsRow.holds Try.pinned (OpenSpec.ofChange lpcLevinsonsSpec)

/-- ITS FALSE NEIGHBOUR: 'it returns false'. Refute it at one input. -/
def lpcLevinsonsWrong : ChangeSpec := { name := "lpcLevinsons", fn := fun _ => fun
  | [d] => { results := [.lit (.bool false)], args := [d] }
  | _ => none }
def LpcLevinsonsWrongFalsely : Prop := lpcLevinsonsRow.holds Try.pinned (OpenSpec.ofChange lpcLevinsonsWrong)

/-- 'voxsatlaw.FrontHighs': WHATEVER THE INPUT: true; the input reads as it did. -/
def frontHighsSpec : ChangeSpec := { name := "frontHighs", fn := fun _ => fun
  | [d1, d2] => { results := [.lit (.bool true)], args := [d1, d2] }
  | _ => none }
def frontHighsRow : OpenClaim := { program := "ythajpmilccpgeaa", sum := "340f4c1695a6503c2d9942d19d254ba36e01b8bfe448998cde2698554632e965", func := "voxsat/voxsatlaw.FrontHighs", spec := "frontHighs", apart := false }
def FrontHighsSaid : Prop := frontHighsRow.holds Try.pinned (OpenSpec.ofChange frontHighsSpec)

/-- ITS FALSE NEIGHBOUR: 'it returns false'. Refute it at one input. -/
def frontHighsWrong : ChangeSpec := { name := "frontHighs", fn := fun _ => fun
  | [d1, d2] => { results := [.lit (.bool false)], args := [d1, d2] }
  | _ => none }
def FrontHighsWrongFalsely : Prop := frontHighsRow.holds Try.pinned (OpenSpec.ofChange frontHighsWrong)

/-- 'voxsatlaw.FrontCorrelates': WHATEVER THE INPUT: true; the input reads as it did. -/
def frontCorrelatesSpec : ChangeSpec := { name := "frontCorrelates", fn := fun _ => fun
  | [d] => { results := [.lit (.bool true)], args := [d] }
  | _ => none }
def frontCorrelatesRow : OpenClaim := { program := "ythajpmilccpgeaa", sum := "340f4c1695a6503c2d9942d19d254ba36e01b8bfe448998cde2698554632e965", func := "voxsat/voxsatlaw.FrontCorrelates", spec := "frontCorrelates", recurses := true, apart := false }
def FrontCorrelatesSaid : Prop := frontCorrelatesRow.holds Try.pinned (OpenSpec.ofChange frontCorrelatesSpec)

/-- ITS FALSE NEIGHBOUR: 'it returns false'. Refute it at one input. -/
def frontCorrelatesWrong : ChangeSpec := { name := "frontCorrelates", fn := fun _ => fun
  | [d] => { results := [.lit (.bool false)], args := [d] }
  | _ => none }
def FrontCorrelatesWrongFalsely : Prop := frontCorrelatesRow.holds Try.pinned (OpenSpec.ofChange frontCorrelatesWrong)

/-- 'voxsatlaw.SynthMakes': WHATEVER THE INPUT: true; the input reads as it did. -/
def synthMakesSpec : ChangeSpec := { name := "synthMakes", fn := fun _ => fun
  | [d1, d2, d3] => { results := [.lit (.bool true)], args := [d1, d2, d3] }
  | _ => none }
def synthMakesRow : OpenClaim := { program := "ythajpmilccpgeaa", sum := "340f4c1695a6503c2d9942d19d254ba36e01b8bfe448998cde2698554632e965", func := "voxsat/voxsatlaw.SynthMakes", spec := "synthMakes", apart := false }
def SynthMakesSaid : Prop := synthMakesRow.holds Try.pinned (OpenSpec.ofChange synthMakesSpec)

/-- ITS FALSE NEIGHBOUR: 'it returns false'. Refute it at one input. -/
def synthMakesWrong : ChangeSpec := { name := "synthMakes", fn := fun _ => fun
  | [d1, d2, d3] => { results := [.lit (.bool false)], args := [d1, d2, d3] }
  | _ => none }
def SynthMakesWrongFalsely : Prop := synthMakesRow.holds Try.pinned (OpenSpec.ofChange synthMakesWrong)

/-- 'voxsatlaw.SynthUndoes': WHATEVER THE INPUT: true; the input reads as it did. -/
def synthUndoesSpec : ChangeSpec := { name := "synthUndoes", fn := fun _ => fun
  | [d1, d2, d3] => { results := [.lit (.bool true)], args := [d1, d2, d3] }
  | _ => none }
def synthUndoesRow : OpenClaim := { program := "ythajpmilccpgeaa", sum := "340f4c1695a6503c2d9942d19d254ba36e01b8bfe448998cde2698554632e965", func := "voxsat/voxsatlaw.SynthUndoes", spec := "synthUndoes", apart := false }
def SynthUndoesSaid : Prop := synthUndoesRow.holds Try.pinned (OpenSpec.ofChange synthUndoesSpec)

/-- ITS FALSE NEIGHBOUR: 'it returns false'. Refute it at one input. -/
def synthUndoesWrong : ChangeSpec := { name := "synthUndoes", fn := fun _ => fun
  | [d1, d2, d3] => { results := [.lit (.bool false)], args := [d1, d2, d3] }
  | _ => none }
def SynthUndoesWrongFalsely : Prop := synthUndoesRow.holds Try.pinned (OpenSpec.ofChange synthUndoesWrong)

/-- 'voxsatlaw.SynthRings': WHATEVER THE INPUT: true; the input reads as it did. -/
def synthRingsSpec : ChangeSpec := { name := "synthRings", fn := fun _ => fun
  | [d1, d2] => { results := [.lit (.bool true)], args := [d1, d2] }
  | _ => none }
def synthRingsRow : OpenClaim := { program := "ythajpmilccpgeaa", sum := "340f4c1695a6503c2d9942d19d254ba36e01b8bfe448998cde2698554632e965", func := "voxsat/voxsatlaw.SynthRings", spec := "synthRings", apart := false }
def SynthRingsSaid : Prop := synthRingsRow.holds Try.pinned (OpenSpec.ofChange synthRingsSpec)

/-- ITS FALSE NEIGHBOUR: 'it returns false'. Refute it at one input. -/
def synthRingsWrong : ChangeSpec := { name := "synthRings", fn := fun _ => fun
  | [d1, d2] => { results := [.lit (.bool false)], args := [d1, d2] }
  | _ => none }
def SynthRingsWrongFalsely : Prop := synthRingsRow.holds Try.pinned (OpenSpec.ofChange synthRingsWrong)

/- THE SECOND FORM. 'bulk': how many values and letters a reading holds, each counted each time it is reached (what is shared counts as often as it is met; a slice's spare places count too). A statement '..UptoSaid' is the law's where the arguments, and the package variables that the reading takes, are together of bulk at most 1048576: NARROWER than '..Said'. Prove '..Said' where nothing that the law and all that it calls make is longer than what came in: it says more and counts as full. Else prove '..UptoSaid'. A law counts once. -/
mutual
def uptoBulk {H : Type} : DataW H → Nat
  | .lit (.string bytes) => bytes.length + 1
  | .lit _ => 1
  | .nil => 1
  | .ptr d => uptoBulk d + 1
  | .slice elems spare => uptoBulkAll elems + uptoBulkAll spare + 1
  | .agg parts => uptoBulkAll parts + 1
  | .iface _ d => uptoBulk d + 1
  | .map entries => uptoBulkEntries entries + 1
  | .held _ => 1
def uptoBulkAll {H : Type} : List (DataW H) → Nat
  | [] => 0
  | d :: r => uptoBulk d + uptoBulkAll r
def uptoBulkEntries {H : Type} : List (Lit × DataW H) → Nat
  | [] => 0
  | x :: r => uptoBulkEntry x + uptoBulkEntries r
def uptoBulkEntry {H : Type} : Lit × DataW H → Nat
  | (.string bytes, d) => bytes.length + uptoBulk d + 1
  | (_, d) => uptoBulk d + 1
 end
def uptoSmall : (H : Type) → List (DataW H) → Bool := fun _ ds => decide (uptoBulkAll ds ≤ 1048576)
def OpenSpec.upto (s : _root_.Go.ChangeSpec) : _root_.Go.OpenSpec := { _root_.Go.OpenSpec.ofChange s with cond := some uptoSmall }

/-- 'voxsatlaw.GainNoises', WHERE WHAT IT READS IS OF BULK AT MOST 1048576: true; the input reads as it did. -/
def gainNoisesUptoRow : OpenClaim := { program := "ythajpmilccpgeaa", sum := "340f4c1695a6503c2d9942d19d254ba36e01b8bfe448998cde2698554632e965", func := "voxsat/voxsatlaw.GainNoises", spec := "gainNoises", apart := false, narrowed := true }
def GainNoisesUptoSaid : Prop := gainNoisesUptoRow.holds Try.pinned (OpenSpec.upto gainNoisesSpec)

/-- 'voxsatlaw.GainFades', WHERE WHAT IT READS IS OF BULK AT MOST 1048576: true; the input reads as it did. -/
def gainFadesUptoRow : OpenClaim := { program := "ythajpmilccpgeaa", sum := "340f4c1695a6503c2d9942d19d254ba36e01b8bfe448998cde2698554632e965", func := "voxsat/voxsatlaw.GainFades", spec := "gainFades", recurses := true, apart := false, narrowed := true }
def GainFadesUptoSaid : Prop := gainFadesUptoRow.holds Try.pinned (OpenSpec.upto gainFadesSpec)

/-- 'voxsatlaw.PitchPasts', WHERE WHAT IT READS IS OF BULK AT MOST 1048576: true; the input reads as it did. -/
def pitchPastsUptoRow : OpenClaim := { program := "ythajpmilccpgeaa", sum := "340f4c1695a6503c2d9942d19d254ba36e01b8bfe448998cde2698554632e965", func := "voxsat/voxsatlaw.PitchPasts", spec := "pitchPasts", apart := false, narrowed := true }
def PitchPastsUptoSaid : Prop := pitchPastsUptoRow.holds Try.pinned (OpenSpec.upto pitchPastsSpec)

/-- 'voxsatlaw.LpcMixes', WHERE WHAT IT READS IS OF BULK AT MOST 1048576: true; the input reads as it did. -/
def lpcMixesUptoRow : OpenClaim := { program := "ythajpmilccpgeaa", sum := "340f4c1695a6503c2d9942d19d254ba36e01b8bfe448998cde2698554632e965", func := "voxsat/voxsatlaw.LpcMixes", spec := "lpcMixes", apart := false, narrowed := true }
def LpcMixesUptoSaid : Prop := lpcMixesUptoRow.holds Try.pinned (OpenSpec.upto lpcMixesSpec)

/-- 'voxsatlaw.LpcExpands', WHERE WHAT IT READS IS OF BULK AT MOST 1048576: true; the input reads as it did. -/
def lpcExpandsUptoRow : OpenClaim := { program := "ythajpmilccpgeaa", sum := "340f4c1695a6503c2d9942d19d254ba36e01b8bfe448998cde2698554632e965", func := "voxsat/voxsatlaw.LpcExpands", spec := "lpcExpands", apart := false, narrowed := true }
def LpcExpandsUptoSaid : Prop := lpcExpandsUptoRow.holds Try.pinned (OpenSpec.upto lpcExpandsSpec)

/-- 'voxsatlaw.LpcDirects', WHERE WHAT IT READS IS OF BULK AT MOST 1048576: true; the input reads as it did. -/
def lpcDirectsUptoRow : OpenClaim := { program := "ythajpmilccpgeaa", sum := "340f4c1695a6503c2d9942d19d254ba36e01b8bfe448998cde2698554632e965", func := "voxsat/voxsatlaw.LpcDirects", spec := "lpcDirects", apart := false, narrowed := true }
def LpcDirectsUptoSaid : Prop := lpcDirectsUptoRow.holds Try.pinned (OpenSpec.upto lpcDirectsSpec)

/-- 'voxsatlaw.LpcLevinsons', WHERE WHAT IT READS IS OF BULK AT MOST 1048576: true; the input reads as it did. -/
def lpcLevinsonsUptoRow : OpenClaim := { program := "ythajpmilccpgeaa", sum := "340f4c1695a6503c2d9942d19d254ba36e01b8bfe448998cde2698554632e965", func := "voxsat/voxsatlaw.LpcLevinsons", spec := "lpcLevinsons", apart := false, narrowed := true }
def LpcLevinsonsUptoSaid : Prop := lpcLevinsonsUptoRow.holds Try.pinned (OpenSpec.upto lpcLevinsonsSpec)

/-- 'voxsatlaw.FrontHighs', WHERE WHAT IT READS IS OF BULK AT MOST 1048576: true; the input reads as it did. -/
def frontHighsUptoRow : OpenClaim := { program := "ythajpmilccpgeaa", sum := "340f4c1695a6503c2d9942d19d254ba36e01b8bfe448998cde2698554632e965", func := "voxsat/voxsatlaw.FrontHighs", spec := "frontHighs", apart := false, narrowed := true }
def FrontHighsUptoSaid : Prop := frontHighsUptoRow.holds Try.pinned (OpenSpec.upto frontHighsSpec)

/-- 'voxsatlaw.FrontCorrelates', WHERE WHAT IT READS IS OF BULK AT MOST 1048576: true; the input reads as it did. -/
def frontCorrelatesUptoRow : OpenClaim := { program := "ythajpmilccpgeaa", sum := "340f4c1695a6503c2d9942d19d254ba36e01b8bfe448998cde2698554632e965", func := "voxsat/voxsatlaw.FrontCorrelates", spec := "frontCorrelates", recurses := true, apart := false, narrowed := true }
def FrontCorrelatesUptoSaid : Prop := frontCorrelatesUptoRow.holds Try.pinned (OpenSpec.upto frontCorrelatesSpec)

/-- 'voxsatlaw.SynthMakes', WHERE WHAT IT READS IS OF BULK AT MOST 1048576: true; the input reads as it did. -/
def synthMakesUptoRow : OpenClaim := { program := "ythajpmilccpgeaa", sum := "340f4c1695a6503c2d9942d19d254ba36e01b8bfe448998cde2698554632e965", func := "voxsat/voxsatlaw.SynthMakes", spec := "synthMakes", apart := false, narrowed := true }
def SynthMakesUptoSaid : Prop := synthMakesUptoRow.holds Try.pinned (OpenSpec.upto synthMakesSpec)

/-- 'voxsatlaw.SynthUndoes', WHERE WHAT IT READS IS OF BULK AT MOST 1048576: true; the input reads as it did. -/
def synthUndoesUptoRow : OpenClaim := { program := "ythajpmilccpgeaa", sum := "340f4c1695a6503c2d9942d19d254ba36e01b8bfe448998cde2698554632e965", func := "voxsat/voxsatlaw.SynthUndoes", spec := "synthUndoes", apart := false, narrowed := true }
def SynthUndoesUptoSaid : Prop := synthUndoesUptoRow.holds Try.pinned (OpenSpec.upto synthUndoesSpec)

/-- 'voxsatlaw.SynthRings', WHERE WHAT IT READS IS OF BULK AT MOST 1048576: true; the input reads as it did. -/
def synthRingsUptoRow : OpenClaim := { program := "ythajpmilccpgeaa", sum := "340f4c1695a6503c2d9942d19d254ba36e01b8bfe448998cde2698554632e965", func := "voxsat/voxsatlaw.SynthRings", spec := "synthRings", apart := false, narrowed := true }
def SynthRingsUptoSaid : Prop := synthRingsUptoRow.holds Try.pinned (OpenSpec.upto synthRingsSpec)

end Rows
end Go.Proofs.Ythajpmilccpgeaa
