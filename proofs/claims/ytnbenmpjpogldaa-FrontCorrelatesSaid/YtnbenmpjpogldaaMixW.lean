/- The walk of Mix, the program's. -/
import Derived.Test.YtnbenmpjpogldaaRow
import Derived.Test.YtnbenmpjpogldaaLpcM
import Derived.Test.YtnbenmpjpogldaaBigRd
import Derived.RegionTactic
namespace Go.Proofs.Ytnbenmpjpogldaa
set_option linter.unusedVariables false
set_option linter.unusedSimpArgs false
set_option maxRecDepth 100000
open Go.RowKit

def Mixes (w : World) (a b : List Int) (num : Int) (e : Ending) (w' : World) : Prop := e = .returned (.tuple #[.agg (agi (mixL a b num)), .int .i64 (errOf (mixB a b num))]) ∧ Below w.heap.size w w'
def Z8 : List Int := List.replicate 8 0
def Z9 : List Int := List.replicate 9 0
theorem z8_eq : agi Z8 = #[.int .i64 0, .int .i64 0, .int .i64 0, .int .i64 0, .int .i64 0, .int .i64 0, .int .i64 0, .int .i64 0] := rfl
theorem z9_eq : agi Z9 = #[.int .i64 0, .int .i64 0, .int .i64 0, .int .i64 0, .int .i64 0, .int .i64 0, .int .i64 0, .int .i64 0, .int .i64 0] := rfl
theorem size9 : (Try.prog.info? 23).map (·.size) = some 9 := by kernel_rfl

theorem mix_bad {w w' : World} {a b : List Int} {num : Int} (h : mixB a b num = false) (hB : Below w.heap.size w w') : Mixes w a b num (.returned (.tuple #[.agg (agi Z8), .int .i64 2])) w' := by
  refine ⟨?_, hB⟩
  unfold mixL errOf
  rw [h]
  rfl
theorem mix_good {w w' : World} {a b ys : List Int} {num : Int} (h : mixB a b num = true) (hl : ys.length = 8) (hy : ∀ j, j < 8 → ys.getD j 0 = mixE a b num j) (hB : Below w.heap.size w w') : Mixes w a b num (.returned (.tuple #[.agg (agi ys), .int .i64 0])) w' := by
  refine ⟨?_, hB⟩
  have e : ys = mixL a b num := by
    apply list_ext (by rw [hl, mixL_len])
    intro j hj
    rw [hy j (by omega)]
    unfold mixL
    rw [if_pos h, List.getD_eq_getElem?_getD, List.getElem?_map, List.getElem?_range (by omega)]
    rfl
  unfold errOf
  rw [h, e]
  rfl
theorem mixB_a {a b : List Int} {num : Int} {k : Nat} (hk : k < a.length) (h : a.getD k 0 ≤ -32768 ∨ 32768 ≤ a.getD k 0) : mixB a b num = false := by
  unfold mixB steadyB; rw [all_no hk (okR_no h)]; simp
theorem mixB_b {a b : List Int} {num : Int} {k : Nat} (hk : k < b.length) (h : b.getD k 0 ≤ -32768 ∨ 32768 ≤ b.getD k 0) : mixB a b num = false := by
  unfold mixB steadyB; rw [all_no hk (okR_no h)]; simp

end Go.Proofs.Ytnbenmpjpogldaa
