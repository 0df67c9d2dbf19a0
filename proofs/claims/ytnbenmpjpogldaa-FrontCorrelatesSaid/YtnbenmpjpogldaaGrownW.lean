/- The walks of the reference's at, grown. -/
import Derived.Test.YtnbenmpjpogldaaPush
import Derived.Test.YtnbenmpjpogldaaDownK
import Derived.Test.YtnbenmpjpogldaaLpcM
import Derived.IntWalk
namespace Go.Proofs.Ytnbenmpjpogldaa
set_option linter.unusedVariables false
set_option linter.unusedSimpArgs false
set_option maxRecDepth 100000
open Go.RowKit

theorem Rs.drew {w : World} {B : Nat} {A : Option Addr} {xs : List Int} (h : Rs w B A xs) : Rs w.drew B A xs := h
theorem Rs.drewN {w : World} {B : Nat} {A : Option Addr} {xs : List Int} (h : Rs w B A xs) (n : Nat) : Rs (w.drewN n) B A xs := h

/-- A slice of numbers in new memory. -/
def NewS (w : World) (xs : List Int) (e : Ending) (w' : World) : Prop := ∃ A c, e = .returned (.slice A xs.length c) ∧ Own w' w.heap.size A c xs ∧ Below w.heap.size w w'

theorem keep_cell {wr w1 : World} {p : Addr} {v : Value} (hB : Below wr.drew.heap.size wr.drew w1) (hc : wr.cell? p = some v) : w1.cell? p = some v :=
  (hB.cell (World.block_lt_of_cell? wr p hc)).trans hc
theorem keep_frozen {wr w1 : World} {p : Addr} {v : Value} (hB : Below wr.drew.heap.size wr.drew w1) (hc : wr.cell? p = some v) (hf : wr.frozen? p = false) : w1.frozen? p = false :=
  (hB.frozen (World.block_lt_of_cell? wr p hc)).trans hf

/-- Ahead of round i: the numbers below i are the new predictor's. -/
def GrowMid (a zs : List Int) (q : Int) (m i : Nat) : Prop := zs.length = m + 1 ∧ ∀ j, j ≤ m → zs.getD j 0 = if j < i then (growL a q m).getD j 0 else a.getD j 0

theorem GrowMid.step {a zs : List Int} {q : Int} {m i : Nat} (h : GrowMid a zs q m i) (h0 : 1 ≤ i) (hi : i ≤ m) :
    GrowMid a (zs.set i (a.getD i 0 + q * a.getD (m - i) 0 / 32768)) q m (i + 1) := by
  refine ⟨by simpa using h.1, fun j hj => ?_⟩
  by_cases he : i = j
  · subst he
    rw [get_set_same _ _ _ (by rw [h.1]; omega), if_pos (by omega), growL_get _ _ _ _ hi, if_neg (by omega)]
  · rw [get_set_other _ _ he, h.2 j hj]
    by_cases h2 : j < i
    · rw [if_pos h2, if_pos (by omega)]
    · rw [if_neg h2, if_neg (by omega)]
theorem below_undrew {wr w1 : World} (h : Below wr.drew.heap.size wr.drew w1) : Below wr.heap.size wr w1 := ⟨h.os, h.tape, h.output, h.size, h.block⟩

end Go.Proofs.Ytnbenmpjpogldaa
