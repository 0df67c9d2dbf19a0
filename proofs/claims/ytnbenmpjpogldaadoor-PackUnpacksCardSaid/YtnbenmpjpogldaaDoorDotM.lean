/- Plain facts on sums of products; a new whole number. -/
import Derived.Test.YtnbenmpjpogldaaDoorRefClip
import Derived.Test.YtnbenmpjpogldaaDoorSumM
import Derived.Test.YtnbenmpjpogldaaDoorMem
import Derived.Deep.RegionHeld3
namespace Go.Proofs.YtnbenmpjpogldaaDoor
set_option linter.unusedVariables false
set_option linter.unusedSimpArgs false
set_option maxRecDepth 100000
open Go.RowKit

theorem sm_small' {z : Int} (h1 : -9223372036854775808 ≤ z) (h2 : z ≤ 9223372036854775807) : Sm z.natAbs := sm_of_lt (by omega)
theorem cell_grown {w w' : World} {b : Nat} {p : Addr} (h : w.grownBy w' (some b)) (hp : p.block ≠ b) (hlt : p.block < w.heap.size) : w'.cell? p = w.cell? p := by
  have := h.block p.block hlt (by simpa using hp)
  unfold World.cell?
  rw [this]
theorem IntAt_zero (w : World) : IntAt (w.alloc (.cells #[.bool false, .slice none 0 0] 54)) w.heap.size 0 := ⟨_, heap_alloc_new w _, Nm.nil _⟩
def dterm (xs ys : List Int) (i : Nat) : Int := xs.getD i 0 * ys.getD i 0
def dotL (xs ys : List Int) (n : Nat) : Int := sumN (dterm xs ys) n
/-- All of 16 bits. -/
def In16 (xs : List Int) : Prop := ∀ i, -32768 ≤ xs.getD i 0 ∧ xs.getD i 0 ≤ 32767
theorem prod16 {x y : Int} (h1 : -32768 ≤ x) (h2 : x ≤ 32767) (h3 : -32768 ≤ y) (h4 : y ≤ 32767) : -1073741824 ≤ x * y ∧ x * y ≤ 1073741824 := by
  have := mul_bound (x := x) (X := 32768) (y := y) (Y := 32768) (by omega) (by omega) ⟨by omega, by omega⟩ ⟨by omega, by omega⟩
  omega
theorem dotL_range {xs ys : List Int} (hx : In16 xs) (hy : In16 ys) (n : Nat) : -(1073741824 * (n : Int)) ≤ dotL xs ys n ∧ dotL xs ys n ≤ 1073741824 * (n : Int) := by
  unfold dotL
  induction n with
  | zero => simp [sumN]
  | succ n ih =>
    have h := prod16 (hx n).1 (hx n).2 (hy n).1 (hy n).2
    simp only [sumN]
    unfold dterm at *
    push_cast
    omega

end Go.Proofs.YtnbenmpjpogldaaDoor
