/- Texts that the law rests on, laid together: BigSubO, RefClip, BigRsh, Down, BigIAdd, DownK. -/
import Derived.Test.YthoiikkjjaldnaaDoorZ7ba9e8
/- The walk of Sub, whatever Ints are one. -/
namespace Go.Proofs.YthoiikkjjaldnaaDoor
set_option linter.unusedVariables false
set_option linter.unusedSimpArgs false
set_option maxRecDepth 100000
open Go.RowKit

end Go.Proofs.YthoiikkjjaldnaaDoor

/- The walks of the reference's whole, clip, S, L, Sat16, Sat32. -/
namespace Go.Proofs.YthoiikkjjaldnaaDoor
set_option linter.unusedVariables false
set_option linter.unusedSimpArgs false
set_option maxRecDepth 100000
open Go.RowKit

theorem sm_pow (m : Nat) (h : m ≤ 64) : Sm (((2 : Int) ^ m)).natAbs := by
  apply sm_of_lt
  rw [Int.natAbs_pow]
  have : (2 : Nat) ^ m ≤ 2 ^ 64 := Nat.pow_le_pow_right (by decide) h
  show (2 : Nat) ^ m < _
  omega

/-- What clip answers. -/
def Clips (w : World) (lo hi z : Int) (e : Ending) (w' : World) : Prop := e = .returned (.tuple #[.int .i64 (lim lo hi z), .bool (limd lo hi z)]) ∧ Below w.heap.size w w'

/-- What a function answers that gives a number and new memory at most. -/
def GivesZ (w : World) (n : Int) (e : Ending) (w' : World) : Prop := e = .returned (.int .i64 n) ∧ Below w.heap.size w w'

end Go.Proofs.YthoiikkjjaldnaaDoor

/- The walk of Rsh. -/
namespace Go.Proofs.YthoiikkjjaldnaaDoor
set_option linter.unusedVariables false
set_option linter.unusedSimpArgs false
set_option maxRecDepth 100000
open Go.RowKit

end Go.Proofs.YthoiikkjjaldnaaDoor

/- The walk of the reference's down. -/
namespace Go.Proofs.YthoiikkjjaldnaaDoor
set_option linter.unusedVariables false
set_option linter.unusedSimpArgs false
set_option maxRecDepth 100000
open Go.RowKit

theorem pow2_pos (n : Nat) : (0 : Int) < 2 ^ n := Int.pow_pos (by decide)
theorem ediv_lo {a lo p : Int} (hp : 0 < p) (h0 : lo ≤ 0) (h : lo ≤ a) : lo ≤ a / p := by
  rw [Int.le_ediv_iff_mul_le hp]
  have h1 := Int.mul_le_mul_of_nonneg_left (show (1 : Int) ≤ p by omega) (show 0 ≤ -lo by omega)
  rw [Int.neg_mul, Int.neg_mul, Int.mul_one] at h1
  omega
theorem ediv_hi {a hi p : Int} (hp : 0 < p) (h0 : 0 ≤ hi) (h : a ≤ hi) : a / p ≤ hi := by
  have h1 := Int.ediv_le_ediv hp h
  have h2 := Int.ediv_le_self p (a := hi) h0
  omega

end Go.Proofs.YthoiikkjjaldnaaDoor

/- The walks of Add. -/
namespace Go.Proofs.YthoiikkjjaldnaaDoor
set_option linter.unusedVariables false
set_option linter.unusedSimpArgs false
set_option maxRecDepth 100000
open Go.RowKit

end Go.Proofs.YthoiikkjjaldnaaDoor

/- down by 9, 12, 13, 15 places, the number of places as it is written. -/
namespace Go.Proofs.YthoiikkjjaldnaaDoor
set_option linter.unusedVariables false
set_option linter.unusedSimpArgs false
set_option maxRecDepth 100000
open Go.RowKit
end Go.Proofs.YthoiikkjjaldnaaDoor
