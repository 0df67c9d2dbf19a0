/- The walk of the reference's down. -/
import Derived.Test.YtcfmipobgljbeaaDoorRefClip
import Derived.Test.YtcfmipobgljbeaaDoorBigRsh
namespace Go.Proofs.YtcfmipobgljbeaaDoor
set_option linter.unusedVariables false
set_option linter.unusedSimpArgs false
set_option maxRecDepth 100000
open Go.RowKit

theorem pow2_pos (n : Nat) : (0 : Int) < 2 ^ n := Int.pow_pos (by decide)
theorem ediv_lo {a lo p : Int} (hp : 0 < p) (h0 : lo ≤ 0) (h : lo ≤ a) : lo ≤ a / p := by
  rw [Int.le_ediv_iff_mul_le hp]
  have h1 := Int.mul_le_mul_of_nonneg_left (show (1 : Int) ≤ p by omega) (show 0 ≤ -lo by omega)
  rw [Int.neg_mul, Int.neg_mul, Int.mul_one] at h1
  omega
theorem ediv_hi {a hi p : Int} (hp : 0 < p) (h0 : 0 ≤ hi) (h : a ≤ hi) : a / p ≤ hi := by
  have h1 := Int.ediv_le_ediv hp h
  have h2 := Int.ediv_le_self p (a := hi) h0
  omega

end Go.Proofs.YtcfmipobgljbeaaDoor
