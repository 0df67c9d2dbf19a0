/- The walks of package basic's functions on numbers of 16 and 32 bits. -/
import Derived.Test.YtnbenmpjpogldaaDoorRows
import Derived.WalkKit
import Derived.WalkLawsBesides
namespace Go.Proofs.YtnbenmpjpogldaaDoor
set_option linter.unusedVariables false
set_option linter.unusedSimpArgs false
set_option maxRecDepth 100000
open Go.RowKit

def lim (lo hi x : Int) : Int := if x < lo then lo else if hi < x then hi else x
def limd (lo hi x : Int) : Bool := if x < lo then true else if hi < x then true else false

theorem lim_range {lo hi : Int} (h : lo ≤ hi) (x : Int) : lo ≤ lim lo hi x ∧ lim lo hi x ≤ hi := by
  unfold lim; repeat' split
  all_goals omega

def s16 (x : Int) : Int := lim (-32768) 32767 x
def s32 (x : Int) : Int := lim (-2147483648) 2147483647 x
theorem s16_range (x : Int) : -32768 ≤ s16 x ∧ s16 x ≤ 32767 := lim_range (by omega) x
theorem s32_range (x : Int) : -2147483648 ≤ s32 x ∧ s32 x ≤ 2147483647 := lim_range (by omega) x
def d16 (x : Int) : Bool := limd (-32768) 32767 x
def d32 (x : Int) : Bool := limd (-2147483648) 2147483647 x

/-- What a function answers that gives a number and whether it was stopped, and leaves the world alone. -/
def Pair (w : World) (n : Int) (b : Bool) (e : Ending) (w' : World) : Prop := e = .returned (.tuple #[.int .i64 n, .bool b]) ∧ w = w'

end Go.Proofs.YtnbenmpjpogldaaDoor
