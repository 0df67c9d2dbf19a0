/- The walks of package basic's functions on numbers of 16 and 32 bits. -/
import Derived.Test.YtnbenmpjpogldaaRows
import Derived.WalkKit
import Derived.WalkLawsBesides
namespace Go.Proofs.Ytnbenmpjpogldaa
set_option linter.unusedVariables false
set_option linter.unusedSimpArgs false
set_option maxRecDepth 100000
open Go.RowKit

def lim (lo hi x : Int) : Int := if x < lo then lo else if hi < x then hi else x
def limd (lo hi x : Int) : Bool := if x < lo then true else if hi < x then true else false

theorem lim_range {lo hi : Int} (h : lo ≤ hi) (x : Int) : lo ≤ lim lo hi x ∧ lim lo hi x ≤ hi := by
  unfold lim; repeat' split
  all_goals omega

def s16 (x : Int) : Int := lim (-32768) 32767 x
def s32 (x : Int) : Int := lim (-2147483648) 2147483647 x
theorem s16_range (x : Int) : -32768 ≤ s16 x ∧ s16 x ≤ 32767 := lim_range (by omega) x
theorem s32_range (x : Int) : -2147483648 ≤ s32 x ∧ s32 x ≤ 2147483647 := lim_range (by omega) x
def d16 (x : Int) : Bool := limd (-32768) 32767 x
def d32 (x : Int) : Bool := limd (-2147483648) 2147483647 x

/-- What a function answers that gives a number and whether it was stopped, and leaves the world alone. -/
def Pair (w : World) (n : Int) (b : Bool) (e : Ending) (w' : World) : Prop := e = .returned (.tuple #[.int .i64 n, .bool b]) ∧ w = w'

theorem stop_any (x lo hi : Int) (w : World) :
    Calls Try.prog 33 #[.int .i64 x, .int .i64 lo, .int .i64 hi] w (Pair w (lim lo hi x) (limd lo hi x)) := by
  unfold lim limd
  go_enter Try.func33, Try.ntmps33
  go_wp2
  all_goals (go_ret2; exact ⟨by simp [*], rfl⟩)

theorem sat16_any (x : Int) (w : World) : Calls Try.prog 29 #[.int .i64 x] w (Pair w (s16 x) (d16 x)) := by
  go_enter Try.func29, Try.ntmps29
  go_wp2_with (go_at_call 33; refine (stop_any _ _ _ _).mono ?_; rintro e w' ⟨rfl, rfl⟩)
  go_ret2
  exact ⟨rfl, rfl⟩

end Go.Proofs.Ytnbenmpjpogldaa
