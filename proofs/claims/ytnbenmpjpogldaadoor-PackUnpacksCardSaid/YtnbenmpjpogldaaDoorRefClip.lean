/- The walks of the reference's whole, clip, S, L, Sat16, Sat32. -/
import Derived.Test.YtnbenmpjpogldaaDoorBigSubO
import Derived.Test.YtnbenmpjpogldaaDoorBigICmp
import Derived.Test.YtnbenmpjpogldaaDoorNumA
namespace Go.Proofs.YtnbenmpjpogldaaDoor
set_option linter.unusedVariables false
set_option linter.unusedSimpArgs false
set_option maxRecDepth 100000
open Go.RowKit

theorem NewI.at_ {w w' : World} {z : Int} {e : Ending} (h : NewI w z e w') : ∃ b, e = .returned (.pointer (some ⟨b, 0, none⟩)) ∧ w.heap.size ≤ b ∧ IntAt w' b z ∧ Below w.heap.size w w' := h

set_option maxHeartbeats 1000000 in
theorem whole_any (w : World) (x : Int) (h1 : -9223372036854775808 ≤ x) (h2 : x ≤ 9223372036854775807) :
    Calls Tryd.prog 20 #[.int .i64 x] w (NewI w x) := by
  go_enter Tryd.func20, Tryd.ntmps20
  go_wp2_with (go_at_call 34; refine (NewInt_any w x h1 h2).mono ?_; rintro e w1 ⟨b, rfl, hb, hI, hB⟩)
  go_ret
  exact ⟨b, rfl, hb, hI, hB⟩

theorem sm_pow (m : Nat) (h : m ≤ 64) : Sm (((2 : Int) ^ m)).natAbs := by
  apply sm_of_lt
  rw [Int.natAbs_pow]
  have : (2 : Nat) ^ m ≤ 2 ^ 64 := Nat.pow_le_pow_right (by decide) h
  show (2 : Nat) ^ m < _
  omega

/-- What clip answers. -/
def Clips (w : World) (lo hi z : Int) (e : Ending) (w' : World) : Prop := e = .returned (.tuple #[.int .i64 (lim lo hi z), .bool (limd lo hi z)]) ∧ Below w.heap.size w w'

/-- What a function answers that gives a number and new memory at most. -/
def GivesZ (w : World) (n : Int) (e : Ending) (w' : World) : Prop := e = .returned (.int .i64 n) ∧ Below w.heap.size w w'

end Go.Proofs.YtnbenmpjpogldaaDoor
