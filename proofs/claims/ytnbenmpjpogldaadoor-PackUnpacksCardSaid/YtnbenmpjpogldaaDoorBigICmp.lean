/- The walk of Cmp. -/
import Derived.Test.YtnbenmpjpogldaaDoorBigInt3
namespace Go.Proofs.YtnbenmpjpogldaaDoor
set_option linter.unusedVariables false
set_option linter.unusedSimpArgs false
set_option maxRecDepth 100000
open Go.RowKit

theorem below_drN (w : World) (k : Nat) : Below w.heap.size w (w.drewN k) := ⟨rfl, rfl, rfl, Nat.le_refl _, fun _ _ => rfl⟩

theorem quiet_more {f : FuncId} {args : Array Value} {w : World} {a n : Nat} {v : Value}
    (h : Calls Tryd.prog f args (w.drewN (a + n)) fun e w' => e = .returned v ∧ ∃ m, w' = (w.drewN (a + n)).drewN m) :
    Calls Tryd.prog f args (w.drewN (a + n)) fun e w'' => e = .returned v ∧ ∃ m, w'' = w.drewN (a + m) :=
  h.mono fun _ _ ⟨he, m, hm⟩ => ⟨he, n + m, by rw [hm, World.drewN_drewN, Nat.add_assoc]⟩

def cmpZ (x y : Int) : Int := if x < y then -1 else if y < x then 1 else 0

theorem cmpZ_pos {x y : Int} (hx : ¬ x < 0) (hy : ¬ y < 0) : cmpZ x y = cmpN x.natAbs y.natAbs := by
  unfold cmpZ cmpN
  repeat' split
  all_goals omega
theorem cmpZ_neg {x y : Int} (hx : x < 0) (hy : y < 0) : cmpZ x y = -cmpN x.natAbs y.natAbs := by
  unfold cmpZ cmpN
  repeat' split
  all_goals omega

theorem cmpN_range (a b : Nat) : -1 ≤ cmpN a b ∧ cmpN a b ≤ 1 := by
  unfold cmpN
  repeat' split
  all_goals omega

end Go.Proofs.YtnbenmpjpogldaaDoor
