/- Plain facts on c * c / e against d * d / f. No program in sight. -/
import Derived.WalkKit
namespace Go.Proofs.Ytcfmipobgljbeaa
set_option linter.unusedVariables false
set_option linter.unusedSimpArgs false
set_option maxRecDepth 100000

/-- Is c * c / e greater than d * d / f? -/
def betterB (c e d f : Int) : Bool := if e ≤ 0 then false else if f ≤ 0 then true else decide (max d 0 * max d 0 * e < max c 0 * max c 0 * f)

theorem better_no {c e d f : Int} (h : e ≤ 0) : betterB c e d f = false := by unfold betterB; rw [if_pos h]
theorem better_yes {c e d f : Int} (h : 0 < e) (h2 : f ≤ 0) : betterB c e d f = true := by unfold betterB; rw [if_neg (by omega), if_pos h2]
theorem better_cmp {c e d f : Int} (h : 0 < e) (h2 : 0 < f) : betterB c e d f = decide (max d 0 * max d 0 * e < max c 0 * max c 0 * f) := by unfold betterB; rw [if_neg (by omega), if_neg (by omega)]

/-- Digit k (the highest first) of three to base 2^64. -/
def dg (n k : Nat) : Nat := if k = 0 then n / 340282366920938463463374607431768211456 else if k = 1 then n / 18446744073709551616 % 18446744073709551616 else n % 18446744073709551616
theorem dg0 (n : Nat) : dg n 0 = n / 340282366920938463463374607431768211456 := rfl
theorem dg1 (n : Nat) : dg n 1 = n / 18446744073709551616 % 18446744073709551616 := rfl
theorem dg2 (n : Nat) : dg n 2 = n % 18446744073709551616 := rfl
theorem dg_lt {n : Nat} (h : n / 340282366920938463463374607431768211456 < 18446744073709551616) (k : Nat) : dg n k < 18446744073709551616 := by
  unfold dg
  repeat' split
  all_goals omega

/-- The highest digits that part decide. -/
theorem dg_cmp (x y : Nat) :
    (dg x 0 ≠ dg y 0 → (dg y 0 < dg x 0 ↔ y < x)) ∧ (dg x 0 = dg y 0 → dg x 1 ≠ dg y 1 → (dg y 1 < dg x 1 ↔ y < x)) ∧
    (dg x 0 = dg y 0 → dg x 1 = dg y 1 → dg x 2 ≠ dg y 2 → (dg y 2 < dg x 2 ↔ y < x)) ∧ (dg x 0 = dg y 0 → dg x 1 = dg y 1 → dg x 2 = dg y 2 → x = y) := by
  simp only [dg0, dg1, dg2]
  refine ⟨?_, ?_, ?_, ?_⟩ <;> omega
end Go.Proofs.Ytcfmipobgljbeaa
