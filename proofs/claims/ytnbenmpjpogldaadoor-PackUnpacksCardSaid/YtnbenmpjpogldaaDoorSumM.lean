/- Plain facts on sums. No program in sight. -/
import Derived.Test.YtnbenmpjpogldaaDoorLevM
namespace Go.Proofs.YtnbenmpjpogldaaDoor
set_option linter.unusedVariables false
set_option linter.unusedSimpArgs false
set_option maxRecDepth 100000

theorem sumN_add (f g : Nat → Int) (n : Nat) : sumN (fun i => f i + g i) n = sumN f n + sumN g n := by
  induction n with
  | zero => rfl
  | succ n ih => simp only [sumN]; rw [ih]; omega
theorem sumN_mul (c : Int) (f : Nat → Int) (n : Nat) : sumN (fun i => c * f i) n = c * sumN f n := by
  induction n with
  | zero => simp [sumN]
  | succ n ih => simp only [sumN]; rw [ih, Int.mul_add]
theorem sumN_zero (n : Nat) : sumN (fun _ => 0) n = 0 := by
  induction n with
  | zero => rfl
  | succ n ih => simp only [sumN]; rw [ih]; rfl
theorem sumN_swap (f : Nat → Nat → Int) (m n : Nat) : sumN (fun i => sumN (fun j => f i j) n) m = sumN (fun j => sumN (fun i => f i j) m) n := by
  induction m with
  | zero => simp only [sumN]; rw [sumN_zero]
  | succ m ih => simp only [sumN]; rw [ih, sumN_add]
theorem sumN_front (f : Nat → Int) (n : Nat) : sumN f (n + 1) = f 0 + sumN (fun i => f (i + 1)) n := by
  induction n with
  | zero => simp [sumN]
  | succ n ih => rw [sumN, ih]; simp only [sumN]; omega
theorem sumN_rev (f : Nat → Int) (n : Nat) : sumN f n = sumN (fun i => f (n - 1 - i)) n := by
  induction n with
  | zero => rfl
  | succ n ih =>
    rw [sumN_front (fun i => f (n + 1 - 1 - i)) n, sumN, ih]
    have e : sumN (fun i => f (n + 1 - 1 - (i + 1))) n = sumN (fun i => f (n - 1 - i)) n := sumN_congr n (fun i hi => by congr 1; omega)
    rw [e]
    simp only [Nat.add_sub_cancel, Nat.sub_zero]
    omega
theorem sumN_split (f : Nat → Int) (m n : Nat) : sumN f (m + n) = sumN f m + sumN (fun i => f (m + i)) n := by
  induction n with
  | zero => simp [sumN]
  | succ n ih => rw [← Nat.add_assoc, sumN, ih]; simp only [sumN]; omega
theorem sumN_head_zero (f : Nat → Int) (m n : Nat) (h : ∀ i, i < m → f i = 0) : sumN f (m + n) = sumN (fun i => f (m + i)) n := by
  rw [sumN_split, sumN_congr m (g := fun _ => 0) h, sumN_zero]; omega
end Go.Proofs.YtnbenmpjpogldaaDoor
