/- Plain facts on the sums of products of windowed samples. -/
import Derived.Test.YtnbenmpjpogldaaDotM
import Derived.Test.YtnbenmpjpogldaaWeightW
import Derived.Test.YtnbenmpjpogldaaSliceW
import Derived.Test.YtnbenmpjpogldaaPastM
namespace Go.Proofs.Ytnbenmpjpogldaa
set_option linter.unusedVariables false
set_option linter.unusedSimpArgs false
set_option maxRecDepth 100000
open Go.RowKit

theorem wgt_range (i : Int) : 0 ≤ wgt i ∧ wgt i ≤ 32767 := by
  by_cases h : i < 0 ∨ 120 ≤ i
  · rw [wgt_out h]; omega
  by_cases h2 : i < 60
  · rw [wgt_low (by omega) h2]; omega
  · rw [wgt_high (by omega) (by omega)]; omega
/-- The sample i behind the window. -/
def corW (l : List Int) (i : Nat) : Int := (l.getD i 0 * wgt (i : Nat) + 16384) / 32768
theorem corW_range {l : List Int} (h : In16 l) (i : Nat) : -32768 ≤ corW l i ∧ corW l i ≤ 32768 := by
  have h1 := h i
  have h2 := wgt_range (i : Nat)
  unfold corW
  generalize l.getD i 0 = x at *
  generalize wgt (i : Nat) = y at *
  have := mul_bound (x := x) (X := 32768) (y := y) (Y := 32767) (by omega) (by omega) ⟨by omega, by omega⟩ ⟨by omega, by omega⟩
  omega
def corT (l : List Int) (k i : Nat) : Int := corW l i * corW l (i + k)
/-- The sum k, of so many products. -/
def corS (l : List Int) (k n : Nat) : Int := sumN (corT l k) n
theorem corT_range {l : List Int} (h : In16 l) (k i : Nat) : -1073741824 ≤ corT l k i ∧ corT l k i ≤ 1073741824 := by
  have h1 := corW_range h i
  have h2 := corW_range h (i + k)
  have := mul_bound (x := corW l i) (X := 32768) (y := corW l (i + k)) (Y := 32768) (by omega) (by omega) ⟨by omega, by omega⟩ ⟨by omega, by omega⟩
  unfold corT
  omega
theorem corS_range {l : List Int} (h : In16 l) (k n : Nat) (hn : n ≤ 120) : -128849018880 ≤ corS l k n ∧ corS l k n ≤ 128849018880 := by
  have : -(1073741824 * (n : Int)) ≤ corS l k n ∧ corS l k n ≤ 1073741824 * (n : Int) := by
    clear hn
    unfold corS
    induction n with
    | zero => simp [sumN]
    | succ n ih =>
      have := corT_range h k n
      simp only [sumN]
      push_cast
      omega
  omega
/-- The sum 0, one more. -/
def corZ (l : List Int) : Int := corS l 0 120 + 1
theorem sq_int (x : Int) : 0 ≤ x * x := by
  rcases Int.le_total 0 x with h | h
  · exact Int.mul_nonneg h h
  · exact Int.mul_nonneg_of_nonpos_of_nonpos h h
theorem two_ab (a b : Int) : -(a * a + b * b) ≤ 2 * (a * b) ∧ 2 * (a * b) ≤ a * a + b * b := by
  have h1 := sq_int (a + b)
  have h2 := sq_int (a - b)
  have e1 : (a + b) * (a + b) = a * a + 2 * (a * b) + b * b := by rw [Int.add_mul, Int.mul_add, Int.mul_add, Int.mul_comm b a]; omega
  have e2 : (a - b) * (a - b) = a * a - 2 * (a * b) + b * b := by rw [Int.sub_mul, Int.mul_sub, Int.mul_sub, Int.mul_comm b a]; omega
  omega
def sqs (l : List Int) (n : Nat) : Int := sumN (fun i => corW l i * corW l i) n
theorem sqs_nn (l : List Int) (n : Nat) : 0 ≤ sqs l n := by
  unfold sqs
  induction n with
  | zero => simp [sumN]
  | succ n ih => simp only [sumN]; have := sq_int (corW l n); omega
theorem sqs_mono (l : List Int) {m n : Nat} (h : m ≤ n) : sqs l m ≤ sqs l n := by
  induction n with
  | zero => obtain rfl : m = 0 := by omega
            exact Int.le_refl _
  | succ n ih =>
    by_cases e : m = n + 1
    · subst e; exact Int.le_refl _
    · have := ih (by omega)
      have h2 := sq_int (corW l n)
      unfold sqs at *
      simp only [sumN]
      omega
theorem sqs_shift (l : List Int) (k n : Nat) : sumN (fun i => corW l (i + k) * corW l (i + k)) n ≤ sqs l (n + k) := by
  induction n with
  | zero => simpa [sumN] using sqs_nn l (0 + k)
  | succ n ih =>
    simp only [sumN]
    have e : sqs l (n + 1 + k) = sqs l (n + k) + corW l (n + k) * corW l (n + k) := by
      rw [show n + 1 + k = (n + k) + 1 by omega]
      rfl
    rw [e]
    omega
/-- No sum is beyond the sum 0. -/
theorem cor_le (l : List Int) {k n : Nat} (h : n + k ≤ 120) : -(corZ l - 1) ≤ corS l k n ∧ corS l k n ≤ corZ l - 1 := by
  have hz : corZ l - 1 = sqs l 120 := by
    unfold corZ corS sqs
    rw [sumN_congr 120 (g := fun i => corW l i * corW l i) (fun i _ => by unfold corT; rw [Nat.add_zero])]
    omega
  have h1 : sqs l n ≤ sqs l 120 := sqs_mono l (by omega)
  have h2 := sqs_shift l k n
  have h3 : sqs l (n + k) ≤ sqs l 120 := sqs_mono l h
  have key : -(sqs l n + sumN (fun i => corW l (i + k) * corW l (i + k)) n) ≤ 2 * corS l k n ∧ 2 * corS l k n ≤ sqs l n + sumN (fun i => corW l (i + k) * corW l (i + k)) n := by
    clear h h1 h2 h3 hz
    unfold sqs corS
    induction n with
    | zero => simp [sumN]
    | succ n ih =>
      simp only [sumN]
      have := two_ab (corW l n) (corW l (n + k))
      unfold corT
      unfold corT at ih
      omega
  rw [hz]
  omega
theorem corZ_eq (l : List Int) : corZ l = sqs l 120 + 1 := by
  unfold corZ corS sqs
  rw [sumN_congr 120 (g := fun i => corW l i * corW l i) (fun i _ => by unfold corT; rw [Nat.add_zero])]
theorem corZ_range {l : List Int} (h : In16 l) : 1 ≤ corZ l ∧ corZ l ≤ 128849018881 := by
  have h1 := corS_range h 0 120 (by omega)
  have h2 := sqs_nn l 120
  have h3 := corZ_eq l
  unfold corZ at *
  generalize corS l 0 120 = s at *
  generalize sqs l 120 = q at *
  omega

/-! By how many places the sums are moved. -/
/-- Is z moved n places from 2^30 to 2^31 - 1? -/
def Norm31 (z n : Int) : Prop := if 0 ≤ n then 1073741824 ≤ z / 2 ^ n.toNat ∧ z / 2 ^ n.toNat ≤ 2147483647 else 1073741824 ≤ z * 2 ^ (-n).toNat ∧ z * 2 ^ (-n).toNat ≤ 2147483647
end Go.Proofs.Ytnbenmpjpogldaa
