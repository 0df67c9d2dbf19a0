/- The walks of Set, Neg, Abs, Rsh. -/
import Derived.Test.YtnbenmpjpogldaaDoorBigInt2
namespace Go.Proofs.YtnbenmpjpogldaaDoor
set_option linter.unusedVariables false
set_option linter.unusedSimpArgs false
set_option maxRecDepth 100000
open Go.RowKit

theorem sgn_neg (z : Int) : sgn (!decide (z < 0)) z.natAbs = -z := by
  unfold sgn
  by_cases h : z < 0
  · simp [h]; omega
  · simp [h]; omega

theorem Nm.one (w : World) : Nm (w.alloc (.cells #[.int .u32 1] 73)) (.slice (some ⟨w.heap.size, 0, none⟩) 1 1) 1 := by
  have hO := World.ownsRow_lit (base := w.heap.size) (e := 73) (size := 1) w #[.int .u32 ((1 : Nat) : Int)] 1 (Nat.le_refl _) (by unfold maxLen; omega) rfl
  obtain ⟨ao, cap, hv, hr, _⟩ := Rd.owned (ws := [1]) hO (by intro y hy; simp at hy; omega)
  injection hv with h1 h2 h3
  subst h1; subst h3
  exact ⟨_, 1, 1, [1], rfl, hr, by intro n hn; simp at hn; subst hn; decide, rfl⟩

theorem fdiv_neg {z : Int} (h : z < 0) (n : Nat) : z / 2 ^ n = -(((z.natAbs - 1) / 2 ^ n + 1 : Nat) : Int) := by
  have hp : (0 : Int) < 2 ^ n := Int.pow_pos (by decide)
  obtain ⟨m, rfl⟩ : ∃ m : Nat, z = -((m : Int) + 1) := ⟨z.natAbs - 1, by omega⟩
  have e1 : (-((m : Int) + 1)).natAbs - 1 = m := by omega
  rw [e1]
  have e2 : -((m : Int) + 1) / 2 ^ n = -((m : Int) / 2 ^ n) - 1 := by
    rw [show -((m : Int) + 1) = -(m : Int) - 1 from by omega]
    rw [Int.ediv_eq_iff_of_pos hp]
    have h1 := Int.mul_ediv_add_emod (m : Int) (2 ^ n)
    have h2 := Int.emod_nonneg (m : Int) (Int.ne_of_gt hp)
    have h3 := Int.emod_lt_of_pos (m : Int) hp
    generalize (m : Int) / 2 ^ n = q at *
    generalize (m : Int) % 2 ^ n = r at *
    generalize (2 : Int) ^ n = p at *
    have h4 : (-q - 1) * p = -(p * q) - p := by rw [Int.sub_mul, Int.neg_mul, Int.mul_comm q]; omega
    have h5 : (-q - 1 + 1) * p = -(p * q) := by rw [Int.sub_add_cancel, Int.neg_mul, Int.mul_comm q]
    first
      | (rw [h4, h5]; omega)
      | (constructor <;> (first | rw [h4] | rw [h5] | skip) <;> omega)
      | skip
  rw [e2]
  simp
  omega

end Go.Proofs.YtnbenmpjpogldaaDoor
