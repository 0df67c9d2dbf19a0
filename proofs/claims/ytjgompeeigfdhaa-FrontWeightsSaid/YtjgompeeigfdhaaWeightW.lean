/- The walk of the law FrontWeights. -/
import Derived.Test.YtjgompeeigfdhaaRows
import Derived.WalkKit
namespace Go.Proofs.Ytjgompeeigfdhaa
open Go.RowKit

theorem hidW {p : Prop} (h : p) : Hid p := h

/-- The window's number at a place. -/
def wgt (i : Int) : Int := if i < 0 ∨ 120 ≤ i then 0 else 32767 * min (2 * i + 1) (239 - 2 * i) / 119

theorem wgt_out {i : Int} (h : i < 0 ∨ 120 ≤ i) : wgt i = 0 := by unfold wgt; rw [if_pos h]
theorem wgt_low {i : Int} (h0 : 0 ≤ i) (h : i < 60) : wgt i = 32767 * (2 * i + 1) / 119 := by
  unfold wgt; rw [if_neg (by omega), Int.min_eq_left (by omega)]
theorem wgt_high {i : Int} (h0 : 60 ≤ i) (h : i < 120) : wgt i = 32767 * (239 - 2 * i) / 119 := by
  unfold wgt; rw [if_neg (by omega), Int.min_eq_right (by omega)]
theorem wgt_turn {i : Int} (h0 : 60 ≤ i) (h : i < 120) : wgt (119 - i) = wgt i := by
  rw [wgt_high h0 h, wgt_low (by omega) (by omega)]
  congr 1; omega

set_option maxHeartbeats 1000000 in
theorem weight_any (i : Int) (w : World) : Calls Try.prog 37 #[.int .i64 i] w fun e w' => e = .returned (.int .i64 (wgt i)) ∧ w = w' := by
  by_cases h1 : i < 0
  · rw [wgt_out (.inl h1)]
    go_enter Try.func37, Try.ntmps37
    go_wp2
    go_ret
    exact ⟨rfl, rfl⟩
  by_cases h2 : 120 ≤ i
  · rw [wgt_out (.inr h2)]
    have hd : decide (i < 0) = false := by simpa using h1
    go_enter Try.func37, Try.ntmps37
    go_wp2
    go_ret
    exact ⟨rfl, rfl⟩
  have hd : decide (i < 0) = false := by simpa using h1
  have hd2 : decide (120 ≤ i) = false := by simpa using h2
  by_cases h3 : i < 60
  · have HV := hidW (wgt_low (by omega) h3)
    have hm : min (2 * i + 1) (2 * (120 - i) - 1) = 2 * i + 1 := Int.min_eq_left (by omega)
    go_enter Try.func37, Try.ntmps37
    go_wp2
    go_ret
    rw [HV.out]
    exact ⟨by simp, rfl⟩
  · have HV := hidW (wgt_high (i := i) (by omega) (by omega))
    have hm : min (2 * i + 1) (2 * (120 - i) - 1) = 2 * (120 - i) - 1 := Int.min_eq_right (by omega)
    go_enter Try.func37, Try.ntmps37
    go_wp2
    go_ret
    rw [HV.out]
    refine ⟨?_, rfl⟩
    show Ending.returned (.int .i64 (32767 * (2 * (120 - i) - 1) / 119)) = _
    rw [show 2 * (120 - i) - 1 = 239 - 2 * i from by omega]

set_option maxHeartbeats 1000000 in
theorem refWeight_low (i : Int) (w : World) (h0 : i < 60) : Calls Try.prog 38 #[.int .i64 i] w fun e w' => e = .returned (.int .i64 (wgt i)) ∧ w = w' := by
  by_cases h1 : i < 0
  · rw [wgt_out (.inl h1)]
    go_enter Try.func38, Try.ntmps38
    go_wp2
    go_ret
    exact ⟨rfl, rfl⟩
  · have HV := hidW (wgt_low (by omega) h0)
    have hd : decide (i < 0) = false := by simpa using h1
    have hd2 : decide (119 < i) = false := by simp; omega
    go_enter Try.func38, Try.ntmps38
    go_wp2
    go_ret
    rw [HV.out]
    exact ⟨rfl, rfl⟩

set_option maxHeartbeats 1000000 in
theorem refWeight_any (i : Int) (w : World) : Calls Try.prog 38 #[.int .i64 i] w fun e w' => e = .returned (.int .i64 (wgt i)) ∧ w = w' := by
  by_cases h0 : i < 60
  · exact refWeight_low i w h0
  · have hd : decide (i < 0) = false := by simp; omega
    by_cases h2 : 119 < i
    · rw [wgt_out (.inr (by omega))]
      go_enter Try.func38, Try.ntmps38
      go_wp2
      go_ret
      exact ⟨rfl, rfl⟩
    · have hd2 : decide (119 < i) = false := by simpa using h2
      have HV := hidW (wgt_turn (i := i) (by omega) (by omega))
      go_enter Try.func38, Try.ntmps38
      go_wp2_with (go_at_call 38; refine (refWeight_low (119 - i) w (by omega)).mono ?_; rintro e w' ⟨rfl, rfl⟩)
      go_ret
      rw [← HV.out]
      exact ⟨rfl, rfl⟩

set_option maxHeartbeats 1000000 in
theorem walkFrontWeights (a0 : Int) (w0 : (Lit.int .i64 a0).wf = true) (w : World) : Calls Try.prog 13 #[.int .i64 a0] w fun e w' => e = .returned (.bool true) ∧ Below w.heap.size w w' := by
  have h59 : wgt 59 = 32767 := by decide
  have hb : (wgt a0 == wgt a0) = true := by simp
  go_enter Try.func13, Try.ntmps13
  go_wp2_with (first
    | (go_at_call 37; refine (weight_any _ w).mono ?_; rintro e w' ⟨rfl, rfl⟩)
    | (go_at_call 38; refine (refWeight_any _ w).mono ?_; rintro e w' ⟨rfl, rfl⟩))
  go_ret
  exact ⟨by simp [h59], Below.refl _ _⟩
end Go.Proofs.Ytjgompeeigfdhaa
