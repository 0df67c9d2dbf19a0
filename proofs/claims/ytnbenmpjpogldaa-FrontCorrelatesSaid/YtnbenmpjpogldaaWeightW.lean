/- The walk of the law FrontWeights. -/
import Derived.Test.YtnbenmpjpogldaaRows
import Derived.WalkKit
namespace Go.Proofs.Ytnbenmpjpogldaa
set_option linter.unusedVariables false
set_option linter.unusedSimpArgs false
set_option maxRecDepth 100000
open Go.RowKit

theorem hidW {p : Prop} (h : p) : Hid p := h

/-- The window's number at a place. -/
def wgt (i : Int) : Int := if i < 0 ∨ 120 ≤ i then 0 else 32767 * min (2 * i + 1) (239 - 2 * i) / 119

theorem wgt_out {i : Int} (h : i < 0 ∨ 120 ≤ i) : wgt i = 0 := by unfold wgt; rw [if_pos h]
theorem wgt_low {i : Int} (h0 : 0 ≤ i) (h : i < 60) : wgt i = 32767 * (2 * i + 1) / 119 := by
  unfold wgt; rw [if_neg (by omega), Int.min_eq_left (by omega)]
theorem wgt_high {i : Int} (h0 : 60 ≤ i) (h : i < 120) : wgt i = 32767 * (239 - 2 * i) / 119 := by
  unfold wgt; rw [if_neg (by omega), Int.min_eq_right (by omega)]
theorem wgt_turn {i : Int} (h0 : 60 ≤ i) (h : i < 120) : wgt (119 - i) = wgt i := by
  rw [wgt_high h0 h, wgt_low (by omega) (by omega)]
  congr 1; omega

set_option maxHeartbeats 1000000 in
theorem weight_any (i : Int) (w : World) : Calls Try.prog 8 #[.int .i64 i] w fun e w' => e = .returned (.int .i64 (wgt i)) ∧ w = w' := by
  by_cases h1 : i < 0
  · rw [wgt_out (.inl h1)]
    go_enter Try.func8, Try.ntmps8
    go_wp2
    go_ret
    exact ⟨rfl, rfl⟩
  by_cases h2 : 120 ≤ i
  · rw [wgt_out (.inr h2)]
    have hd : decide (i < 0) = false := by simpa using h1
    go_enter Try.func8, Try.ntmps8
    go_wp2
    go_ret
    exact ⟨rfl, rfl⟩
  have hd : decide (i < 0) = false := by simpa using h1
  have hd2 : decide (120 ≤ i) = false := by simpa using h2
  by_cases h3 : i < 60
  · have HV := hidW (wgt_low (by omega) h3)
    have hm : min (2 * i + 1) (2 * (120 - i) - 1) = 2 * i + 1 := Int.min_eq_left (by omega)
    go_enter Try.func8, Try.ntmps8
    go_wp2
    go_ret
    rw [HV.out]
    exact ⟨by simp, rfl⟩
  · have HV := hidW (wgt_high (i := i) (by omega) (by omega))
    have hm : min (2 * i + 1) (2 * (120 - i) - 1) = 2 * (120 - i) - 1 := Int.min_eq_right (by omega)
    go_enter Try.func8, Try.ntmps8
    go_wp2
    go_ret
    rw [HV.out]
    refine ⟨?_, rfl⟩
    show Ending.returned (.int .i64 (32767 * (2 * (120 - i) - 1) / 119)) = _
    rw [show 2 * (120 - i) - 1 = 239 - 2 * i from by omega]

set_option maxHeartbeats 1000000 in
theorem refWeight_low (i : Int) (w : World) (h0 : i < 60) : Calls Try.prog 11 #[.int .i64 i] w fun e w' => e = .returned (.int .i64 (wgt i)) ∧ w = w' := by
  by_cases h1 : i < 0
  · rw [wgt_out (.inl h1)]
    go_enter Try.func11, Try.ntmps11
    go_wp2
    go_ret
    exact ⟨rfl, rfl⟩
  · have HV := hidW (wgt_low (by omega) h0)
    have hd : decide (i < 0) = false := by simpa using h1
    have hd2 : decide (119 < i) = false := by simp; omega
    go_enter Try.func11, Try.ntmps11
    go_wp2
    go_ret
    rw [HV.out]
    exact ⟨rfl, rfl⟩

set_option maxHeartbeats 1000000 in
theorem refWeight_any (i : Int) (w : World) : Calls Try.prog 11 #[.int .i64 i] w fun e w' => e = .returned (.int .i64 (wgt i)) ∧ w = w' := by
  by_cases h0 : i < 60
  · exact refWeight_low i w h0
  · have hd : decide (i < 0) = false := by simp; omega
    by_cases h2 : 119 < i
    · rw [wgt_out (.inr (by omega))]
      go_enter Try.func11, Try.ntmps11
      go_wp2
      go_ret
      exact ⟨rfl, rfl⟩
    · have hd2 : decide (119 < i) = false := by simpa using h2
      have HV := hidW (wgt_turn (i := i) (by omega) (by omega))
      go_enter Try.func11, Try.ntmps11
      go_wp2_with (go_at_call 11; refine (refWeight_low (119 - i) w (by omega)).mono ?_; rintro e w' ⟨rfl, rfl⟩)
      go_ret
      rw [← HV.out]
      exact ⟨rfl, rfl⟩

end Go.Proofs.Ytnbenmpjpogldaa
