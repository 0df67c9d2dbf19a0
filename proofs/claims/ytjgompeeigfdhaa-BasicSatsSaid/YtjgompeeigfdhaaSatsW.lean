/- The walk of the law BasicSats. -/
import Derived.Test.YtjgompeeigfdhaaRefClip
namespace Go.Proofs.Ytjgompeeigfdhaa
set_option linter.unusedVariables false
set_option linter.unusedSimpArgs false
open Go.RowKit

set_option maxHeartbeats 1000000 in
theorem walkBasicSats (a0 : Int) (w0 : (Lit.int .i64 a0).wf = true) (w : World) : Calls Try.prog 4 #[.int .i64 a0] w fun e w' => e = .returned (.bool true) ∧ Below w.heap.size w w' := by
  have h := w0
  simp only [Lit.wf, Bool.and_eq_true, decide_eq_true_eq] at h
  have B1 : -9223372036854775808 ≤ a0 := h.1
  have B2 : a0 ≤ 9223372036854775807 := h.2
  have h5 : s16 5 = 5 := by decide
  have e1 : lim (-32768) 32767 a0 = s16 a0 := rfl
  have e2 : limd (-32768) 32767 a0 = d16 a0 := rfl
  have e3 : lim (-2147483648) 2147483647 a0 = s32 a0 := rfl
  have e4 : limd (-2147483648) 2147483647 a0 = d32 a0 := rfl
  clear h w0
  go_enter Try.func4, Try.ntmps4
  go_wp2_with (first
    | (go_at_call 14; refine (sat16_any _ _).mono ?_; rintro e w' ⟨rfl, rfl⟩)
    | (go_at_call 16; refine (sat32_any _ _).mono ?_; rintro e w' ⟨rfl, rfl⟩)
    | (go_at_call 15; refine (refSat16_any _ _ B1 B2).mono ?_; rintro e w1 ⟨rfl, hB⟩; have q1 := hid hB; clear hB)
    | (go_at_call 17; refine (refSat32_any _ _ B1 B2).mono ?_; rintro e w2 ⟨rfl, hB⟩; have q2 := hid hB; clear hB))
  go_ret
  exact ⟨by simp [h5], q1.out.trans (q2.out.mono q1.out.size)⟩
end Go.Proofs.Ytjgompeeigfdhaa
