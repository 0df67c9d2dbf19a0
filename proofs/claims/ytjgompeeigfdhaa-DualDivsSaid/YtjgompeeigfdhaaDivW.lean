/- The walk of the law DualDivs. -/
import Derived.Test.YtjgompeeigfdhaaRows
import Derived.WalkKit
namespace Go.Proofs.Ytjgompeeigfdhaa
open Go.RowKit

theorem hidD {p : Prop} (h : p) : Hid p := h

/-- The quotient in fifteen bits, and the error. -/
def dvQ (a b : Int) : Int := if b < 1 ∨ 32767 < b then 0 else if a < 0 ∨ b < a then 0 else min (a * 32768 / b) 32767
def dvE (a b : Int) : Int := if b < 1 ∨ 32767 < b then 8 else if a < 0 ∨ b < a then 2 else 0

def Divs (w : World) (a b : Int) (e : Ending) (w' : World) : Prop := e = .returned (.tuple #[.int .i64 (dvQ a b), .int .i64 (dvE a b)]) ∧ w = w'

theorem dv_zero {a b : Int} (h : b < 1 ∨ 32767 < b) : dvQ a b = 0 ∧ dvE a b = 8 := by unfold dvQ dvE; rw [if_pos h, if_pos h]; exact ⟨rfl, rfl⟩
theorem dv_range {a b : Int} (h0 : ¬ (b < 1 ∨ 32767 < b)) (h : a < 0 ∨ b < a) : dvQ a b = 0 ∧ dvE a b = 2 := by
  unfold dvQ dvE; rw [if_neg h0, if_neg h0, if_pos h, if_pos h]; exact ⟨rfl, rfl⟩
theorem dv_good {a b : Int} (h0 : ¬ (b < 1 ∨ 32767 < b)) (h : ¬ (a < 0 ∨ b < a)) : dvQ a b = min (a * 32768 / b) 32767 ∧ dvE a b = 0 := by
  unfold dvQ dvE; rw [if_neg h0, if_neg h0, if_neg h, if_neg h]; exact ⟨rfl, rfl⟩

theorem dv_end {a b q r : Int} (hb : 0 < b) (h : a * 32768 = q * b + r) (h0 : 0 ≤ r) (h1 : r < b) (hab : a < b) : min (a * 32768 / b) 32767 = q := by
  have e : a * 32768 / b = q := by
    rw [h, Int.add_comm, Int.add_mul_ediv_right _ _ (by omega), Int.ediv_eq_zero_of_lt h0 h1, Int.zero_add]
  rw [e]
  have : q ≤ 32767 := by
    by_cases hq : q ≤ 32767
    · exact hq
    · exfalso
      have h2 : 32768 * b ≤ q * b := Int.mul_le_mul_of_nonneg_right (by omega) (by omega)
      omega
  omega

theorem dv_bound {a b q r : Int} {k : Nat} (hb : 0 < b) (hab : a < b) (h : a * 2 ^ k = q * b + r) (hr : 0 ≤ r) (hk : k ≤ 15) : q ≤ 32768 := by
  by_cases hc : q ≤ 32768
  · exact hc
  · exfalso
    have hp0 : (0 : Int) < 2 ^ k := Int.pow_pos (by decide)
    have hp : (2 : Int) ^ k ≤ 32768 := by
      have : (2 : Nat) ^ k ≤ 2 ^ 15 := Nat.pow_le_pow_right (by decide) hk
      have h2 : ((2 ^ k : Nat) : Int) = 2 ^ k := by simp
      omega
    have h1 : (2 : Int) ^ k * b ≤ q * b := Int.mul_le_mul_of_nonneg_right (by omega) (by omega)
    have h2 : a * 2 ^ k < b * 2 ^ k := Int.mul_lt_mul_of_pos_right hab hp0
    rw [Int.mul_comm b] at h2
    omega

theorem dv_step1 {a b q r P : Int} (h : a * P = q * b + r) : a * (P * 2) = (2 * q + 1) * b + (2 * r - b) := by
  have e1 : a * (P * 2) = (a * P) * 2 := by rw [Int.mul_assoc]
  have e2 : (2 * q + 1) * b = 2 * (q * b) + b := by rw [Int.add_mul, Int.mul_assoc, Int.one_mul]
  rw [e1, e2, h]; omega
theorem dv_step0 {a b q r P : Int} (h : a * P = q * b + r) : a * (P * 2) = (2 * q) * b + 2 * r := by
  have e1 : a * (P * 2) = (a * P) * 2 := by rw [Int.mul_assoc]
  have e2 : (2 * q) * b = 2 * (q * b) := by rw [Int.mul_assoc]
  rw [e1, e2, h]; omega

set_option maxHeartbeats 1000000 in
theorem div_any (a b : Int) (w : World) : Calls Try.prog 27 #[.int .i64 a, .int .i64 b] w (Divs w a b) := by
  by_cases hb : b < 1 ∨ 32767 < b
  · have HV := hidD (dv_zero (a := a) hb)
    rcases hb with h | h
    · have hd : decide (b ≤ 0) = true := by simp; omega
      go_enter Try.func27, Try.ntmps27
      go_wp2
      go_ret2
      exact ⟨by rw [HV.out.1, HV.out.2]; rfl, rfl⟩
    · have hd : decide (b ≤ 0) = false := by simp; omega
      have hd2 : decide (32767 < b) = true := by simpa using h
      go_enter Try.func27, Try.ntmps27
      go_wp2
      go_ret2
      exact ⟨by rw [HV.out.1, HV.out.2]; rfl, rfl⟩
  have hd : decide (b ≤ 0) = false := by simp; omega
  have hd2 : decide (32767 < b) = false := by simp; omega
  by_cases ha : a < 0 ∨ b < a
  · have HV := hidD (dv_range hb ha)
    rcases ha with h | h
    · have hd3 : decide (a < 0) = true := by simpa using h
      go_enter Try.func27, Try.ntmps27
      go_wp2
      go_ret2
      exact ⟨by rw [HV.out.1, HV.out.2]; rfl, rfl⟩
    · have hd3 : decide (a < 0) = false := by simp; omega
      have hd4 : decide (b < a) = true := by simpa using h
      go_enter Try.func27, Try.ntmps27
      go_wp2
      go_ret2
      exact ⟨by rw [HV.out.1, HV.out.2]; rfl, rfl⟩
  have hd3 : decide (a < 0) = false := by simp; omega
  have hd4 : decide (b < a) = false := by simp; omega
  have HV := hidD (dv_good hb ha)
  by_cases hab : a = b
  · subst hab
    have e : min (a * 32768 / a) 32767 = 32767 := by
      rw [Int.mul_ediv_cancel_left _ (by omega)]; rfl
    rw [e] at HV
    have hd5 : (a == a) = true := by simp
    clear e
    go_enter Try.func27, Try.ntmps27
    go_wp2
    go_ret2
    exact ⟨by rw [HV.out.1, HV.out.2]; rfl, rfl⟩
  · have hd5 : (a == b) = false := by rw [beq_eq_false_iff_ne]; exact hab
    have hb1 : 0 < b := by omega
    have hb2 : b ≤ 32767 := by omega
    have ha1 : 0 ≤ a := by omega
    have ha2 : a < b := by omega
    clear hb ha hab
    go_enter Try.func27, Try.ntmps27
    go_wp2
    go_loop [0, 6, 26] (fun av qv iv => ∃ (k : Nat) (r q : Int), k ≤ 15 ∧ iv = .int .i64 k ∧ av = .int .i64 r ∧ qv = .int .i64 q ∧ 0 ≤ r ∧ r < b ∧ 0 ≤ q ∧ Hid (a * 2 ^ k = q * b + r)) (fun _ _ iv => 15 - (intOf iv).toNat)
    case atStart => exact ⟨0, a, 0, by omega, rfl, rfl, rfl, ha1, ha2, by omega, hidD (by simp)⟩
    case round =>
      obtain ⟨k, r, q, hk, rfl, rfl, rfl, hr0, hr1, hq0, HI⟩ := hrel
      by_cases hlt : k < 15
      · have hq2 : q ≤ 32768 := dv_bound hb1 ha2 HI.out hr0 (by omega)
        have HPS := hidD (Int.pow_succ 2 k)
        by_cases hge : b ≤ 2 * r
        · go_wp2
          go_round
          case rel => exact ⟨k + 1, _, _, by omega, by simp, rfl, rfl, by omega, by omega, by omega, hidD (by rw [HPS.out]; exact dv_step1 HI.out)⟩
          case measure => simp [intOf] <;> omega
        · go_wp2
          go_round
          case rel => exact ⟨k + 1, _, _, by omega, by simp, rfl, rfl, by omega, by omega, by omega, hidD (by rw [HPS.out]; exact dv_step0 HI.out)⟩
          case measure => simp [intOf] <;> omega
      · obtain rfl : k = 15 := by omega
        have e := dv_end (q := q) (r := r) hb1 (by have := HI.out; simpa using this) hr0 hr1 ha2
        rw [e] at HV
        clear e
        go_wp2
        go_ret2
        exact ⟨by rw [HV.out.1, HV.out.2]; rfl, rfl⟩

set_option maxHeartbeats 1000000 in
theorem refDiv_any (a b : Int) (w : World) (h1 : -9223372036854775808 ≤ a) (h2 : a ≤ 9223372036854775807) : Calls Try.prog 28 #[.int .i64 a, .int .i64 b] w (Divs w a b) := by
  by_cases hb : b < 1 ∨ 32767 < b
  · have HV := hidD (dv_zero (a := a) hb)
    rcases hb with h | h
    · have hd : decide (b < 1) = true := by simpa using h
      go_enter Try.func28, Try.ntmps28
      go_wp2
      go_ret2
      exact ⟨by rw [HV.out.1, HV.out.2]; rfl, rfl⟩
    · have hd : decide (b < 1) = false := by simp; omega
      have hd2 : decide (32767 < b) = true := by simpa using h
      go_enter Try.func28, Try.ntmps28
      go_wp2
      go_ret2
      exact ⟨by rw [HV.out.1, HV.out.2]; rfl, rfl⟩
  have hd : decide (b < 1) = false := by simp; omega
  have hd2 : decide (32767 < b) = false := by simp; omega
  by_cases ha : a < 0 ∨ b < a
  · have HV := hidD (dv_range hb ha)
    rcases ha with h | h
    · have hd3 : decide (a < 0) = true := by simpa using h
      go_enter Try.func28, Try.ntmps28
      go_wp2
      go_ret2
      exact ⟨by rw [HV.out.1, HV.out.2]; rfl, rfl⟩
    · have hd3 : decide (a < 0) = false := by simp; omega
      have hd4 : decide (b < a) = true := by simpa using h
      go_enter Try.func28, Try.ntmps28
      go_wp2
      go_ret2
      exact ⟨by rw [HV.out.1, HV.out.2]; rfl, rfl⟩
  have hd3 : decide (a < 0) = false := by simp; omega
  have hd4 : decide (b < a) = false := by simp; omega
  have HV := hidD (dv_good hb ha)
  have hb1 : 0 < b := by omega
  have hb0 : ¬ b = 0 := by omega
  have ha1 : 0 ≤ a := by omega
  have ha2 : a ≤ 32767 := by omega
  have hq : a * 32768 / b ≤ 1073741824 := by
    have := Int.ediv_le_self b (a := a * 32768) (by omega)
    omega
  have hq0 : 0 ≤ a * 32768 / b := Int.ediv_nonneg (by omega) (by omega)
  clear hb ha
  by_cases hm : 32767 < a * 32768 / b
  · have hm2 : min (a * 32768 / b) 32767 = 32767 := Int.min_eq_right (by omega)
    rw [hm2] at HV
    clear hm2
    go_enter Try.func28, Try.ntmps28
    go_wp2
    go_ret2
    exact ⟨by rw [HV.out.1, HV.out.2]; rfl, rfl⟩
  · have hm2 : min (a * 32768 / b) 32767 = a * 32768 / b := Int.min_eq_left (by omega)
    rw [hm2] at HV
    clear hm2
    go_enter Try.func28, Try.ntmps28
    go_wp2
    go_ret2
    exact ⟨by rw [HV.out.1, HV.out.2]; rfl, rfl⟩

set_option maxHeartbeats 1000000 in
theorem walkDualDivs (a0 : Int) (a1 : Int) (w0 : (Lit.int .i64 a0).wf = true) (w1 : (Lit.int .i64 a1).wf = true) (w : World) : Calls Try.prog 9 #[.int .i64 a0, .int .i64 a1] w fun e w' => e = .returned (.bool true) ∧ Below w.heap.size w w' := by
  have h := w0
  simp only [Lit.wf, Bool.and_eq_true, decide_eq_true_eq] at h
  have h12 : dvQ 1 2 = 16384 := by decide
  have hb : (dvQ a0 a1 == dvQ a0 a1) = true := by simp
  have hb2 : (dvE a0 a1 == dvE a0 a1) = true := by simp
  have B1 : -9223372036854775808 ≤ a0 := h.1
  have B2 : a0 ≤ 9223372036854775807 := h.2
  clear h w0 w1
  go_enter Try.func9, Try.ntmps9
  go_wp2_with (first
    | (go_at_call 27; refine (div_any _ _ w).mono ?_; rintro e w' ⟨rfl, rfl⟩)
    | (go_at_call 28; refine (refDiv_any _ _ w B1 B2).mono ?_; rintro e w' ⟨rfl, rfl⟩))
  go_ret
  exact ⟨by simp [h12], Below.refl _ _⟩
end Go.Proofs.Ytjgompeeigfdhaa
