/- The walks of package basic's operations. -/
import Derived.Test.YtjgompeeigfdhaaNumA
namespace Go.Proofs.Ytjgompeeigfdhaa
set_option linter.unusedVariables false
set_option linter.unusedSimpArgs false
open Go.RowKit

theorem hidN {p : Prop} (h : p) : Hid p := h

theorem in16_any (x : Int) (w : World) : Calls Try.prog 67 #[.int .i64 x] w fun e w' => e = .returned (.int .i64 (s16 x)) ∧ w = w' := by
  go_enter Try.func67, Try.ntmps67
  go_wp2_with (go_at_call 14; refine (sat16_any _ _).mono ?_; rintro e w' ⟨rfl, rfl⟩)
  go_ret
  exact ⟨rfl, rfl⟩

theorem in32_any (x : Int) (w : World) : Calls Try.prog 68 #[.int .i64 x] w fun e w' => e = .returned (.int .i64 (s32 x)) ∧ w = w' := by
  go_enter Try.func68, Try.ntmps68
  go_wp2_with (go_at_call 16; refine (sat32_any _ _).mono ?_; rintro e w' ⟨rfl, rfl⟩)
  go_ret
  exact ⟨rfl, rfl⟩

theorem Add_b (a b : Int) (w : World) : Calls Try.prog 20 #[.int .i64 a, .int .i64 b] w (Pair w (s16 (s16 a + s16 b)) (d16 (s16 a + s16 b))) := by
  have h1 := s16_range a
  have h2 := s16_range b
  go_enter Try.func20, Try.ntmps20
  go_wp2_with
    (first
    | (go_at_call 67; refine (in16_any _ _).mono ?_; rintro e w' ⟨rfl, rfl⟩)
    | (go_at_call 68; refine (in32_any _ _).mono ?_; rintro e w' ⟨rfl, rfl⟩)
    | (go_at_call 14; refine (sat16_any _ _).mono ?_; rintro e w' ⟨rfl, rfl⟩)
    | (go_at_call 16; refine (sat32_any _ _).mono ?_; rintro e w' ⟨rfl, rfl⟩))
  go_ret2
  exact ⟨rfl, rfl⟩

theorem Sub_b (a b : Int) (w : World) : Calls Try.prog 42 #[.int .i64 a, .int .i64 b] w (Pair w (s16 (s16 a - s16 b)) (d16 (s16 a - s16 b))) := by
  have h1 := s16_range a
  have h2 := s16_range b
  go_enter Try.func42, Try.ntmps42
  go_wp2_with
    (first
    | (go_at_call 67; refine (in16_any _ _).mono ?_; rintro e w' ⟨rfl, rfl⟩)
    | (go_at_call 68; refine (in32_any _ _).mono ?_; rintro e w' ⟨rfl, rfl⟩)
    | (go_at_call 14; refine (sat16_any _ _).mono ?_; rintro e w' ⟨rfl, rfl⟩)
    | (go_at_call 16; refine (sat32_any _ _).mono ?_; rintro e w' ⟨rfl, rfl⟩))
  go_ret2
  exact ⟨rfl, rfl⟩

theorem LAdd_b (a b : Int) (w : World) : Calls Try.prog 43 #[.int .i64 a, .int .i64 b] w (Pair w (s32 (s32 a + s32 b)) (d32 (s32 a + s32 b))) := by
  have h1 := s32_range a
  have h2 := s32_range b
  go_enter Try.func43, Try.ntmps43
  go_wp2_with
    (first
    | (go_at_call 67; refine (in16_any _ _).mono ?_; rintro e w' ⟨rfl, rfl⟩)
    | (go_at_call 68; refine (in32_any _ _).mono ?_; rintro e w' ⟨rfl, rfl⟩)
    | (go_at_call 14; refine (sat16_any _ _).mono ?_; rintro e w' ⟨rfl, rfl⟩)
    | (go_at_call 16; refine (sat32_any _ _).mono ?_; rintro e w' ⟨rfl, rfl⟩))
  go_ret2
  exact ⟨rfl, rfl⟩

theorem LSub_b (a b : Int) (w : World) : Calls Try.prog 44 #[.int .i64 a, .int .i64 b] w (Pair w (s32 (s32 a - s32 b)) (d32 (s32 a - s32 b))) := by
  have h1 := s32_range a
  have h2 := s32_range b
  go_enter Try.func44, Try.ntmps44
  go_wp2_with
    (first
    | (go_at_call 67; refine (in16_any _ _).mono ?_; rintro e w' ⟨rfl, rfl⟩)
    | (go_at_call 68; refine (in32_any _ _).mono ?_; rintro e w' ⟨rfl, rfl⟩)
    | (go_at_call 14; refine (sat16_any _ _).mono ?_; rintro e w' ⟨rfl, rfl⟩)
    | (go_at_call 16; refine (sat32_any _ _).mono ?_; rintro e w' ⟨rfl, rfl⟩))
  go_ret2
  exact ⟨rfl, rfl⟩

theorem Neg_b (a : Int) (w : World) : Calls Try.prog 45 #[.int .i64 a] w (Pair w (s16 (-s16 a)) (d16 (-s16 a))) := by
  have h1 := s16_range a
  go_enter Try.func45, Try.ntmps45
  go_wp2_with
    (first
    | (go_at_call 67; refine (in16_any _ _).mono ?_; rintro e w' ⟨rfl, rfl⟩)
    | (go_at_call 68; refine (in32_any _ _).mono ?_; rintro e w' ⟨rfl, rfl⟩)
    | (go_at_call 14; refine (sat16_any _ _).mono ?_; rintro e w' ⟨rfl, rfl⟩)
    | (go_at_call 16; refine (sat32_any _ _).mono ?_; rintro e w' ⟨rfl, rfl⟩))
  go_ret2
  exact ⟨rfl, rfl⟩

def absN (a : Int) : Int := if a < 0 then s16 (-s16 a) else s16 a
def absD (a : Int) : Bool := if a < 0 then d16 (-s16 a) else false

theorem Abs_b (a : Int) (w : World) : Calls Try.prog 46 #[.int .i64 a] w (Pair w (absN a) (absD a)) := by
  by_cases h : a < 0
  · have HN := hidN (show absN a = s16 (-s16 a) ∧ absD a = d16 (-s16 a) by unfold absN absD; rw [if_pos h, if_pos h]; exact ⟨rfl, rfl⟩)
    go_enter Try.func46, Try.ntmps46
    go_wp2_with (go_at_call 45; refine (Neg_b _ _).mono ?_; rintro e w' ⟨rfl, rfl⟩)
    go_ret2
    exact ⟨by rw [HN.out.1, HN.out.2]; rfl, rfl⟩
  · have HN := hidN (show absN a = s16 a ∧ absD a = false by unfold absN absD; rw [if_neg h, if_neg h]; exact ⟨rfl, rfl⟩)
    go_enter Try.func46, Try.ntmps46
    go_wp2_with
      (first
    | (go_at_call 67; refine (in16_any _ _).mono ?_; rintro e w' ⟨rfl, rfl⟩)
    | (go_at_call 68; refine (in32_any _ _).mono ?_; rintro e w' ⟨rfl, rfl⟩)
    | (go_at_call 14; refine (sat16_any _ _).mono ?_; rintro e w' ⟨rfl, rfl⟩)
    | (go_at_call 16; refine (sat32_any _ _).mono ?_; rintro e w' ⟨rfl, rfl⟩))
    go_ret2
    exact ⟨by rw [HN.out.1, HN.out.2]; rfl, rfl⟩

theorem prod_range {x y : Int} (hx : -32768 ≤ x ∧ x ≤ 32767) (hy : -32768 ≤ y ∧ y ≤ 32767) : -1073741824 ≤ x * y ∧ x * y ≤ 1073741824 := by
  obtain ⟨u, hu⟩ : ∃ u, u = x + 32768 := ⟨_, rfl⟩
  have h1 : x * y ≤ 32768 * 32768 := by
    rcases Int.le_total 0 x with h | h <;> rcases Int.le_total 0 y with h' | h'
    · exact Int.mul_le_mul (by omega) (by omega) h' (by omega)
    · have := Int.mul_nonpos_of_nonneg_of_nonpos h h'; omega
    · have := Int.mul_nonpos_of_nonpos_of_nonneg h h'; omega
    · have e : x * y = (-x) * (-y) := by rw [Int.neg_mul_neg]
      rw [e]
      exact Int.mul_le_mul (by omega) (by omega) (by omega) (by omega)
  have h2 : (-x) * y ≤ 32768 * 32768 := by
    rcases Int.le_total 0 x with h | h <;> rcases Int.le_total 0 y with h' | h'
    · have := Int.mul_nonpos_of_nonpos_of_nonneg (show -x ≤ 0 by omega) h'; omega
    · have e : (-x) * y = x * (-y) := by rw [Int.neg_mul, Int.mul_neg]
      rw [e]
      exact Int.mul_le_mul (by omega) (by omega) (by omega) (by omega)
    · exact Int.mul_le_mul (by omega) (by omega) h' (by omega)
    · have := Int.mul_nonpos_of_nonneg_of_nonpos (show 0 ≤ -x by omega) h'; omega
  rw [Int.neg_mul] at h2
  omega

theorem Mult_b (a b : Int) (w : World) : Calls Try.prog 47 #[.int .i64 a, .int .i64 b] w (Pair w (s16 (s16 a * s16 b / 32768)) (d16 (s16 a * s16 b / 32768))) := by
  have h1 := s16_range a
  have h2 := s16_range b
  have h3 := prod_range h1 h2
  go_enter Try.func47, Try.ntmps47
  go_wp2_with
    (first
    | (go_at_call 67; refine (in16_any _ _).mono ?_; rintro e w' ⟨rfl, rfl⟩)
    | (go_at_call 68; refine (in32_any _ _).mono ?_; rintro e w' ⟨rfl, rfl⟩)
    | (go_at_call 14; refine (sat16_any _ _).mono ?_; rintro e w' ⟨rfl, rfl⟩)
    | (go_at_call 16; refine (sat32_any _ _).mono ?_; rintro e w' ⟨rfl, rfl⟩))
  go_ret2
  exact ⟨rfl, rfl⟩

theorem LMult_b (a b : Int) (w : World) : Calls Try.prog 48 #[.int .i64 a, .int .i64 b] w (Pair w (s32 (2 * s16 a * s16 b)) (d32 (2 * s16 a * s16 b))) := by
  have h1 := s16_range a
  have h2 := s16_range b
  have h3 := prod_range h1 h2
  have h4 : -2147483648 ≤ 2 * s16 a * s16 b ∧ 2 * s16 a * s16 b ≤ 2147483648 := by rw [Int.mul_assoc]; omega
  go_enter Try.func48, Try.ntmps48
  go_wp2_with
    (first
    | (go_at_call 67; refine (in16_any _ _).mono ?_; rintro e w' ⟨rfl, rfl⟩)
    | (go_at_call 68; refine (in32_any _ _).mono ?_; rintro e w' ⟨rfl, rfl⟩)
    | (go_at_call 14; refine (sat16_any _ _).mono ?_; rintro e w' ⟨rfl, rfl⟩)
    | (go_at_call 16; refine (sat32_any _ _).mono ?_; rintro e w' ⟨rfl, rfl⟩))
  go_ret2
  exact ⟨rfl, rfl⟩

/-- An operation of 32 bits on acc and twice a product. -/
theorem both_add (acc a b : Int) (w : World) : Calls Try.prog 77 #[.int .i64 acc, .int .i64 a, .int .i64 b, .func (.func 43) #[] #[]] w
    (Pair w (s32 (s32 acc + s32 (s32 (2 * s16 a * s16 b)))) (d32 (2 * s16 a * s16 b) || d32 (s32 acc + s32 (s32 (2 * s16 a * s16 b))))) := by
  have K := hidN (LMult_b a b w)
  generalize d32 (2 * s16 a * s16 b) = t at K
  cases t
  all_goals
    go_enter Try.func77, Try.ntmps77
    go_wp2_with (first
      | (go_at_call 48; refine K.out.mono ?_; rintro e w' ⟨rfl, rfl⟩)
      | (go_at_call 43; refine (LAdd_b _ _ _).mono ?_; rintro e w' ⟨rfl, rfl⟩))
    go_ret2
    exact ⟨by simp, rfl⟩

theorem LMac_b (acc a b : Int) (w : World) : Calls Try.prog 49 #[.int .i64 acc, .int .i64 a, .int .i64 b] w
    (Pair w (s32 (s32 acc + s32 (s32 (2 * s16 a * s16 b)))) (d32 (2 * s16 a * s16 b) || d32 (s32 acc + s32 (s32 (2 * s16 a * s16 b))))) := by
  go_enter Try.func49, Try.ntmps49
  go_wp2_with (go_at_call 77; refine (both_add _ _ _ _).mono ?_; rintro e w' ⟨rfl, rfl⟩)
  go_ret2
  exact ⟨rfl, rfl⟩

/-- An operation of 32 bits on acc and twice a product. -/
theorem both_sub (acc a b : Int) (w : World) : Calls Try.prog 77 #[.int .i64 acc, .int .i64 a, .int .i64 b, .func (.func 44) #[] #[]] w
    (Pair w (s32 (s32 acc - s32 (s32 (2 * s16 a * s16 b)))) (d32 (2 * s16 a * s16 b) || d32 (s32 acc - s32 (s32 (2 * s16 a * s16 b))))) := by
  have K := hidN (LMult_b a b w)
  generalize d32 (2 * s16 a * s16 b) = t at K
  cases t
  all_goals
    go_enter Try.func77, Try.ntmps77
    go_wp2_with (first
      | (go_at_call 48; refine K.out.mono ?_; rintro e w' ⟨rfl, rfl⟩)
      | (go_at_call 44; refine (LSub_b _ _ _).mono ?_; rintro e w' ⟨rfl, rfl⟩))
    go_ret2
    exact ⟨by simp, rfl⟩

theorem LMsu_b (acc a b : Int) (w : World) : Calls Try.prog 50 #[.int .i64 acc, .int .i64 a, .int .i64 b] w
    (Pair w (s32 (s32 acc - s32 (s32 (2 * s16 a * s16 b)))) (d32 (2 * s16 a * s16 b) || d32 (s32 acc - s32 (s32 (2 * s16 a * s16 b))))) := by
  go_enter Try.func50, Try.ntmps50
  go_wp2_with (go_at_call 77; refine (both_sub _ _ _ _).mono ?_; rintro e w' ⟨rfl, rfl⟩)
  go_ret2
  exact ⟨rfl, rfl⟩

/-- A number of 32 bits moved to the left. -/
def shiftZ (x n : Int) : Int := if n < 0 then x / 2 ^ (min (-n) 40).toNat else if 31 < n then x * 2 ^ 31 * 2 else x * 2 ^ n.toNat

theorem pow_le31 {n : Nat} (h : n ≤ 31) : (2 : Int) ^ n ≤ 2147483648 ∧ 0 < (2 : Int) ^ n := by
  have h1 : (2 : Nat) ^ n ≤ 2 ^ 31 := Nat.pow_le_pow_right (by decide) h
  have h2 : ((2 ^ n : Nat) : Int) = 2 ^ n := by simp
  exact ⟨by omega, Int.pow_pos (by decide)⟩

theorem mul_range {x p : Int} (hx : -2147483648 ≤ x ∧ x ≤ 2147483647) (hp : 0 < p) (hp2 : p ≤ 2147483648) : -4611686018427387904 ≤ x * p ∧ x * p ≤ 4611686018427387904 := by
  have h1 : x * p ≤ 2147483647 * p := Int.mul_le_mul_of_nonneg_right hx.2 (by omega)
  have h2 : -2147483648 * p ≤ x * p := Int.mul_le_mul_of_nonneg_right hx.1 (by omega)
  omega

set_option maxHeartbeats 1000000 in
theorem shift_any (x n : Int) (w : World) (hx : -2147483648 ≤ x ∧ x ≤ 2147483647) (hn : -40 ≤ n) (hn2 : n ≤ 9223372036854775807) :
    Calls Try.prog 78 #[.int .i64 x, .int .i64 n] w fun e w' => e = .returned (.int .i64 (shiftZ x n)) ∧ w = w' := by
  obtain ⟨h1, h2⟩ := hx
  by_cases h0 : n < 0
  · obtain ⟨m, rfl⟩ : ∃ m : Nat, n = -(m : Int) := ⟨(-n).toNat, by omega⟩
    have hm : m ≤ 40 := by omega
    have hv : shiftZ x (-(m : Int)) = x / 2 ^ m := by
      unfold shiftZ; rw [if_pos h0]
      congr 2; omega
    rw [hv]
    have e : min (m : Int) 40 = m := Int.min_eq_left (by omega)
    clear hv
    go_enter Try.func78, Try.ntmps78
    go_wp2
    go_ret
    exact ⟨rfl, rfl⟩
  · by_cases h3 : 31 < n
    · have hv : shiftZ x n = x * 2147483648 * 2 := by unfold shiftZ; rw [if_neg h0, if_pos h3, show (2 : Int) ^ 31 = 2147483648 from by decide]
      rw [hv]
      have e : min n 31 = 31 := Int.min_eq_right (by omega)
      clear hv
      go_enter Try.func78, Try.ntmps78
      go_wp2
      go_ret
      exact ⟨rfl, rfl⟩
    · obtain ⟨m, rfl⟩ := Int.eq_ofNat_of_zero_le (show 0 ≤ n by omega)
      have hv : shiftZ x (m : Int) = x * 2 ^ m := by unfold shiftZ; rw [if_neg h0, if_neg h3]; simp
      rw [hv]
      have e : min (m : Int) 31 = m := Int.min_eq_left (by omega)
      have hp := pow_le31 (n := m) (by omega)
      have hr := mul_range (x := x) ⟨h1, h2⟩ hp.2 hp.1
      have HV := hidN hr
      clear hv
      go_enter Try.func78, Try.ntmps78
      go_wp2
      go_ret
      exact ⟨rfl, rfl⟩
theorem shiftZ_range {x n : Int} (hx : -2147483648 ≤ x ∧ x ≤ 2147483647) : -9223372036854775808 ≤ shiftZ x n ∧ shiftZ x n ≤ 9223372036854775807 := by
  unfold shiftZ
  split
  · have hp : (0 : Int) < 2 ^ (min (-n) 40).toNat := Int.pow_pos (by decide)
    have h1 : x / 2 ^ (min (-n) 40).toNat ≤ 2147483647 := by
      have := Int.ediv_le_ediv hp hx.2
      have h2 := Int.ediv_le_self (2 ^ (min (-n) 40).toNat) (a := 2147483647) (by decide)
      omega
    have h2 : -2147483648 ≤ x / 2 ^ (min (-n) 40).toNat := by
      have h3 : (-2147483648 : Int) / 2 ^ (min (-n) 40).toNat ≤ x / 2 ^ (min (-n) 40).toNat := Int.ediv_le_ediv hp hx.1
      have h4 : (-2147483648 : Int) ≤ -2147483648 / 2 ^ (min (-n) 40).toNat := by
        rw [Int.le_ediv_iff_mul_le hp]
        generalize (2 : Int) ^ (min (-n) 40).toNat = p at *
        omega
      omega
    omega
  · split
    · rw [show (2 : Int) ^ 31 = 2147483648 from by decide]; omega
    · rename_i h1 h2
      have hp := pow_le31 (n := n.toNat) (by omega)
      have := mul_range hx hp.2 hp.1
      omega

theorem Shl_b (a n : Int) (w : World) (hn : n ≤ 9223372036854775807) : Calls Try.prog 51 #[.int .i64 a, .int .i64 n] w (Pair w (s16 (shiftZ (s16 a) (max n (-40)))) (d16 (shiftZ (s16 a) (max n (-40))))) := by
  have h1 := s16_range a
  by_cases hc : n < -40
  · rw [show max n (-40) = -40 from Int.max_eq_right (by omega)]
    have K := hidN (shift_any (s16 a) (-40) w ⟨by omega, by omega⟩ (by omega) (by omega))
    go_enter Try.func51, Try.ntmps51
    go_wp2_with (first
      | (go_at_call 67; refine (in16_any _ _).mono ?_; rintro e w' ⟨rfl, rfl⟩)
      | (go_at_call 78; refine K.out.mono ?_; rintro e w' ⟨rfl, rfl⟩)
      | (go_at_call 14; refine (sat16_any _ _).mono ?_; rintro e w' ⟨rfl, rfl⟩))
    go_ret2
    exact ⟨rfl, rfl⟩
  · rw [show max n (-40) = n from Int.max_eq_left (by omega)]
    have K := hidN (shift_any (s16 a) n w ⟨by omega, by omega⟩ (by omega) (by omega))
    go_enter Try.func51, Try.ntmps51
    go_wp2_with (first
      | (go_at_call 67; refine (in16_any _ _).mono ?_; rintro e w' ⟨rfl, rfl⟩)
      | (go_at_call 78; refine K.out.mono ?_; rintro e w' ⟨rfl, rfl⟩)
      | (go_at_call 14; refine (sat16_any _ _).mono ?_; rintro e w' ⟨rfl, rfl⟩))
    go_ret2
    exact ⟨rfl, rfl⟩

theorem LShl_b (a n : Int) (w : World) (hn : n ≤ 9223372036854775807) : Calls Try.prog 53 #[.int .i64 a, .int .i64 n] w (Pair w (s32 (shiftZ (s32 a) (max n (-40)))) (d32 (shiftZ (s32 a) (max n (-40))))) := by
  have h1 := s32_range a
  by_cases hc : n < -40
  · rw [show max n (-40) = -40 from Int.max_eq_right (by omega)]
    have K := hidN (shift_any (s32 a) (-40) w ⟨by omega, by omega⟩ (by omega) (by omega))
    go_enter Try.func53, Try.ntmps53
    go_wp2_with (first
      | (go_at_call 68; refine (in32_any _ _).mono ?_; rintro e w' ⟨rfl, rfl⟩)
      | (go_at_call 78; refine K.out.mono ?_; rintro e w' ⟨rfl, rfl⟩)
      | (go_at_call 16; refine (sat32_any _ _).mono ?_; rintro e w' ⟨rfl, rfl⟩))
    go_ret2
    exact ⟨rfl, rfl⟩
  · rw [show max n (-40) = n from Int.max_eq_left (by omega)]
    have K := hidN (shift_any (s32 a) n w ⟨by omega, by omega⟩ (by omega) (by omega))
    go_enter Try.func53, Try.ntmps53
    go_wp2_with (first
      | (go_at_call 68; refine (in32_any _ _).mono ?_; rintro e w' ⟨rfl, rfl⟩)
      | (go_at_call 78; refine K.out.mono ?_; rintro e w' ⟨rfl, rfl⟩)
      | (go_at_call 16; refine (sat32_any _ _).mono ?_; rintro e w' ⟨rfl, rfl⟩))
    go_ret2
    exact ⟨rfl, rfl⟩

theorem Shr_b (a n : Int) (w : World) (hn : n ≤ 9223372036854775807) : Calls Try.prog 52 #[.int .i64 a, .int .i64 n] w (Pair w (s16 (shiftZ (s16 a) (max (-max n (-40)) (-40)))) (d16 (shiftZ (s16 a) (max (-max n (-40)) (-40))))) := by
  by_cases hc : n < -40
  · rw [show max n (-40) = -40 from Int.max_eq_right (by omega), show (-(-40) : Int) = 40 from rfl]
    have K := hidN (Shl_b a 40 w (by omega))
    go_enter Try.func52, Try.ntmps52
    go_wp2_with (go_at_call 51; refine K.out.mono ?_; rintro e w' ⟨rfl, rfl⟩)
    go_ret2
    exact ⟨rfl, rfl⟩
  · rw [show max n (-40) = n from Int.max_eq_left (by omega)]
    have K := Shl_b a (-n) w (by omega)
    generalize max (-n) (-40) = t at K ⊢
    have K := hidN K
    go_enter Try.func52, Try.ntmps52
    go_wp2_with (go_at_call 51; refine K.out.mono ?_; rintro e w' ⟨rfl, rfl⟩)
    go_ret2
    exact ⟨rfl, rfl⟩

theorem LShr_b (a n : Int) (w : World) (hn : n ≤ 9223372036854775807) : Calls Try.prog 54 #[.int .i64 a, .int .i64 n] w (Pair w (s32 (shiftZ (s32 a) (max (-max n (-40)) (-40)))) (d32 (shiftZ (s32 a) (max (-max n (-40)) (-40))))) := by
  by_cases hc : n < -40
  · rw [show max n (-40) = -40 from Int.max_eq_right (by omega), show (-(-40) : Int) = 40 from rfl]
    have K := hidN (LShl_b a 40 w (by omega))
    go_enter Try.func54, Try.ntmps54
    go_wp2_with (go_at_call 53; refine K.out.mono ?_; rintro e w' ⟨rfl, rfl⟩)
    go_ret2
    exact ⟨rfl, rfl⟩
  · rw [show max n (-40) = n from Int.max_eq_left (by omega)]
    have K := LShl_b a (-n) w (by omega)
    generalize max (-n) (-40) = t at K ⊢
    have K := hidN K
    go_enter Try.func54, Try.ntmps54
    go_wp2_with (go_at_call 53; refine K.out.mono ?_; rintro e w' ⟨rfl, rfl⟩)
    go_ret2
    exact ⟨rfl, rfl⟩

theorem Round_b (a : Int) (w : World) : Calls Try.prog 55 #[.int .i64 a] w (Pair w (s32 (s32 a + 32768) / 65536) (d32 (s32 a + 32768))) := by
  have K := hidN (LAdd_b a 32768 w)
  rw [show s32 32768 = 32768 from by decide] at K
  have h1 := s32_range (s32 a + 32768)
  go_enter Try.func55, Try.ntmps55
  go_wp2_with (go_at_call 43; refine K.out.mono ?_; rintro e w' ⟨rfl, rfl⟩)
  go_ret2
  exact ⟨rfl, rfl⟩
end Go.Proofs.Ytjgompeeigfdhaa
