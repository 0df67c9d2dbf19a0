/- The walks of a power of two and of a gain's level. -/
import Derived.Test.YtnielfleokbloaaDoorTabs
import Derived.Test.YtnielfleokbloaaDoorBigRd
import Derived.Test.YtnielfleokbloaaDoorLpcM
namespace Go.Proofs.YtnielfleokbloaaDoor
set_option linter.unusedVariables false
set_option linter.unusedSimpArgs false
set_option maxRecDepth 100000
open Go.RowKit

def powR (k : Nat) : Int := rootsL.getD k 0
def powBit (f : Int) (k : Nat) : Bool := decide (f / 2 ^ (14 - k) % 2 = 1)
def powX (f : Int) : Nat → Int
  | 0 => 1073741824
  | k + 1 => if powBit f k then powX f k + powX f k * powR k / 1073741824 else powX f k
def powU : Nat → Int
  | 0 => 1073741824
  | k + 1 => powU k + powU k * powR k / 1073741824
def powB (n f : Int) : Bool := decide ((0 ≤ n ∧ n ≤ 30) ∧ 0 ≤ f ∧ f ≤ 32767)
def powV (n f : Int) : Int := if powB n f then (if 2147483647 ≤ powX f 15 / 2 ^ (30 - n).toNat then 2147483647 else powX f 15 / 2 ^ (30 - n).toNat) else 0
theorem powR_nn (k : Nat) : 0 ≤ powR k := by
  unfold powR
  by_cases h : k < 15
  · have : ∀ j, j < 15 → 0 ≤ rootsL.getD j 0 := by decide
    exact this k h
  · rw [List.getD_eq_getElem?_getD, List.getElem?_eq_none (by simp [rootsL]; omega)]; simp
theorem powR_le (k : Nat) : powR k ≤ 444758425 := by
  unfold powR
  by_cases h : k < 15
  · have : ∀ j, j < 15 → rootsL.getD j 0 ≤ 444758425 := by decide
    exact this k h
  · rw [List.getD_eq_getElem?_getD, List.getElem?_eq_none (by simp [rootsL]; omega)]; simp
theorem powU_le : ∀ k, k < 16 → powU k ≤ 2147483648 := by decide
theorem powX_lo (f : Int) (k : Nat) : 1073741824 ≤ powX f k := by
  induction k with
  | zero => simp [powX]
  | succ k ih =>
    unfold powX
    split
    · have h1 : 0 ≤ powX f k * powR k := Int.mul_nonneg (by omega) (powR_nn k)
      have h2 : 0 ≤ powX f k * powR k / 1073741824 := Int.ediv_nonneg h1 (by omega)
      omega
    · exact ih
theorem powX_U (f : Int) (k : Nat) : powX f k ≤ powU k := by
  induction k with
  | zero => simp [powX, powU]
  | succ k ih =>
    have h0 := powX_lo f k
    have h1 : powX f k * powR k ≤ powU k * powR k := Int.mul_le_mul_of_nonneg_right ih (powR_nn k)
    have h2 : powX f k * powR k / 1073741824 ≤ powU k * powR k / 1073741824 := Int.ediv_le_ediv (by omega) h1
    have h3 : 0 ≤ powU k * powR k / 1073741824 := Int.ediv_nonneg (Int.mul_nonneg (by omega) (powR_nn k)) (by omega)
    unfold powX powU
    split <;> omega
theorem powX_hi (f : Int) {k : Nat} (h : k < 16) : powX f k ≤ 2147483648 := Int.le_trans (powX_U f k) (powU_le k h)
/-- One round's product. -/
theorem pow_step {x r : Int} (h1 : 1073741824 ≤ x) (h2 : x ≤ 2147483648) (h3 : 0 ≤ r) (h4 : r ≤ 444758425) : 0 ≤ x * r ∧ x * r ≤ 955124478797414400 ∧ 0 ≤ x * r / 1073741824 ∧ x * r / 1073741824 ≤ 889516850 := by
  have h5 : x * r ≤ 2147483648 * 444758425 := Int.mul_le_mul h2 h4 h3 (by omega)
  have h6 : 0 ≤ x * r := Int.mul_nonneg (by omega) h3
  omega

theorem and1 (x : Int) : bits BinOp.and IntKind.i64 x 1 = x % 2 := by
  have h : (BitVec.ofInt 64 x &&& BitVec.ofInt 64 1).toNat = (x % 2).toNat := by
    rw [BitVec.toNat_and, BitVec.toNat_ofInt, show (BitVec.ofInt 64 1).toNat = 2 ^ 1 - 1 from by decide, Nat.and_two_pow_sub_one_eq_mod]
    omega
  show IntKind.i64.wrap ((BitVec.ofInt 64 x &&& BitVec.ofInt 64 1).toNat : Int) = _
  rw [h, IntKind.wrap_i64]
  omega

theorem ret2i {a b c : Int} (h : a = b) : Ending.returned (.tuple #[.int .i64 a, .int .i64 c]) = .returned (.tuple #[.int .i64 b, .int .i64 c]) := by rw [h]

set_option maxHeartbeats 2000000 in
theorem dualPow_in (n f : Int) (w : World) (T : TabA w 0 rootsL) (n1 : 0 ≤ n) (n2 : n ≤ 30) (f1 : 0 ≤ f) (f2 : f ≤ 32767) :
    Calls Tryd.prog 12 #[.int .i64 n, .int .i64 f] w fun e w' => e = .returned (.tuple #[.int .i64 (powV n f), .int .i64 0]) ∧ w = w' := by
  have d1 : ¬ n < 0 := by omega
  have d2 : ¬ 30 < n := by omega
  have d3 : ¬ f < 0 := by omega
  have d4 : ¬ 32767 < f := by omega
  have size15 : (Tryd.prog.info? 42).map (·.size) = some 15 := by kernel_rfl
  have HIX := hid (fun (k : Nat) (hk : k < 15) (w : World) => run_index_agi Tryd.underlying42 rootsL rfl k hk w)
  have TT := hid T
  have S15 := hid size15
  clear T size15
  go_enter Tryd.func12, Tryd.ntmps12
  go_wp2_with (refine wpList_loadT rfl 42 (.global 0) rfl _ rootsL 15 _ rfl TT.out Tryd.underlying42 rfl S15.out rfl ?_)
  go_loop [6, 24] (fun xv iv => ∃ (k : Nat) (x : Int), k ≤ 15 ∧ iv = .int .i64 k ∧ xv = .int .i64 x ∧ Hid (x = powX f k)) (fun _ iv => 15 - (intOf iv).toNat)
  case atStart => exact ⟨0, 1073741824, by omega, rfl, rfl, hid rfl⟩
  case round =>
    obtain ⟨k, x, hk, rfl, rfl, HX⟩ := hrel
    by_cases hlt : k < 15
    · have hix := HIX.out k hlt
      have x1 : 1073741824 ≤ x := by rw [HX.out]; exact powX_lo f k
      have x2 : x ≤ 2147483648 := by rw [HX.out]; exact powX_hi f (by omega)
      have r1 := powR_nn k
      have r2 := powR_le k
      have HR := hid (show powX f (k + 1) = if powBit f k then x + x * powR k / 1073741824 else x by rw [powX, ← HX.out])
      unfold powR at r1 r2 HR
      generalize rootsL.getD k 0 = r at *
      obtain ⟨q1, q2, q3, q4⟩ := pow_step x1 x2 r1 r2
      have HA := and1 (f / 2 ^ (14 - k))
      by_cases hb : f / 2 ^ (14 - k) % 2 = 1
      · have e1 : (bits BinOp.and IntKind.i64 (f / 2 ^ (14 - k)) 1 == 1) = true := by rw [HA, hb]; rfl
        have HR2 := hid (show powX f (k + 1) = x + x * r / 1073741824 by rw [HR.out, if_pos (by unfold powBit; simpa using hb)])
        clear HA hb HR
        go_wp2
        go_round
        case rel => exact ⟨k + 1, _, by omega, by go_num, rfl, hid HR2.out.symm⟩
        case measure => simp [intOf] <;> omega
      · have e1 : (bits BinOp.and IntKind.i64 (f / 2 ^ (14 - k)) 1 == 1) = false := by rw [HA]; simpa using hb
        have HR2 := hid (show powX f (k + 1) = x by rw [HR.out, if_neg (by unfold powBit; simpa using hb)])
        clear HA hb HR
        go_wp2
        go_round
        case rel => exact ⟨k + 1, _, by omega, by go_num, rfl, hid HR2.out.symm⟩
        case measure => simp [intOf] <;> omega
    · obtain rfl : k = 15 := by omega
      obtain ⟨m, rfl⟩ := Int.eq_ofNat_of_zero_le n1
      have x1 : 1073741824 ≤ x := by rw [HX.out]; exact powX_lo f 15
      have x2 : x ≤ 2147483648 := by rw [HX.out]; exact powX_hi f (by omega)
      have HV := hid (show powV (m : Nat) f = (if 2147483647 ≤ x / 2 ^ (30 - m) then 2147483647 else x / 2 ^ (30 - m)) by
        unfold powV
        rw [if_pos (by unfold powB; simp; omega), ← HX.out, show ((30 : Int) - (m : Nat)).toNat = 30 - m by omega])
      clear HX hlt
      obtain ⟨p, hp⟩ : ∃ p, p = x / 2 ^ (30 - m) := ⟨_, rfl⟩
      rw [← hp] at HV
      by_cases hc : 2147483647 ≤ p
      · have HV2 := hid (show powV (m : Nat) f = 2147483647 by rw [HV.out, if_pos hc])
        have g1 : 2147483647 ≤ x / 2 ^ (30 - m) := by rw [← hp]; exact hc
        clear hp HV hc
        go_wp2
        all_goals
          go_ret2
          exact ⟨by rw [HV2.out]; first | rfl | exact ret2i (a := x / 2 ^ (30 - m)) (by omega), rfl⟩
      · have HV2 := hid (show powV (m : Nat) f = x / 2 ^ (30 - m) by rw [HV.out, if_neg hc, hp])
        have g1 : x / 2 ^ (30 - m) < 2147483647 := by omega
        clear hp HV hc
        go_wp2
        all_goals
          go_ret2
          exact ⟨by rw [HV2.out]; first | rfl | exact ret2i (a := x / 2 ^ (30 - m)) (by omega), rfl⟩

set_option maxHeartbeats 1000000 in
theorem dualPow_any (n f : Int) (w : World) (T : TabA w 0 rootsL) :
    Calls Tryd.prog 12 #[.int .i64 n, .int .i64 f] w fun e w' => e = .returned (.tuple #[.int .i64 (powV n f), .int .i64 (errOf (powB n f))]) ∧ w = w' := by
  by_cases h : (0 ≤ n ∧ n ≤ 30) ∧ 0 ≤ f ∧ f ≤ 32767
  · have hb : powB n f = true := by unfold powB; simpa using h
    rw [hb]
    exact dualPow_in n f w T h.1.1 h.1.2 h.2.1 h.2.2
  · have hb : powB n f = false := by unfold powB; simpa using h
    have hv : powV n f = 0 := by unfold powV; rw [hb]; rfl
    rw [hb, hv]
    clear hb hv T
    by_cases h1 : n < 0
    · clear h
      go_enter Tryd.func12, Tryd.ntmps12
      go_wp2
      go_ret2
      exact ⟨rfl, rfl⟩
    by_cases h2 : 30 < n
    · clear h
      go_enter Tryd.func12, Tryd.ntmps12
      go_wp2
      go_ret2
      exact ⟨rfl, rfl⟩
    by_cases h3 : f < 0
    · clear h
      go_enter Tryd.func12, Tryd.ntmps12
      go_wp2
      go_ret2
      exact ⟨rfl, rfl⟩
    have h4 : 32767 < f := by omega
    clear h
    go_enter Tryd.func12, Tryd.ntmps12
    go_wp2
    go_ret2
    exact ⟨rfl, rfl⟩

/-! The level of a gain. -/
def glB (n : Int) : Bool := decide (0 ≤ n ∧ n ≤ 31)
def glV (n : Int) : Int := if glB n then powV ((24 + 3 * n) / 8) ((24 + 3 * n) % 8 * 4096) else 0
theorem powB_gl {n : Int} (h1 : 0 ≤ n) (h2 : n ≤ 31) : powB ((24 + 3 * n) / 8) ((24 + 3 * n) % 8 * 4096) = true := by
  unfold powB
  simp
  omega
theorem glB_yes {n : Int} (h1 : 0 ≤ n) (h2 : n ≤ 31) : glB n = true := by unfold glB; simp; omega
theorem glB_no {n : Int} (h : n < 0 ∨ 31 < n) : glB n = false := by unfold glB; simp; omega
theorem glV_range (n : Int) : 0 ≤ glV n ∧ glV n ≤ 32767 := by
  by_cases h : 0 ≤ n ∧ n ≤ 31
  · obtain ⟨k, rfl⟩ := Int.eq_ofNat_of_zero_le h.1
    have : ∀ k : Nat, k < 32 → 0 ≤ glV (k : Nat) ∧ glV (k : Nat) ≤ 32767 := by decide +kernel
    exact this k (by omega)
  · unfold glV
    rw [glB_no (by omega)]
    simp

set_option maxHeartbeats 1000000 in
theorem gainLevel_any (n : Int) (w : World) (T : TabA w 0 rootsL) :
    Calls Tryd.prog 14 #[.int .i64 n] w fun e w' => e = .returned (.tuple #[.int .i64 (glV n), .int .i64 (errOf (glB n))]) ∧ w = w' := by
  by_cases h : n < 0 ∨ 31 < n
  · rw [show glV n = 0 by unfold glV; rw [glB_no h]; rfl, glB_no h]
    clear T
    rcases h with h | h
    · go_enter Tryd.func14, Tryd.ntmps14
      go_wp2
      go_ret2
      exact ⟨rfl, rfl⟩
    · have h2 : ¬ n < 0 := by omega
      go_enter Tryd.func14, Tryd.ntmps14
      go_wp2
      go_ret2
      exact ⟨rfl, rfl⟩
  · have l1 : 0 ≤ n := by omega
    have l2 : n ≤ 31 := by omega
    have l3 : ¬ n < 0 := by omega
    have l4 : ¬ 31 < n := by omega
    have K := dualPow_any (3 + 3 * n / 8) (3 * n % 8 * 4096) w T
    rw [show (3 : Int) + 3 * n / 8 = (24 + 3 * n) / 8 by omega, show (3 : Int) * n % 8 * 4096 = (24 + 3 * n) % 8 * 4096 by omega, powB_gl l1 l2] at K
    have hv : powV ((24 + 3 * n) / 8) ((24 + 3 * n) % 8 * 4096) = glV n := by unfold glV; rw [glB_yes l1 l2]; rfl
    rw [hv, show (24 + 3 * n) / 8 = 3 + 3 * n / 8 by omega, show (24 + 3 * n) % 8 * 4096 = 3 * n % 8 * 4096 by omega] at K
    rw [glB_yes l1 l2]
    have K := hid K
    clear hv T h
    go_enter Tryd.func14, Tryd.ntmps14
    go_wp2_with (go_at_call 12; (with_reducible refine K.out.mono ?_); rintro e w' ⟨rfl, rfl⟩)
    go_ret2
    exact ⟨rfl, rfl⟩
end Go.Proofs.YtnielfleokbloaaDoor
