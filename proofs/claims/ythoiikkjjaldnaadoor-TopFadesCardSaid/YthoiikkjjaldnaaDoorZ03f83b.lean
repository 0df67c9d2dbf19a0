/- Texts that the law rests on, laid together: GainO, CorB. -/
import Derived.Test.YthoiikkjjaldnaaDoorZc583e9
import Derived.Test.YthoiikkjjaldnaaDoorZ10bfcc
import Derived.Test.YthoiikkjjaldnaaDoorZe90ea5
import Derived.BigQuiet
import Derived.Deep.QuietTactic
import Derived.Test.YthoiikkjjaldnaaDoorZecaa1b
import Derived.Test.YthoiikkjjaldnaaDoorZ8ebc89
/- The walks of the program's gain.One and the reference's GainOne, and of the law GainOnes. -/
namespace Go.Proofs.YthoiikkjjaldnaaDoor
set_option linter.unusedVariables false
set_option linter.unusedSimpArgs false
set_option maxRecDepth 100000
open Go.RowKit

def glF (k : Nat) : Int := glV (k : Nat)
def glL : List Int := (List.range 32).map glF
theorem glL_len : glL.length = 32 := by simp [glL]
theorem glL_get {k : Nat} (h : k < 32) : glL.getD k 0 = glV (k : Nat) := range_get glF h
theorem glL_at (i : Nat) : 0 ≤ glL.getD i 0 ∧ glL.getD i 0 ≤ 32767 := by
  by_cases h : i < 32
  · rw [glL_get h]; exact glV_range _
  · rw [List.getD_eq_getElem?_getD, List.getElem?_eq_none (by rw [glL_len]; omega)]; simp
def cap60 (x : Int) : Int := if x ≤ 1152921504606846976 then x else 1152921504606846976
def cap44 (x : Int) : Int := if x ≤ 17592186044416 then x else 17592186044416
def gainOneV (c e : Int) : Int := if c ≤ 0 ∨ e ≤ 0 then 0 else nearB glL 1 (cap60 c) (cap44 e) 32


set_option maxHeartbeats 4000000 in
theorem gainOne_any (c e : Int) (w : World) (T : TabA w 2 rootsL) (c1 : -9223372036854775808 ≤ c) (c2 : c ≤ 9223372036854775807) (e1 : -9223372036854775808 ≤ e) (e2 : e ≤ 9223372036854775807) :
    Calls Tryd.prog 61 #[.int .i64 c, .int .i64 e] w fun e' w' => e' = .returned (.int .i64 (gainOneV c e)) ∧ w = w' := by
  by_cases h1 : c ≤ 0
  · have FIN := hid (show gainOneV c e = 0 by unfold gainOneV; rw [if_pos (.inl h1)])
    clear T
    go_enter Tryd.func61, Tryd.ntmps61
    go_wp2
    go_ret
    exact ⟨by rw [FIN.out]; rfl, rfl⟩
  by_cases h2 : e ≤ 0
  · have FIN := hid (show gainOneV c e = 0 by unfold gainOneV; rw [if_pos (.inr h2)])
    clear T
    go_enter Tryd.func61, Tryd.ntmps61
    go_wp2
    go_ret
    exact ⟨by rw [FIN.out]; rfl, rfl⟩
  have FIN := hid (show gainOneV c e = nearB glL 1 (cap60 c) (cap44 e) 32 by unfold gainOneV; rw [if_neg (by omega)])
  have KL := hid (fun n => gainLevel_any n w T)
  clear T
  have p1 : 0 < c := by omega
  have p2 : 0 < e := by omega
  clear h1 h2
  by_cases b1 : c ≤ 1152921504606846976
  · by_cases b2 : e ≤ 17592186044416
    · have FIN := hid (show gainOneV c e = nearB glL 1 c e 32 by rw [FIN.out]; unfold cap60 cap44; rw [if_pos b1, if_pos b2])
      go_enter Tryd.func61, Tryd.ntmps61
      go_wp2
      go_loop [5, 6] (fun bv iv => ∃ (k : Nat), 1 ≤ k ∧ k ≤ 32 ∧ iv = .int .i64 k ∧ bv = .int .i64 (nearB glL 1 (c) (e) k)) (fun _ iv => 32 - (intOf iv).toNat)
      case atStart => exact ⟨1, by omega, by omega, rfl, by simp [nearB]⟩
      case round =>
        obtain ⟨k, hk1, hk, rfl, rfl⟩ := hrel
        have nb := nearB_range glL 1 (c) (e) k
        have ST := hid (nearB_step glL 1 (c) (e) (k := k) (by omega))
        by_cases hlt : k < 32
        · generalize nearB glL 1 (c) (e) k = bst at *
          have K1 := KL.out ((k : Int) - 1)
          have K2 := KL.out (k : Nat)
          rw [show glV ((k : Int) - 1) = glL.getD (k - 1) 0 by rw [glL_get (by omega)]; congr 1; omega] at K1
          rw [← glL_get hlt] at K2
          have v0 := glL_at k
          have v1 := glL_at (k - 1)
          generalize glL.getD k 0 = y at *
          generalize glL.getD (k - 1) 0 = x at *
          have mb := mul_small (x := x + y) (X := 65534) (y := (e)) (Y := 17592186044416) (by omega) (by omega) (by omega) (by omega)
          have hcomm : (y + x) * (e) = (x + y) * (e) := by rw [Int.add_comm]
          obtain ⟨mb1, mb2⟩ := mb
          have K1' := hid K1
          have K2' := hid K2
          clear K1 K2
          have l1 : (k : Int) ≤ 31 := by omega
          by_cases hgt : (x + y) * (e) < 2 * (c)
          · have HS2 := hid (show nearB glL 1 (c) (e) (k + 1) = k by rw [ST.out, if_pos (by rw [hcomm]; omega)])
            clear ST hcomm
            go_wp2_with (first
              | (go_at_call 63; (with_reducible refine K1'.out.mono ?_); rintro e1 w' ⟨rfl, rfl⟩)
              | (go_at_call 63; (with_reducible refine K2'.out.mono ?_); rintro e1 w' ⟨rfl, rfl⟩))
            all_goals
              go_round
              case rel => exact ⟨k + 1, by omega, by omega, by go_num, by rw [HS2.out]⟩
              case measure => simp [intOf] <;> omega
          · have HS2 := hid (show nearB glL 1 (c) (e) (k + 1) = bst by rw [ST.out, if_neg (by rw [hcomm]; omega)])
            clear ST hcomm
            go_wp2_with (first
              | (go_at_call 63; (with_reducible refine K1'.out.mono ?_); rintro e1 w' ⟨rfl, rfl⟩)
              | (go_at_call 63; (with_reducible refine K2'.out.mono ?_); rintro e1 w' ⟨rfl, rfl⟩))
            all_goals
              go_round
              case rel => exact ⟨k + 1, by omega, by omega, by go_num, by rw [HS2.out]⟩
              case measure => simp [intOf] <;> omega
        · obtain rfl : k = 32 := by omega
          go_wp2
          go_ret
          exact ⟨by rw [FIN.out]; rfl, rfl⟩
    · have b3 : 17592186044416 < e := by omega
      have FIN := hid (show gainOneV c e = nearB glL 1 c 17592186044416 32 by rw [FIN.out]; unfold cap60 cap44; rw [if_pos b1, if_neg b2])
      go_enter Tryd.func61, Tryd.ntmps61
      go_wp2
      go_loop [5, 6] (fun bv iv => ∃ (k : Nat), 1 ≤ k ∧ k ≤ 32 ∧ iv = .int .i64 k ∧ bv = .int .i64 (nearB glL 1 (c) (17592186044416) k)) (fun _ iv => 32 - (intOf iv).toNat)
      case atStart => exact ⟨1, by omega, by omega, rfl, by simp [nearB]⟩
      case round =>
        obtain ⟨k, hk1, hk, rfl, rfl⟩ := hrel
        have nb := nearB_range glL 1 (c) (17592186044416) k
        have ST := hid (nearB_step glL 1 (c) (17592186044416) (k := k) (by omega))
        by_cases hlt : k < 32
        · generalize nearB glL 1 (c) (17592186044416) k = bst at *
          have K1 := KL.out ((k : Int) - 1)
          have K2 := KL.out (k : Nat)
          rw [show glV ((k : Int) - 1) = glL.getD (k - 1) 0 by rw [glL_get (by omega)]; congr 1; omega] at K1
          rw [← glL_get hlt] at K2
          have v0 := glL_at k
          have v1 := glL_at (k - 1)
          generalize glL.getD k 0 = y at *
          generalize glL.getD (k - 1) 0 = x at *
          have mb := mul_small (x := x + y) (X := 65534) (y := (17592186044416)) (Y := 17592186044416) (by omega) (by omega) (by omega) (by omega)
          have hcomm : (y + x) * (17592186044416) = (x + y) * (17592186044416) := by rw [Int.add_comm]
          obtain ⟨mb1, mb2⟩ := mb
          have K1' := hid K1
          have K2' := hid K2
          clear K1 K2
          have l1 : (k : Int) ≤ 31 := by omega
          by_cases hgt : (x + y) * (17592186044416) < 2 * (c)
          · have HS2 := hid (show nearB glL 1 (c) (17592186044416) (k + 1) = k by rw [ST.out, if_pos (by rw [hcomm]; omega)])
            clear ST hcomm
            go_wp2_with (first
              | (go_at_call 63; (with_reducible refine K1'.out.mono ?_); rintro e1 w' ⟨rfl, rfl⟩)
              | (go_at_call 63; (with_reducible refine K2'.out.mono ?_); rintro e1 w' ⟨rfl, rfl⟩))
            all_goals
              go_round
              case rel => exact ⟨k + 1, by omega, by omega, by go_num, by rw [HS2.out]⟩
              case measure => simp [intOf] <;> omega
          · have HS2 := hid (show nearB glL 1 (c) (17592186044416) (k + 1) = bst by rw [ST.out, if_neg (by rw [hcomm]; omega)])
            clear ST hcomm
            go_wp2_with (first
              | (go_at_call 63; (with_reducible refine K1'.out.mono ?_); rintro e1 w' ⟨rfl, rfl⟩)
              | (go_at_call 63; (with_reducible refine K2'.out.mono ?_); rintro e1 w' ⟨rfl, rfl⟩))
            all_goals
              go_round
              case rel => exact ⟨k + 1, by omega, by omega, by go_num, by rw [HS2.out]⟩
              case measure => simp [intOf] <;> omega
        · obtain rfl : k = 32 := by omega
          go_wp2
          go_ret
          exact ⟨by rw [FIN.out]; rfl, rfl⟩
  · have b4 : 1152921504606846976 < c := by omega
    by_cases b2 : e ≤ 17592186044416
    · have FIN := hid (show gainOneV c e = nearB glL 1 1152921504606846976 e 32 by rw [FIN.out]; unfold cap60 cap44; rw [if_neg b1, if_pos b2])
      go_enter Tryd.func61, Tryd.ntmps61
      go_wp2
      go_loop [5, 6] (fun bv iv => ∃ (k : Nat), 1 ≤ k ∧ k ≤ 32 ∧ iv = .int .i64 k ∧ bv = .int .i64 (nearB glL 1 (1152921504606846976) (e) k)) (fun _ iv => 32 - (intOf iv).toNat)
      case atStart => exact ⟨1, by omega, by omega, rfl, by simp [nearB]⟩
      case round =>
        obtain ⟨k, hk1, hk, rfl, rfl⟩ := hrel
        have nb := nearB_range glL 1 (1152921504606846976) (e) k
        have ST := hid (nearB_step glL 1 (1152921504606846976) (e) (k := k) (by omega))
        by_cases hlt : k < 32
        · generalize nearB glL 1 (1152921504606846976) (e) k = bst at *
          have K1 := KL.out ((k : Int) - 1)
          have K2 := KL.out (k : Nat)
          rw [show glV ((k : Int) - 1) = glL.getD (k - 1) 0 by rw [glL_get (by omega)]; congr 1; omega] at K1
          rw [← glL_get hlt] at K2
          have v0 := glL_at k
          have v1 := glL_at (k - 1)
          generalize glL.getD k 0 = y at *
          generalize glL.getD (k - 1) 0 = x at *
          have mb := mul_small (x := x + y) (X := 65534) (y := (e)) (Y := 17592186044416) (by omega) (by omega) (by omega) (by omega)
          have hcomm : (y + x) * (e) = (x + y) * (e) := by rw [Int.add_comm]
          obtain ⟨mb1, mb2⟩ := mb
          have K1' := hid K1
          have K2' := hid K2
          clear K1 K2
          have l1 : (k : Int) ≤ 31 := by omega
          by_cases hgt : (x + y) * (e) < 2 * (1152921504606846976)
          · have HS2 := hid (show nearB glL 1 (1152921504606846976) (e) (k + 1) = k by rw [ST.out, if_pos (by rw [hcomm]; omega)])
            clear ST hcomm
            go_wp2_with (first
              | (go_at_call 63; (with_reducible refine K1'.out.mono ?_); rintro e1 w' ⟨rfl, rfl⟩)
              | (go_at_call 63; (with_reducible refine K2'.out.mono ?_); rintro e1 w' ⟨rfl, rfl⟩))
            all_goals
              go_round
              case rel => exact ⟨k + 1, by omega, by omega, by go_num, by rw [HS2.out]⟩
              case measure => simp [intOf] <;> omega
          · have HS2 := hid (show nearB glL 1 (1152921504606846976) (e) (k + 1) = bst by rw [ST.out, if_neg (by rw [hcomm]; omega)])
            clear ST hcomm
            go_wp2_with (first
              | (go_at_call 63; (with_reducible refine K1'.out.mono ?_); rintro e1 w' ⟨rfl, rfl⟩)
              | (go_at_call 63; (with_reducible refine K2'.out.mono ?_); rintro e1 w' ⟨rfl, rfl⟩))
            all_goals
              go_round
              case rel => exact ⟨k + 1, by omega, by omega, by go_num, by rw [HS2.out]⟩
              case measure => simp [intOf] <;> omega
        · obtain rfl : k = 32 := by omega
          go_wp2
          go_ret
          exact ⟨by rw [FIN.out]; rfl, rfl⟩
    · have b3 : 17592186044416 < e := by omega
      have FIN := hid (show gainOneV c e = nearB glL 1 1152921504606846976 17592186044416 32 by rw [FIN.out]; unfold cap60 cap44; rw [if_neg b1, if_neg b2])
      go_enter Tryd.func61, Tryd.ntmps61
      go_wp2
      go_loop [5, 6] (fun bv iv => ∃ (k : Nat), 1 ≤ k ∧ k ≤ 32 ∧ iv = .int .i64 k ∧ bv = .int .i64 (nearB glL 1 (1152921504606846976) (17592186044416) k)) (fun _ iv => 32 - (intOf iv).toNat)
      case atStart => exact ⟨1, by omega, by omega, rfl, by simp [nearB]⟩
      case round =>
        obtain ⟨k, hk1, hk, rfl, rfl⟩ := hrel
        have nb := nearB_range glL 1 (1152921504606846976) (17592186044416) k
        have ST := hid (nearB_step glL 1 (1152921504606846976) (17592186044416) (k := k) (by omega))
        by_cases hlt : k < 32
        · generalize nearB glL 1 (1152921504606846976) (17592186044416) k = bst at *
          have K1 := KL.out ((k : Int) - 1)
          have K2 := KL.out (k : Nat)
          rw [show glV ((k : Int) - 1) = glL.getD (k - 1) 0 by rw [glL_get (by omega)]; congr 1; omega] at K1
          rw [← glL_get hlt] at K2
          have v0 := glL_at k
          have v1 := glL_at (k - 1)
          generalize glL.getD k 0 = y at *
          generalize glL.getD (k - 1) 0 = x at *
          have mb := mul_small (x := x + y) (X := 65534) (y := (17592186044416)) (Y := 17592186044416) (by omega) (by omega) (by omega) (by omega)
          have hcomm : (y + x) * (17592186044416) = (x + y) * (17592186044416) := by rw [Int.add_comm]
          obtain ⟨mb1, mb2⟩ := mb
          have K1' := hid K1
          have K2' := hid K2
          clear K1 K2
          have l1 : (k : Int) ≤ 31 := by omega
          by_cases hgt : (x + y) * (17592186044416) < 2 * (1152921504606846976)
          · have HS2 := hid (show nearB glL 1 (1152921504606846976) (17592186044416) (k + 1) = k by rw [ST.out, if_pos (by rw [hcomm]; omega)])
            clear ST hcomm
            go_wp2_with (first
              | (go_at_call 63; (with_reducible refine K1'.out.mono ?_); rintro e1 w' ⟨rfl, rfl⟩)
              | (go_at_call 63; (with_reducible refine K2'.out.mono ?_); rintro e1 w' ⟨rfl, rfl⟩))
            all_goals
              go_round
              case rel => exact ⟨k + 1, by omega, by omega, by go_num, by rw [HS2.out]⟩
              case measure => simp [intOf] <;> omega
          · have HS2 := hid (show nearB glL 1 (1152921504606846976) (17592186044416) (k + 1) = bst by rw [ST.out, if_neg (by rw [hcomm]; omega)])
            clear ST hcomm
            go_wp2_with (first
              | (go_at_call 63; (with_reducible refine K1'.out.mono ?_); rintro e1 w' ⟨rfl, rfl⟩)
              | (go_at_call 63; (with_reducible refine K2'.out.mono ?_); rintro e1 w' ⟨rfl, rfl⟩))
            all_goals
              go_round
              case rel => exact ⟨k + 1, by omega, by omega, by go_num, by rw [HS2.out]⟩
              case measure => simp [intOf] <;> omega
        · obtain rfl : k = 32 := by omega
          go_wp2
          go_ret
          exact ⟨by rw [FIN.out]; rfl, rfl⟩


end Go.Proofs.YthoiikkjjaldnaaDoor

/- By how many places the sums are moved, told by the bits of the first one. -/
namespace Go.Proofs.YthoiikkjjaldnaaDoor
set_option linter.unusedVariables false
set_option linter.unusedSimpArgs false
set_option maxRecDepth 100000
open Go.RowKit

theorem bits_right {Z n : Nat} (hn : 0 < n) (h1 : Z / 2 ^ n ≤ 2147483647) (h2 : 2147483647 < Z / 2 ^ (n - 1)) : bitlen Z = n + 31 := by
  obtain ⟨m, rfl⟩ : ∃ m, n = m + 1 := ⟨n - 1, by omega⟩
  rw [Nat.add_sub_cancel] at h2
  have a1 := Nat.div_mul_le_self Z (2 ^ m)
  have a2 := Nat.mul_le_mul_right (2 ^ m) (show 2147483648 ≤ Z / 2 ^ m by omega)
  have b1 := (Nat.div_lt_iff_lt_mul (Nat.two_pow_pos (m + 1))).1 (show Z / 2 ^ (m + 1) < 2147483648 by omega)
  have e1 : 2 ^ (31 + m) = 2147483648 * 2 ^ m := by rw [Nat.pow_add]
  have e2 : 2 ^ (31 + m + 1) = 2147483648 * 2 ^ (m + 1) := by rw [show 31 + m + 1 = 31 + (m + 1) by omega, Nat.pow_add]
  rw [bitlen_unique (k := 31 + m) (by rw [e1]; omega) (by rw [e2]; exact b1)]
  omega
theorem bits_left {Z m : Nat} (h0 : 0 < Z) (h1 : Z ≤ 2147483647) (h2 : 1073741824 ≤ Z * 2 ^ m) (h3 : ∀ j, j < m → Z * 2 ^ j < 1073741824) : bitlen Z + m = 31 := by
  by_cases hm : m = 0
  · subst hm
    rw [bitlen_unique (k := 30) (by omega) (by omega)]
  obtain ⟨j, rfl⟩ : ∃ j, m = j + 1 := ⟨m - 1, by omega⟩
  have h4 := h3 j (by omega)
  have hj : 2 ^ j < 2 ^ 30 := by
    have := Nat.mul_le_mul_right (2 ^ j) h0
    omega
  have hj2 : j < 30 := (Nat.pow_lt_pow_iff_right (by omega)).1 hj
  obtain ⟨k, hk⟩ : ∃ k, k + (j + 1) = 30 := ⟨29 - j, by omega⟩
  have e1 : 2 ^ k * 2 ^ (j + 1) = 1073741824 := by rw [← Nat.pow_add, hk]
  have e2 : 2 ^ (k + 1) * 2 ^ j = 1073741824 := by rw [← Nat.pow_add, show k + 1 + j = k + (j + 1) by omega, hk]
  have l1 : 2 ^ k ≤ Z := by
    rw [← e1] at h2
    exact Nat.le_of_mul_le_mul_right h2 (Nat.two_pow_pos _)
  have l2 : Z < 2 ^ (k + 1) := by
    rw [← e2] at h4
    exact Nat.lt_of_mul_lt_mul_right h4
  rw [bitlen_unique l1 l2]
  omega
def corK (l : List Int) : Int := (bitlen (corZ l).natAbs : Nat) - 31
def corG (l : List Int) : Int → Int := fun x => if 0 < corK l then x / 2 ^ (corK l).toNat else x * 2 ^ (-corK l).toNat
theorem cast_le_div {Z n c : Nat} (h : ((Z : Int) / 2 ^ n) ≤ (c : Nat)) : Z / 2 ^ n ≤ c := by
  have e : ((Z : Int) / 2 ^ n) = ((Z / 2 ^ n : Nat) : Int) := by simp
  rw [e] at h
  exact Int.ofNat_le.1 h
theorem cast_lt_div {Z n c : Nat} (h : ((c : Nat) : Int) < ((Z : Int) / 2 ^ n)) : c < Z / 2 ^ n := by
  have e : ((Z : Int) / 2 ^ n) = ((Z / 2 ^ n : Nat) : Int) := by simp
  rw [e] at h
  exact Int.ofNat_lt.1 h
theorem cast_le_mul {Z n c : Nat} (h : ((c : Nat) : Int) ≤ ((Z : Int) * 2 ^ n)) : c ≤ Z * 2 ^ n := by
  have e : ((Z : Int) * 2 ^ n) = ((Z * 2 ^ n : Nat) : Int) := by simp
  rw [e] at h
  exact Int.ofNat_le.1 h
theorem cast_lt_mul {Z n c : Nat} (h : ((Z : Int) * 2 ^ n) < ((c : Nat) : Int)) : Z * 2 ^ n < c := by
  have e : ((Z : Int) * 2 ^ n) = ((Z * 2 ^ n : Nat) : Int) := by simp
  rw [e] at h
  exact Int.ofNat_lt.1 h
/-- What Correlate answers, told by the bits. -/
def CorFin (l : List Int) (w : World) (e : Ending) (w' : World) : Prop := e = .returned (.tuple #[.agg (agi (corF l (corG l) 9)), .int .i64 (corK l), .int .i64 0]) ∧ Below w.heap.size w w'
theorem cor_fin {l : List Int} {w w' : World} {e : Ending} (hl : In16 l) (h : CorAns l w e w') : CorFin l w e w' := by
  obtain ⟨f, N, rfl, hB, h⟩ := h
  have hz := corZ_range hl
  obtain ⟨Z, hZ⟩ : ∃ Z : Nat, corZ l = (Z : Int) := ⟨(corZ l).toNat, by omega⟩
  have hK : corK l = (bitlen Z : Nat) - 31 := by unfold corK; rw [hZ]; rfl
  rw [hZ] at h hz
  rcases h with ⟨n, rfl, hn, rfl, h1, h2⟩ | ⟨m, rfl, rfl, h1, h2, h3⟩
  · have h1' : Z / 2 ^ n ≤ 2147483647 := cast_le_div h1
    have h2' : 2147483647 < Z / 2 ^ (n - 1) := cast_lt_div h2
    have hb := bits_right hn h1' h2'
    have hk : corK l = (n : Int) := by omega
    have hg : corG l = fun x => x / 2 ^ n := by
      funext x
      unfold corG
      rw [hk, if_pos (by omega), Int.toNat_natCast]
    exact ⟨by rw [hg, hk], hB⟩
  · have h2' : 1073741824 ≤ Z * 2 ^ m := cast_le_mul h2
    have hb := bits_left (Z := Z) (m := m) (by omega) (by omega) h2' (fun j hj => cast_lt_mul (h3 j hj))
    have hk : corK l = -(m : Int) := by omega
    have hg : corG l = fun x => x * 2 ^ m := by
      funext x
      unfold corG
      rw [hk, if_neg (by omega), Int.neg_neg, Int.toNat_natCast]
    exact ⟨by rw [hg, hk], hB⟩
/-! The zeros. -/
end Go.Proofs.YthoiikkjjaldnaaDoor
