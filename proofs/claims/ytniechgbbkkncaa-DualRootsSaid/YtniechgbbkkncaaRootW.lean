/- The root: plain facts, and the walk of the program's Root. -/
import Derived.Test.YtniechgbbkkncaaBigBit
import Derived.Test.YtniechgbbkkncaaNumA
namespace Go.Proofs.Ytniechgbbkkncaa
set_option linter.unusedVariables false
set_option linter.unusedSimpArgs false
set_option maxRecDepth 100000
open Go.RowKit

def IsRt (a r : Nat) : Prop := r * r ≤ a ∧ a < (r + 1) * (r + 1)
theorem IsRt.eq {a r s : Nat} (h : IsRt a r) (k : IsRt a s) : r = s := by
  rcases Nat.lt_trichotomy r s with hl | he | hl
  · have := Nat.mul_le_mul (show r + 1 ≤ s from hl) (show r + 1 ≤ s from hl)
    have h1 := h.2
    have h2 := k.1
    omega
  · exact he
  · have := Nat.mul_le_mul (show s + 1 ≤ r from hl) (show s + 1 ≤ r from hl)
    have h1 := k.2
    have h2 := h.1
    omega
/-- What holds with j bits to come. -/
structure RtS (a j r : Nat) : Prop where
  mul : ∃ m, r = m * 2 ^ j
  lo : r * r ≤ a
  hi : a < (r + 2 ^ j) * (r + 2 ^ j)
theorem RtS.start {a j : Nat} (h : a < 2 ^ j * 2 ^ j) : RtS a j 0 := ⟨⟨0, by simp⟩, by omega, by simpa using h⟩
theorem RtS.yes {a i r : Nat} (h : RtS a (i + 1) r) (ht : (r + 2 ^ i) * (r + 2 ^ i) ≤ a) : RtS a i (r + 2 ^ i) := by
  obtain ⟨m, hm⟩ := h.mul
  have e : r + 2 ^ i + 2 ^ i = r + 2 ^ (i + 1) := by rw [Nat.pow_succ]; omega
  refine ⟨⟨2 * m + 1, ?_⟩, ht, by rw [e]; exact h.hi⟩
  rw [hm, Nat.pow_succ, Nat.add_mul, Nat.one_mul, Nat.mul_comm (2 ^ i) 2, ← Nat.mul_assoc, Nat.mul_comm m 2]
theorem RtS.no {a i r : Nat} (h : RtS a (i + 1) r) (ht : ¬ (r + 2 ^ i) * (r + 2 ^ i) ≤ a) : RtS a i r := by
  obtain ⟨m, hm⟩ := h.mul
  refine ⟨⟨2 * m, ?_⟩, h.lo, by omega⟩
  rw [hm, Nat.pow_succ, Nat.mul_comm (2 ^ i) 2, ← Nat.mul_assoc, Nat.mul_comm m 2]
theorem RtS.fin {a r : Nat} (h : RtS a 0 r) : IsRt a r := ⟨h.lo, by simpa using h.hi⟩
theorem RtS.lt {a j r : Nat} (h : RtS a j r) (ha : a < 2147483648) : r < 46341 := by
  by_cases hc : r < 46341
  · exact hc
  · have := Nat.mul_le_mul (show 46341 ≤ r by omega) (show 46341 ≤ r by omega)
    have := h.lo
    omega

/-- The answer of Root. -/
def RtA (w : World) (a : Int) (e : Ending) (w' : World) : Prop :=
  Below w.heap.size w w' ∧ ∃ r k : Int, e = .returned (.tuple #[.int .i64 r, .int .i64 k]) ∧ (if 0 ≤ a ∧ a ≤ 2147483647 then (k = 0 ∧ 0 ≤ r ∧ IsRt a.toNat r.toNat) else r = 0 ∧ k = 2)

set_option maxHeartbeats 1000000 in
theorem root_any (a : Int) (w : World) : Calls Try.prog 20 #[.int .i64 a] w (RtA w a) := by
  by_cases h1 : a < 0
  · have FIN := hid (show ∀ w' : World, Below w.heap.size w w' → RtA w a (.returned (.tuple #[.int .i64 0, .int .i64 2])) w' from fun w' hb => ⟨hb, 0, 2, rfl, by rw [if_neg (by omega)]; exact ⟨rfl, rfl⟩⟩)
    have d1 : decide (a < 0) = true := by simpa using h1
    go_enter Try.func20, Try.ntmps20
    go_wp2
    go_ret2
    exact FIN.out _ (Below.refl _ _)
  have d1 : decide (a < 0) = false := by simpa using h1
  by_cases h2 : 2147483647 < a
  · have FIN := hid (show ∀ w' : World, Below w.heap.size w w' → RtA w a (.returned (.tuple #[.int .i64 0, .int .i64 2])) w' from fun w' hb => ⟨hb, 0, 2, rfl, by rw [if_neg (by omega)]; exact ⟨rfl, rfl⟩⟩)
    have d2 : decide (2147483647 < a) = true := by simpa using h2
    go_enter Try.func20, Try.ntmps20
    go_wp2
    go_ret2
    exact FIN.out _ (Below.refl _ _)
  have d2 : decide (2147483647 < a) = false := by simpa using h2
  obtain ⟨n, rfl⟩ := Int.eq_ofNat_of_zero_le (show 0 ≤ a by omega)
  have hn : n < 2147483648 := by omega
  have FIN := hid (show ∀ r : Nat, RtS n 0 r → RtA w n (.returned (.tuple #[.int .i64 r, .int .i64 0])) w from fun r hr => ⟨Below.refl _ _, r, 0, rfl, by rw [if_pos (by omega)]; exact ⟨rfl, by omega, by simpa using hr.fin⟩⟩)
  have S0 := hid (RtS.start (a := n) (j := 16) (by omega))
  have HN := hid hn
  clear h1 h2 hn
  go_enter Try.func20, Try.ntmps20
  go_wp2
  go_loop [4, 5] (fun rv iv => ∃ (j r : Nat) (x : Int), j ≤ 16 ∧ x = (j : Int) - 1 ∧ rv = .int .i64 r ∧ iv = .int .i64 x ∧ Hid (RtS n j r)) (fun _ iv => (intOf iv + 1).toNat)
  case atStart => exact ⟨16, 0, 15, by omega, by omega, rfl, rfl, S0⟩
  case round =>
    clear S0
    obtain ⟨j, r, x, hj, hx, rfl, rfl, HS⟩ := hrel
    cases j with
    | zero =>
      have hx0 : x < 0 := by omega
      have d0 : decide (0 ≤ x) = false := by simpa using hx0
      clear hx
      go_wp2
      go_ret2
      exact FIN.out r HS.out
    | succ i =>
      obtain rfl : x = (i : Nat) := by omega
      have hr := HS.out.lt HN.out
      obtain ⟨m, hm⟩ := HS.out.mul
      have hor := or64 (or_top hm) (by have : 2 ^ i ≤ 2 ^ 15 := Nat.pow_le_pow_right (by decide) (by omega)
                                       omega)
      have hpl : 2 ^ i ≤ 32768 := Nat.pow_le_pow_right (n := 2) (j := 15) (by decide) (by omega)
      have HY := hid (fun h => RtS.yes HS.out h)
      have HNO := hid (fun h => RtS.no HS.out h)
      have hpI : ((2 : Int) ^ i) = ((2 ^ i : Nat) : Int) := by simp
      obtain ⟨p, hp⟩ : ∃ p, p = 2 ^ i := ⟨_, rfl⟩
      rw [← hp] at hor hpI hpl
      have HY := hid (show (r + p) * (r + p) ≤ n → RtS n i (r + p) by rw [hp]; exact HY.out)
      have HNO := hid (show ¬ (r + p) * (r + p) ≤ n → RtS n i r by rw [hp]; exact HNO.out)
      have HP := hid hp
      clear hm hp hx
      have hpos : (0 : Int) ≤ p := by omega
      have hrI : (0 : Int) ≤ r := by omega
      have hmul1 : 0 ≤ ((r : Int) + p) * (r + p) := Int.mul_nonneg (by omega) (by omega)
      have hmul2 : ((r : Int) + p) * (r + p) ≤ 100000 * 100000 := Int.mul_le_mul (by omega) (by omega) (by omega) (by omega)
      have hcast : ((r : Int) + p) * (r + p) = (((r + p) * (r + p) : Nat) : Int) := by simp
      have HC := hid hcast
      have hj2 : i ≤ 16 := by omega
      clear hcast hj
      go_wp2_with fail
      · rename_i hle
        refine ⟨⟨i, r + p, (i : Int) - 1, hj2, rfl, by simp, rfl, hid (HY.out ?_)⟩, ?_⟩
        · have := HC.out
          omega
        · simp [intOf] <;> omega
      · rename_i hle
        refine ⟨⟨i, r, (i : Int) - 1, hj2, rfl, rfl, rfl, hid (HNO.out ?_)⟩, ?_⟩
        · have := HC.out
          omega
        · simp [intOf] <;> omega
end Go.Proofs.Ytniechgbbkkncaa
