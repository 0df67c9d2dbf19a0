/- The walk of the law DualLogs. -/
import Derived.Test.YtjgompeeigfdhaaNormW
import Derived.Test.YtjgompeeigfdhaaBigMulO
import Derived.Test.YtjgompeeigfdhaaBigRsh
namespace Go.Proofs.Ytjgompeeigfdhaa
set_option linter.unusedVariables false
set_option linter.unusedSimpArgs false
open Go.RowKit

def lgStep (p : Nat × Nat) : Nat × Nat := if 2147483648 ≤ p.1 * p.1 / 1073741824 then (p.1 * p.1 / 1073741824 / 2, 2 * p.2 + 1) else (p.1 * p.1 / 1073741824, 2 * p.2)
def lgN : Nat → Nat → Nat × Nat
  | 0, x => (x, 0)
  | k + 1, x => lgStep (lgN k x)

theorem sq_range {x : Nat} (h1 : 1073741824 ≤ x) (h2 : x < 2147483648) : 1073741824 ≤ x * x / 1073741824 ∧ x * x / 1073741824 < 4294967296 ∧ x * x < 4611686018427387904 := by
  have h3 : 1073741824 * 1073741824 ≤ x * x := Nat.mul_le_mul h1 h1
  have h4 : x * x ≤ 2147483647 * 2147483647 := Nat.mul_le_mul (by omega) (by omega)
  omega

theorem lgN_range {x : Nat} (h1 : 1073741824 ≤ x) (h2 : x < 2147483648) (k : Nat) : 1073741824 ≤ (lgN k x).1 ∧ (lgN k x).1 < 2147483648 ∧ (lgN k x).2 < 2 ^ k := by
  induction k with
  | zero => exact ⟨h1, h2, by simp [lgN]⟩
  | succ k ih =>
    obtain ⟨i1, i2, i3⟩ := ih
    have h := sq_range i1 i2
    simp only [lgN, lgStep]
    rw [Nat.pow_succ]
    split
    · exact ⟨by simp only; omega, by simp only; omega, by simp only; omega⟩
    · exact ⟨by simp only; omega, by simp only; omega, by simp only; omega⟩

theorem nrmGo_spec : ∀ (f : Nat) (y : Int), 0 < y → y < 2147483648 → 1073741824 ≤ y * 2 ^ f → 1073741824 ≤ y * 2 ^ nrmGo f y ∧ y * 2 ^ nrmGo f y < 2147483648 := by
  intro f
  induction f with
  | zero => intro y h0 h1 h2; simp [nrmGo] at *; omega
  | succ f ih =>
    intro y h0 h1 h2
    unfold nrmGo
    by_cases h : -1073741824 ≤ y ∧ y < 1073741824
    · rw [if_pos h]
      have e : ∀ n : Nat, y * 2 ^ (1 + n) = 2 * y * 2 ^ n := by
        intro n; rw [Nat.add_comm, Int.pow_succ, Int.mul_comm ((2 : Int) ^ n) 2, ← Int.mul_assoc, Int.mul_comm y 2]
      rw [e]
      refine ih (2 * y) (by omega) (by omega) ?_
      rw [← e, Nat.add_comm]; exact h2
    · rw [if_neg h]; simp; omega

theorem nrm_spec {a : Int} (h1 : 1 ≤ a) (h2 : a ≤ 2147483647) : 1073741824 ≤ a * 2 ^ nrm a ∧ a * 2 ^ nrm a < 2147483648 ∧ nrm a ≤ 30 := by
  have e : s32 a = a := by unfold s32 lim; rw [if_neg (by omega), if_neg (by omega)]
  have hn : nrm a = nrmGo 40 a := by unfold nrm; rw [e, if_neg (by omega)]
  rw [hn]
  have h := nrmGo_spec 40 a (by omega) (by omega) (by
    have : (2 : Int) ^ 40 = 1099511627776 := by decide
    rw [this]; omega)
  refine ⟨h.1, h.2, ?_⟩
  by_cases hc : nrmGo 40 a ≤ 30
  · exact hc
  · exfalso
    have h3 : (2 : Int) ^ 31 ≤ 2 ^ nrmGo 40 a := by
      have := Nat.pow_le_pow_right (show 0 < 2 by decide) (show 31 ≤ nrmGo 40 a by omega)
      have e2 : ((2 ^ nrmGo 40 a : Nat) : Int) = 2 ^ nrmGo 40 a := by simp
      have e3 : (2 : Int) ^ 31 = 2147483648 := by decide
      omega
    have h4 : 1 * (2 : Int) ^ nrmGo 40 a ≤ a * 2 ^ nrmGo 40 a := Int.mul_le_mul_of_nonneg_right h1 (by omega)
    have e3 : (2 : Int) ^ 31 = 2147483648 := by decide
    omega

/-- The whole part, the digits, the error. -/
def lgW (a : Int) : Int := if a < 1 ∨ 2147483647 < a then 0 else 30 - (nrm a : Nat)
def lgF (a : Int) : Int := if a < 1 ∨ 2147483647 < a then 0 else ((lgN 15 (a * 2 ^ nrm a).toNat).2 : Nat)
def lgE (a : Int) : Int := if a < 1 ∨ 2147483647 < a then 2 else 0

def Logs (w : World) (a : Int) (e : Ending) (w' : World) : Prop := e = .returned (.tuple #[.int .i64 (lgW a), .int .i64 (lgF a), .int .i64 (lgE a)]) ∧ Below w.heap.size w w'

theorem logs_bad {w w' : World} {a : Int} (h : a < 1 ∨ 2147483647 < a) (hB : Below w.heap.size w w') : Logs w a (.returned (.tuple #[.int .i64 0, .int .i64 0, .int .i64 2])) w' := by
  refine ⟨?_, hB⟩
  unfold lgW lgF lgE
  rw [if_pos h, if_pos h, if_pos h]

theorem logs_good {w w' : World} {a : Int} {X : Nat} (h : ¬ (a < 1 ∨ 2147483647 < a)) (hX : X = (a * 2 ^ nrm a).toNat) (hB : Below w.heap.size w w') :
    Logs w a (.returned (.tuple #[.int .i64 (30 - (nrm a : Nat)), .int .i64 ((lgN 15 X).2 : Nat), .int .i64 0])) w' := by
  refine ⟨?_, hB⟩
  unfold lgW lgF lgE
  rw [if_neg h, if_neg h, if_neg h, hX]

set_option maxRecDepth 100000 in
theorem sq_int {x : Int} (h1 : 1073741824 ≤ x) (h2 : x < 2147483648) : 1073741824 ≤ x * x / 1073741824 ∧ x * x / 1073741824 < 4294967296 ∧ 0 ≤ x * x ∧ x * x ≤ 4611686018427387904 := by
  obtain ⟨n, rfl⟩ := Int.eq_ofNat_of_zero_le (show 0 ≤ x by omega)
  have h := sq_range (x := n) (by omega) (by omega)
  rw [show ((n : Int) * n) = ((n * n : Nat) : Int) from by simp]
  omega

theorem lg_int {X k : Nat} {x f : Int} (h1 : 1073741824 ≤ x) (h2 : x < 2147483648) (h3 : 0 ≤ f) (h4 : f < 32768) (hX1 : 1073741824 ≤ X) (hX2 : X < 2147483648) (hk : k + 1 ≤ 15) (h : lgN k X = (x.toNat, f.toNat)) :
    (2147483648 ≤ x * x / 1073741824 → 1073741824 ≤ x * x / 1073741824 / 2 ∧ x * x / 1073741824 / 2 < 2147483648 ∧ f * 2 + 1 < 32768 ∧ lgN (k + 1) X = ((x * x / 1073741824 / 2).toNat, (f * 2 + 1).toNat)) ∧
    (¬ 2147483648 ≤ x * x / 1073741824 → 1073741824 ≤ x * x / 1073741824 ∧ x * x / 1073741824 < 2147483648 ∧ f * 2 < 32768 ∧ lgN (k + 1) X = ((x * x / 1073741824).toNat, (f * 2).toNat)) := by
  obtain ⟨n, rfl⟩ := Int.eq_ofNat_of_zero_le (show 0 ≤ x by omega)
  obtain ⟨g, rfl⟩ := Int.eq_ofNat_of_zero_le h3
  have hq := sq_range (x := n) (by omega) (by omega)
  have hR := lgN_range hX1 hX2 (k + 1)
  have hp : (2 : Nat) ^ (k + 1) ≤ 2 ^ 15 := Nat.pow_le_pow_right (by decide) hk
  have hL : lgN (k + 1) X = lgStep (n, g) := by simp only [lgN]; rw [h]; simp
  have e : ((n : Int) * n / 1073741824) = ((n * n / 1073741824 : Nat) : Int) := by simp
  rw [e]
  rw [hL] at hR ⊢
  unfold lgStep at hR ⊢
  simp only at hR ⊢
  generalize n * n / 1073741824 = y at *
  constructor
  · intro hge
    rw [if_pos (by omega)] at hR ⊢
    simp only at hR
    refine ⟨by omega, by omega, by omega, ?_⟩
    congr 1 <;> omega
  · intro hge
    rw [if_neg (by omega)] at hR ⊢
    simp only at hR
    refine ⟨by omega, by omega, by omega, ?_⟩
    congr 1 <;> omega

set_option maxHeartbeats 1000000 in
theorem log_any (a : Int) (w : World) : Calls Try.prog 33 #[.int .i64 a] w (Logs w a) := by
  by_cases h1 : a < 1
  · have FIN := hid (logs_bad (w := w) (w' := w) (.inl h1) (Below.refl _ _))
    have d1 : decide (a < 1) = true := by simpa using h1
    go_enter Try.func33, Try.ntmps33
    go_wp2
    go_ret3
    exact FIN.out
  have d1 : decide (a < 1) = false := by simpa using h1
  by_cases h2 : 2147483647 < a
  · have FIN := hid (logs_bad (w := w) (w' := w) (.inr h2) (Below.refl _ _))
    have d2 : decide (2147483647 < a) = true := by simpa using h2
    go_enter Try.func33, Try.ntmps33
    go_wp2
    go_ret3
    exact FIN.out
  have d2 : decide (2147483647 < a) = false := by simpa using h2
  have hs := nrm_spec (a := a) (by omega) (by omega)
  obtain ⟨X, hX⟩ : ∃ X : Nat, X = (a * 2 ^ nrm a).toNat := ⟨_, rfl⟩
  have FIN := hid (logs_good (w := w) (w' := w) (by omega) hX (Below.refl _ _))
  have eX : a * 2 ^ nrm a = (X : Int) := by omega
  have hX1 : 1073741824 ≤ X := by omega
  have hX2 : X < 2147483648 := by omega
  have hn := hs.2.2
  have N0 := hid (norm_any a w)
  generalize nrm a = n at *
  have hr1 : 1 ≤ a := by omega
  have hr2 : a ≤ 2147483647 := by omega
  have hl1 : -9223372036854775808 ≤ a * 2 ^ n := by omega
  have hl2 : a * 2 ^ n ≤ 9223372036854775807 := by omega
  clear hs hX h1 h2
  go_enter Try.func33, Try.ntmps33
  go_wp2_with (go_at_call 21; refine N0.out.mono ?_; rintro e w1 ⟨rfl, rfl⟩)
  clear eX hl1 hl2
  go_loop [6, 7, 20] (fun xv fv iv => ∃ (k : Nat) (x f : Int), k ≤ 15 ∧ iv = .int .i64 k ∧ xv = .int .i64 x ∧ fv = .int .i64 f ∧ 1073741824 ≤ x ∧ x < 2147483648 ∧ 0 ≤ f ∧ f < 32768 ∧ Hid (lgN k X = (x.toNat, f.toNat))) (fun _ _ iv => 15 - (intOf iv).toNat)
  case atStart => exact ⟨0, X, 0, by omega, rfl, rfl, rfl, by omega, by omega, by omega, by omega, hid rfl⟩
  case round =>
    obtain ⟨k, x, f, hk, rfl, rfl, rfl, hx1, hx2, hf0, hf, HI⟩ := hrel
    by_cases hlt : k < 15
    · have HX := hid (And.intro hX1 hX2)
      clear hX1 hX2
      obtain ⟨hq1, hq2, hxx1, hxx2⟩ := sq_int hx1 hx2
      have HL := hid (lg_int (k := k) hx1 hx2 hf0 hf HX.out.1 HX.out.2 (by omega) HI.out)
      generalize hyv : x * x / 1073741824 = y at *
      have HY := hid hyv
      by_cases hge : 2147483648 ≤ y
      · have h3 := hid (HL.out.1 hge)
        clear hq1 hq2
        go_wp2
        go_round
        case rel => exact ⟨k + 1, y / 2, f * 2 + 1, by omega, by simp, by simp, by simp, h3.out.1, h3.out.2.1, by omega, h3.out.2.2.1, hid h3.out.2.2.2⟩
        case measure => simp [intOf] <;> omega
      · have h3 := hid (HL.out.2 hge)
        clear hq1 hq2
        go_wp2
        go_round
        case rel => exact ⟨k + 1, y, f * 2, by omega, by simp, by simp, by simp, h3.out.1, h3.out.2.1, by omega, h3.out.2.2.1, hid h3.out.2.2.2⟩
        case measure => simp [intOf] <;> omega
    · obtain rfl : k = 15 := by omega
      rw [HI.out] at FIN
      have ef : ((f.toNat : Nat) : Int) = f := by omega
      have FIN2 := hid (show Logs w a (.returned (.tuple #[.int .i64 (30 - (n : Nat)), .int .i64 f, .int .i64 0])) w by have := FIN.out; simp only [ef] at this; exact this)
      clear ef FIN
      go_wp2
      go_ret3
      exact FIN2.out
end Go.Proofs.Ytjgompeeigfdhaa
