/- Plain law: a number of 112 bits and its 14 bytes. -/
import Derived.Test.YtnbenmpjpogldaaDoorRows
import Derived.WalkKit
namespace Go.Proofs.YtnbenmpjpogldaaDoor
set_option linter.unusedVariables false
set_option linter.unusedSimpArgs false
set_option maxRecDepth 100000
open Go.RowKit

/-- The byte from bit e on. -/
def digE (V e : Nat) : Nat := V / 2 ^ e % 256
theorem digE_lt (V e : Nat) : digE V e < 256 := Nat.mod_lt _ (by omega)
theorem digE_bit (V e q : Nat) : (digE V e).testBit q = (decide (q < 8) && V.testBit (e + q)) := by
  unfold digE
  rw [show 256 = 2 ^ 8 from rfl, Nat.testBit_mod_two_pow, Nat.testBit_div_two_pow, Nat.add_comm q e]
theorem bit_one {u : Nat} (hu : u ≤ 1) (x : Nat) : u.testBit x = (decide (x = 0) && decide (u = 1)) := by
  have : u = 0 ∨ u = 1 := by omega
  rcases this with rfl | rfl
  · simp
  · cases x with
    | zero => rfl
    | succ x => simp [Nat.testBit_succ]
/-- A bit put into its byte. -/
theorem digE_put {V u p e : Nat} (hu : u ≤ 1) (h1 : e ≤ p) (h2 : p < e + 8) : digE (V ||| u <<< p) e = digE V e ||| u <<< (p - e) := by
  apply Nat.eq_of_testBit_eq
  intro q
  rw [digE_bit, Nat.testBit_or, Nat.testBit_or, digE_bit, Nat.testBit_shiftLeft, Nat.testBit_shiftLeft, bit_one hu, bit_one hu]
  by_cases hq : q < 8
  · by_cases hv : V.testBit (e + q)
    · simp [hq, hv]
    · by_cases h3 : e + q = p
      · have h4 : q = p - e := by omega
        subst h4
        simp [hq, hv, h3]
      · by_cases h5 : p ≤ e + q
        · have h6 : ¬ q - (p - e) = 0 := by omega
          have h7 : ¬ e + q - p = 0 := by omega
          simp [h6, h7, hv]
        · have h6 : ¬ q ≥ p - e := by omega
          simp [h5, h6, hv]
  · by_cases h3 : q - (p - e) = 0
    · omega
    · simp [hq, h3]
/-- The other bytes stay. -/
theorem digE_far {V u p e : Nat} (hu : u ≤ 1) (h : p < e ∨ e + 8 ≤ p) : digE (V ||| u <<< p) e = digE V e := by
  apply Nat.eq_of_testBit_eq
  intro q
  rw [digE_bit, Nat.testBit_or, digE_bit, Nat.testBit_shiftLeft, bit_one hu]
  by_cases hq : q < 8
  · by_cases h5 : e + q ≥ p
    · have h7 : ¬ e + q - p = 0 := by omega
      simp [h7]
    · simp [h5]
  · simp [hq]
/-- The 14 bytes, the greatest first. -/
def digL (V : Nat) : List Int := (List.range 14).map (fun j => (digE V (8 * (13 - j)) : Int))
/-- One more bit of a number behind those ahead. -/
theorem put_bit (V v k P : Nat) : (V ||| (v >>> (k + 1)) <<< (P + 1)) ||| ((v >>> k % 2) <<< P) = V ||| (v >>> k) <<< P := by
  rw [Nat.or_assoc]
  congr 1
  apply Nat.eq_of_testBit_eq
  intro x
  have hu : v >>> k % 2 ≤ 1 := by omega
  rw [Nat.testBit_or, Nat.testBit_shiftLeft, Nat.testBit_shiftLeft, Nat.testBit_shiftLeft, Nat.testBit_shiftRight, Nat.testBit_shiftRight, bit_one hu]
  by_cases h1 : x ≥ P
  · by_cases h2 : x = P
    · subst h2
      have h3 : v.testBit k = decide (v >>> k % 2 = 1) := by
        rw [Nat.testBit, Nat.one_and_eq_mod_two]
        by_cases h : v >>> k % 2 = 1
        · simp [h]
        · have : v >>> k % 2 = 0 := by omega
          simp [this]
      have h6 : ¬ x ≥ x + 1 := by omega
      rw [decide_eq_false h6, decide_eq_true h1, Nat.sub_self, show k + 0 = k from rfl, h3]
      simp only [Bool.true_and, Bool.false_and, Bool.false_or, decide_true]
    · have h4 : ¬ x - P = 0 := by omega
      have h5 : k + 1 + (x - (P + 1)) = k + (x - P) := by omega
      have h6 : x ≥ P + 1 := by omega
      rw [decide_eq_true h1, decide_eq_true h6, decide_eq_false h4, h5]
      simp only [Bool.true_and, Bool.false_and, Bool.or_false]
  · have h6 : ¬ x ≥ P + 1 := by omega
    rw [decide_eq_false h1, decide_eq_false h6]
    rfl
theorem or_bytes (a b : Nat) (ha : a < 256) (hb : b < 256) : bits BinOp.or IntKind.u8 (a : Int) (b : Int) = ((a ||| b : Nat) : Int) := by
  have h : (BitVec.ofInt 8 (a : Int) ||| BitVec.ofInt 8 (b : Int)).toNat = a ||| b := by
    rw [BitVec.toNat_or, BitVec.toNat_ofInt, BitVec.toNat_ofInt]
    congr 1 <;> omega
  have h2 : a ||| b < 2 ^ 8 := Nat.or_lt_two_pow ha hb
  show IntKind.u8.wrap ((BitVec.ofInt 8 (a : Int) ||| BitVec.ofInt 8 (b : Int)).toNat : Int) = _
  rw [h]
  rw [IntKind.wrap_u8]
  omega
end Go.Proofs.YtnbenmpjpogldaaDoor
