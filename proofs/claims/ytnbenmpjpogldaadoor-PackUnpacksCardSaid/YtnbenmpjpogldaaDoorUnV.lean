/- Plain law: the bits of a long number taken one field after the other. -/
import Derived.Test.YtnbenmpjpogldaaDoorPkV
namespace Go.Proofs.YtnbenmpjpogldaaDoor
set_option linter.unusedVariables false
set_option linter.unusedSimpArgs false
set_option maxRecDepth 100000
open Go.RowKit

/-- The number of the first k bytes. -/
def nb (xs : List Int) : Nat → Nat
  | 0 => 0
  | k + 1 => nb xs k * 256 + (xs.getD k 0).toNat
theorem nb_lt {xs : List Int} (hx : Byts xs) (k : Nat) : nb xs k < 2 ^ (8 * k) := by
  induction k with
  | zero => simp [nb]
  | succ k ih =>
    have h := hx k
    simp only [nb]
    rw [show 8 * (k + 1) = 8 * k + 8 by omega, Nat.pow_add]
    have h2 : (nb xs k + 1) * 256 ≤ 2 ^ (8 * k) * 256 := Nat.mul_le_mul_right _ ih
    have h3 : (2 : Nat) ^ 8 = 256 := rfl
    rw [h3]
    omega
theorem nb_div {xs : List Int} (hx : Byts xs) (k d : Nat) : nb xs (k + d) / 2 ^ (8 * d) = nb xs k := by
  induction d with
  | zero => simp
  | succ d ih =>
    have h := hx (k + d)
    rw [show 8 * (d + 1) = 8 + 8 * d by omega, Nat.pow_add, ← Nat.div_div_eq_div_mul, show k + (d + 1) = (k + d) + 1 by omega]
    simp only [nb]
    rw [show (nb xs (k + d) * 256 + (xs.getD (k + d) 0).toNat) / 2 ^ 8 = nb xs (k + d) by
      have h3 : (2 : Nat) ^ 8 = 256 := rfl
      rw [h3]
      omega, ih]
theorem nb_dig {xs : List Int} (hx : Byts xs) {j : Nat} (hj : j < 14) : digE (nb xs 14) (8 * (13 - j)) = (xs.getD j 0).toNat := by
  have h := nb_div hx (j + 1) (13 - j)
  rw [show j + 1 + (13 - j) = 14 by omega] at h
  unfold digE
  rw [h]
  have h2 := hx j
  simp only [nb]
  omega
/-- n bits from place a on. -/
def gt (V a n : Nat) : Nat := V >>> (112 - a - n) % 2 ^ n
theorem gt_lt (V a n : Nat) : gt V a n < 2 ^ n := Nat.mod_lt _ (Nat.two_pow_pos n)
theorem gt_bit {V e q : Nat} (hq : q < 8) : digE V e / 2 ^ q % 2 = V >>> (e + q) % 2 := by
  apply Nat.eq_of_testBit_eq
  intro i
  rw [show (2 : Nat) = 2 ^ 1 from rfl, Nat.testBit_mod_two_pow, Nat.testBit_mod_two_pow, Nat.testBit_div_two_pow, digE_bit, Nat.testBit_shiftRight]
  by_cases h : i < 1
  · have e1 : i = 0 := by omega
    subst e1
    simp [hq]
  · simp [h]
theorem gt_step (y m : Nat) : (y / 2 % 2 ^ m) * 2 + y % 2 = y % 2 ^ (m + 1) := by
  rw [Nat.pow_succ, Nat.mul_comm (2 ^ m) 2, Nat.mod_mul]
  omega
/-- The field i. -/
def uF (V i : Nat) : Nat := gt V (pkA i) (pkN i)
/-- The numbers, the first n of them taken. -/
def uL (V n : Nat) : List Int := (List.range 25).map (fun i => if i < n then (uF V i : Int) else 0)
theorem uL_len (V n : Nat) : (uL V n).length = 25 := by simp [uL]
theorem uL_zero (V : Nat) : uL V 0 = List.replicate 25 0 := by
  refine List.ext_getElem? fun j => ?_
  by_cases hj : j < 25
  · rw [List.getElem?_replicate, if_pos hj]
    unfold uL
    simp [hj]
  · rw [List.getElem?_eq_none (by rw [uL_len]; omega), List.getElem?_eq_none (by rw [List.length_replicate]; omega)]
theorem uL_set (V : Nat) {i : Nat} (hi : i < 25) : (uL V i).set i (uF V i : Nat) = uL V (i + 1) := by
  refine List.ext_getElem? fun j => ?_
  by_cases hj : j < 25
  · rw [List.getElem?_set, uL_len]
    unfold uL
    simp only [List.getElem?_map, List.getElem?_range hj, Option.map_some]
    by_cases e : i = j
    · subst e
      rw [if_pos rfl, if_pos hi, if_pos (by omega)]
    · rw [if_neg e]
      congr 1
      by_cases h : j < i
      · rw [if_pos h, if_pos (by omega)]
      · rw [if_neg h, if_neg (by omega)]
  · rw [List.getElem?_eq_none (by rw [List.length_set, uL_len]; omega), List.getElem?_eq_none (by rw [uL_len]; omega)]
theorem uL_64 (V n : Nat) : W64 (uL V n) := by
  intro x hx
  unfold uL at hx
  obtain ⟨i, hi, rfl⟩ := List.mem_map.1 hx
  have hi25 : i < 25 := by simpa using hi
  have h1 := gt_lt V (pkA i) (pkN i)
  have h2 := (pkN_le hi25).1
  have h3 : 2 ^ pkN i ≤ 2 ^ 6 := Nat.pow_le_pow_right (by decide) h2
  unfold uF
  split <;> omega
/-- What Unpack answers. -/
def unV (xs : List Int) : Nat := nb xs 14
def unE (xs : List Int) : Int :=
  if xs.length ≠ 15 then 1 else if chk (xs.take 14) ≠ xs.getD 14 0 then 5 else if unV xs % 32 ≠ 0 then 3 else if pkTo (uL (unV xs) 25) 25 = false then 2 else if pkPar (uL (unV xs) 25) ≠ (unV xs / 32 % 2 : Nat) then 3 else 0
def unL (xs : List Int) : List Int := if unE xs = 0 then uL (unV xs) 25 else List.replicate 25 0
theorem unL_len (xs : List Int) : (unL xs).length = 25 := by
  unfold unL
  split
  · exact uL_len _ _
  · rfl
theorem gt_par (V : Nat) : gt V 106 1 = V / 32 % 2 := by
  unfold gt
  rw [Nat.shiftRight_eq_div_pow]
end Go.Proofs.YtnbenmpjpogldaaDoor
