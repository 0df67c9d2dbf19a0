/- Plain law: the bits put one field after the other are the bits of one long number. -/
import Derived.Test.YtnbenmpjpogldaaDoorPkB
import Derived.Test.YtnbenmpjpogldaaDoorPkG
import Derived.Test.YtnbenmpjpogldaaDoorPkP
import Derived.Test.YtnbenmpjpogldaaDoorPkS
import Derived.Test.YtnbenmpjpogldaaDoorPkC
namespace Go.Proofs.YtnbenmpjpogldaaDoor
set_option linter.unusedVariables false
set_option linter.unusedSimpArgs false
set_option maxRecDepth 100000
open Go.RowKit

/-- The bits of the field i. -/
def pkN (i : Nat) : Nat := (pkB.getD i 0).toNat
/-- How many bits the first n fields have. -/
def pkA : Nat → Nat
  | 0 => 0
  | n + 1 => pkA n + pkN n
def pkX (ps : List Int) : Nat → Nat
  | 0 => 0
  | n + 1 => pkX ps n * 2 ^ pkN n + (ps.getD n 0).toNat
def pkV (ps : List Int) : Nat → Nat
  | 0 => 0
  | n + 1 => pkV ps n ||| (ps.getD n 0).toNat <<< (112 - pkA n - pkN n)
theorem pkA_end : pkA 25 = 106 := by decide
theorem pkA_le {n : Nat} (h : n ≤ 25) : pkA n ≤ 106 := by
  have : ∀ m, m ≤ 25 → pkA m ≤ 106 := by decide
  exact this n h
theorem pkN_le {n : Nat} (h : n < 25) : pkN n ≤ 6 ∧ pkB.getD n 0 = (pkN n : Nat) ∧ pkT.getD n 0 < 2 ^ pkN n := by
  have : ∀ m, m < 25 → pkN m ≤ 6 ∧ pkB.getD m 0 = (pkN m : Nat) ∧ pkT.getD m 0 < 2 ^ pkN m := by decide
  exact this n h
theorem pk_lt {ps : List Int} (h : pkTo ps 25 = true) {n : Nat} (hn : n < 25) : (ps.getD n 0).toNat < 2 ^ pkN n ∧ ps.getD n 0 = ((ps.getD n 0).toNat : Nat) := by
  have h1 := pkTo_at h hn
  have h2 := (pkN_le hn).2.2
  unfold pkOk at h1
  generalize ps.getD n 0 = x at *
  generalize pkT.getD n 0 = t at *
  have e : ((2 ^ pkN n : Nat) : Int) = 2 ^ pkN n := by simp
  rw [← e] at h2
  omega
theorem shl_or (a b n : Nat) : (a ||| b) <<< n = a <<< n ||| b <<< n := by
  apply Nat.eq_of_testBit_eq
  intro i
  simp only [Nat.testBit_or, Nat.testBit_shiftLeft]
  cases decide (i ≥ n) <;> simp
theorem pkV_eq {ps : List Int} (h : pkTo ps 25 = true) : ∀ n, n ≤ 25 → pkV ps n = pkX ps n <<< (112 - pkA n)
  | 0, _ => by simp [pkV, pkX]
  | n + 1, hn => by
    have ih := pkV_eq h n (by omega)
    have hp := (pk_lt h (n := n) (by omega)).1
    have ha := pkA_le (n := n + 1) hn
    simp only [pkA] at ha
    simp only [pkV, pkX, pkA]
    rw [ih, ← Nat.shiftLeft_eq, Nat.shiftLeft_add_eq_or_of_lt hp, shl_or, ← Nat.shiftLeft_add, show pkN n + (112 - (pkA n + pkN n)) = 112 - pkA n by omega, show 112 - pkA n - pkN n = 112 - (pkA n + pkN n) by omega]
theorem pkX_lt {ps : List Int} (h : pkTo ps 25 = true) : ∀ n, n ≤ 25 → pkX ps n < 2 ^ pkA n
  | 0, _ => by simp [pkX, pkA]
  | n + 1, hn => by
    have ih := pkX_lt h n (by omega)
    have hp := (pk_lt h (n := n) (by omega)).1
    simp only [pkX, pkA]
    rw [Nat.pow_add]
    have h1 : (pkX ps n + 1) * 2 ^ pkN n ≤ 2 ^ pkA n * 2 ^ pkN n := Nat.mul_le_mul_right _ ih
    rw [Nat.add_mul, Nat.one_mul] at h1
    omega
/-- The parity as a bit. -/
def pkQ (ps : List Int) : Nat := (parB (ps.getD 0 0) + parB (ps.getD 9 0) + parB (ps.getD 17 0)) % 2
theorem pkQ_eq (ps : List Int) : pkPar ps = (pkQ ps : Nat) := rfl
/-- The 112 bits. -/
def pkW (ps : List Int) : Nat := pkV ps 25 ||| pkQ ps <<< 5
theorem pkW_eq {ps : List Int} (h : pkTo ps 25 = true) : pkW ps = (pkX ps 25 * 2 + pkQ ps) * 2 ^ 5 := by
  have hq : pkQ ps < 2 ^ 1 := Nat.mod_lt _ (by decide)
  have e : pkX ps 25 * 2 + pkQ ps = pkX ps 25 <<< 1 ||| pkQ ps := by rw [← Nat.shiftLeft_add_eq_or_of_lt hq, Nat.shiftLeft_eq]
  unfold pkW
  rw [pkV_eq h 25 (by omega), pkA_end, e, ← Nat.shiftLeft_eq, shl_or, ← Nat.shiftLeft_add]
theorem pkW_lt {ps : List Int} (h : pkTo ps 25 = true) : pkW ps < 2 ^ 112 := by
  have h1 := pkX_lt h 25 (by omega)
  rw [pkA_end] at h1
  have hq : pkQ ps < 2 := Nat.mod_lt _ (by decide)
  rw [pkW_eq h]
  omega
theorem digL_byts (V : Nat) : Byts (digL V) := fun i => by
  rw [List.getD_eq_getElem?_getD]
  by_cases h : i < 14
  · rw [digL_get V h]
    have := digE_lt V (8 * (13 - i))
    simp only [Option.getD_some]
    omega
  · rw [List.getElem?_eq_none (by rw [digL_len]; omega)]
    simp
/-- A packet's bytes. -/
def pkBytes (ps : List Int) : List Int := if pkTo ps 25 = true then digL (pkW ps) ++ [chk (digL (pkW ps))] else []
def pkErr (ps : List Int) : Int := if pkTo ps 25 = true then 0 else 2
end Go.Proofs.YtnbenmpjpogldaaDoor
