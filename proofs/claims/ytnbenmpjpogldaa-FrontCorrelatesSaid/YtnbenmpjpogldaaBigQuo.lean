/- The walks of QuoRem, DivMod, Div (short numbers). -/
import Derived.Test.YtnbenmpjpogldaaBigDiv1
namespace Go.Proofs.Ytnbenmpjpogldaa
set_option linter.unusedVariables false
set_option linter.unusedSimpArgs false
set_option maxRecDepth 100000
open Go.RowKit

/-- What QuoRem and DivMod answer: q in block b, r in block m. -/
def GivesTwo (w : World) (b m : Nat) (q r : Int) (e : Ending) (w' : World) : Prop :=
  e = .returned (.tuple #[.pointer (some ⟨b, 0, none⟩), .pointer (some ⟨m, 0, none⟩)]) ∧ IntAt w' b q ∧ IntAt w' m r ∧ ∃ w1, w.grownBy w1 (some b) ∧ w1.grownBy w' (some m)

theorem sgn_tdiv (x y : Int) : sgn (!(decide (x < 0) == decide (y < 0))) (x.natAbs / y.natAbs) = x.tdiv y := by
  unfold sgn
  rcases Int.natAbs_eq x with hx | hx <;> rcases Int.natAbs_eq y with hy | hy
  all_goals
    generalize x.natAbs = a at *
    generalize y.natAbs = b at *
    subst hx hy
    try simp only [Int.neg_tdiv, Int.tdiv_neg, Int.neg_neg]
    have e : ((a : Int).tdiv b) = ((a / b : Nat) : Int) := by rw [Int.tdiv_eq_ediv_of_nonneg (by omega)]; simp
    rw [e]
    by_cases ha : a = 0
    · subst ha; simp
    · by_cases hb : b = 0
      · subst hb; simp
      · simp <;> (try omega)
        try (split <;> omega)

theorem sgn_tmod (x y : Int) : sgn (decide (x < 0)) (x.natAbs % y.natAbs) = x.tmod y := by
  unfold sgn
  rcases Int.natAbs_eq x with hx | hx <;> rcases Int.natAbs_eq y with hy | hy
  all_goals
    generalize x.natAbs = a at *
    generalize y.natAbs = b at *
    subst hx hy
    try simp only [Int.neg_tmod, Int.tmod_neg, Int.neg_neg]
    have e : ((a : Int).tmod b) = ((a % b : Nat) : Int) := by rw [Int.tmod_eq_emod_of_nonneg (by omega)]; simp
    rw [e]
    by_cases ha : a = 0
    · subst ha; simp
    · simp <;> (try omega)
      try (split <;> omega)

theorem grownBy_new {w w' : World} {m : Nat} (h : w.grownBy w' (some m)) (hm : w.heap.size ≤ m) (row : Option Nat) : w.grownBy w' row :=
  ⟨h.os, h.tape, h.output, h.size, fun k hk _ => h.block k hk (by simp; omega)⟩

theorem tdiv_of_nonneg_rem {x y : Int} (hy : 0 < y) (h : ¬ x.tmod y < 0) : x.tdiv y = x / y := by
  have h1 := Int.mul_tdiv_add_tmod x y
  have h2 : x.tmod y < y := Int.tmod_lt_of_pos x hy
  symm
  rw [Int.ediv_eq_iff_of_pos hy]
  generalize x.tdiv y = q at *
  generalize x.tmod y = r at *
  have e1 : q * y = y * q := Int.mul_comm _ _
  have e2 : (q + 1) * y = y * q + y := by rw [Int.add_mul, Int.one_mul, Int.mul_comm]
  first
    | (rw [e1, e2]; omega)
    | (constructor <;> (first | rw [e1] | rw [e2] | skip) <;> omega)

theorem tdiv_of_neg_rem {x y : Int} (hy : 0 < y) (h : x.tmod y < 0) : x.tdiv y - 1 = x / y := by
  have h1 := Int.mul_tdiv_add_tmod x y
  have h2 : -y < x.tmod y := Int.lt_tmod_of_pos x hy
  symm
  rw [Int.ediv_eq_iff_of_pos hy]
  generalize x.tdiv y = q at *
  generalize x.tmod y = r at *
  have e1 : (q - 1) * y = y * q - y := by rw [Int.sub_mul, Int.one_mul, Int.mul_comm]
  have e2 : (q - 1 + 1) * y = y * q := by rw [Int.sub_add_cancel, Int.mul_comm]
  first
    | (rw [e1, e2]; omega)
    | (constructor <;> (first | rw [e1] | rw [e2] | skip) <;> omega)
end Go.Proofs.Ytnbenmpjpogldaa
