/- The walks of the program's Target and the reference's, and of the law PulsesTargets. -/
import Derived.Test.YtcfmipobgljbeaaEnerW
import Derived.Test.YtcfmipobgljbeaaPushN
import Derived.Test.YtcfmipobgljbeaaPastW
import Derived.BigRegion
import Derived.Deep.RegionHeld3
namespace Go.Proofs.Ytcfmipobgljbeaa
set_option linter.unusedVariables false
set_option linter.unusedSimpArgs false
set_option maxRecDepth 100000
open Go.RowKit

def tgB (t r : List Int) : Bool := all16 t && all16 r
def tgErr (t r : List Int) : Int := if t.length = 40 ∧ r.length = 40 then errOf (tgB t r) else 1
def tgT (t r : List Int) (n i : Nat) : Int := t.getD i 0 * lateE r n i
def tgE (t r : List Int) (n : Nat) : Int := sumN (tgT t r n) 40
def tgL (t r : List Int) : List Int := if tgErr t r = 0 then (List.range 40).map (tgE t r) else []
theorem all16_in {xs : List Int} (h : all16 xs = true) : In16 xs := all16_at h
theorem tg_dot (t r : List Int) (n : Nat) : dotL t (lateL r n) 40 = tgE t r n :=
  sumN_congr 40 fun i hi => by unfold dterm lateL tgT; rw [range_get _ hi]
theorem tgT_range {t : List Int} (h : In16 t) (r : List Int) (n k : Nat) : -(1073741824 * (k : Int)) ≤ sumN (tgT t r n) k ∧ sumN (tgT t r n) k ≤ 1073741824 * (k : Int) := by
  induction k with
  | zero => simp [sumN]
  | succ k ih =>
    have hp := prod16 (h k).1 (h k).2 (lateE_range r n k).1 (lateE_range r n k).2
    simp only [sumN]
    unfold tgT at *
    push_cast
    omega
theorem tgT_low (t r : List Int) (n : Nat) : ∀ k, k ≤ n → sumN (tgT t r n) k = 0
  | 0, _ => rfl
  | k + 1, h => by
    simp only [sumN]
    rw [tgT_low t r n k (by omega)]
    unfold tgT lateE
    rw [if_neg (by omega)]
    simp
/-- The answer's row while the sample n is summed up to k. -/
def tgN (t r : List Int) (n k : Nat) : List Int := (List.range 40).map (fun j => if j < n then tgE t r j else if j = n then sumN (tgT t r n) k else 0)
theorem tgN_len (t r : List Int) (n k : Nat) : (tgN t r n k).length = 40 := by simp [tgN]
theorem tgN_at (t r : List Int) {n k : Nat} (hn : n < 40) : (tgN t r n k).getD n 0 = sumN (tgT t r n) k := by
  unfold tgN; rw [range_get _ hn, if_neg (by omega), if_pos rfl]
theorem tgN_set (t r : List Int) {n k : Nat} (hn : n < 40) : (tgN t r n k).set n (sumN (tgT t r n) (k + 1)) = tgN t r n (k + 1) := by
  refine list_ext (by simp [tgN_len]) fun j hj => ?_
  rw [List.length_set, tgN_len] at hj
  by_cases e : n = j
  · subst e; rw [get_set_same _ _ _ (by rw [tgN_len]; exact hj), tgN_at t r hn]
  · rw [get_set_other _ _ e]
    unfold tgN
    rw [range_get _ hj, range_get _ hj]
    by_cases h2 : j < n
    · rw [if_pos h2, if_pos h2]
    · rw [if_neg h2, if_neg h2, if_neg (by omega), if_neg (by omega)]
theorem tgN_next (t r : List Int) (n : Nat) : tgN t r n 40 = tgN t r (n + 1) (n + 1) := by
  refine list_ext (by rw [tgN_len, tgN_len]) fun j hj => ?_
  rw [tgN_len] at hj
  unfold tgN
  rw [range_get _ hj, range_get _ hj]
  by_cases h2 : j < n
  · rw [if_pos h2, if_pos (by omega)]
  · by_cases h3 : j = n
    · subst h3; rw [if_neg (by omega), if_pos rfl, if_pos (by omega)]; rfl
    · rw [if_neg h2, if_neg h3, if_neg (by omega)]
      by_cases h4 : j = n + 1
      · rw [if_pos h4, tgT_low t r (n + 1) (n + 1) (Nat.le_refl _)]
      · rw [if_neg h4]
theorem tgN_zero (t r : List Int) : tgN t r 0 0 = List.replicate 40 0 := by
  refine list_ext (by rw [tgN_len]; simp) fun j hj => ?_
  rw [tgN_len] at hj
  rw [repl_get]
  unfold tgN
  rw [range_get _ hj, if_neg (by omega)]
  split <;> rfl
theorem tgN_end (t r : List Int) : tgN t r 40 40 = (List.range 40).map (tgE t r) := by
  refine list_ext (by rw [tgN_len]; simp) fun j hj => ?_
  rw [tgN_len] at hj
  unfold tgN
  rw [range_get _ hj, range_get _ hj, if_pos hj]

theorem tgErr_len {t r : List Int} (h : ¬ (t.length = 40 ∧ r.length = 40)) : tgErr t r = 1 := by unfold tgErr; rw [if_neg h]
theorem tgErr_all {t r : List Int} (h1 : t.length = 40) (h2 : r.length = 40) : tgErr t r = errOf (tgB t r) := by unfold tgErr; rw [if_pos ⟨h1, h2⟩]
theorem tgL_bad {t r : List Int} (h : tgErr t r ≠ 0) : tgL t r = [] := by unfold tgL; rw [if_neg h]
theorem tgL_good {t r : List Int} (h : tgErr t r = 0) : tgL t r = (List.range 40).map (tgE t r) := by unfold tgL; rw [if_pos h]
theorem tgL_le (t r : List Int) : (tgL t r).length ≤ 40 := by unfold tgL; split <;> simp


theorem rs_block' {w : World} {g : Nat} {t : TypeId} {xs : List Int} (h : IB w g t xs) : Rs w w.heap.size (some ⟨g, 0, none⟩) xs :=
  ⟨by simp [ints], fun _ => ⟨_, rfl, Blk.lt h, fun j u hu => by
    have hj : j < xs.length := by
      have := (List.getElem?_eq_some_iff.mp hu).1
      rwa [ints_len] at this
    rw [ints_get xs j hj] at hu
    rw [add_zero', ← hu]
    exact IB.cell h j hj⟩⟩
def Z40 : List Int := List.replicate 40 0
theorem z40_len : Z40.length = 40 := by simp [Z40]
theorem z40_16 : all16 Z40 = true := by decide
theorem z40_w : W64 Z40 := fun x hx => by
  have := (List.mem_replicate.1 hx).2
  omega
theorem tg_z40 : (tgL Z40 Z40).length = 40 := by
  rw [tgL_good (by rw [tgErr_all z40_len z40_len]; unfold tgB; rw [z40_16]; rfl)]
  simp

end Go.Proofs.Ytcfmipobgljbeaa
