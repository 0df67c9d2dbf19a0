/- Plain facts on the lag that goes best. -/
import Derived.Test.YtcfmipobgljbeaaOpenW
import Derived.Test.YtcfmipobgljbeaaFoldW
import Derived.Test.YtcfmipobgljbeaaPastR
namespace Go.Proofs.Ytcfmipobgljbeaa
set_option linter.unusedVariables false
set_option linter.unusedSimpArgs false
set_option maxRecDepth 100000
open Go.RowKit

theorem w64_of_in16 {xs : List Int} (h : In16 xs) : W64 xs := fun x hx => by
  obtain ⟨i, hi⟩ := List.getElem?_of_mem hx
  have := h i
  rw [List.getD_eq_getElem?_getD, hi] at this
  simp at this
  omega
theorem all16_of {xs : List Int} (h : ∀ i, i < xs.length → -32768 ≤ xs.getD i 0 ∧ xs.getD i 0 ≤ 32767) : all16 xs = true := by
  unfold all16
  rw [List.all_eq_true]
  intro x hx
  obtain ⟨i, hi⟩ := List.getElem?_of_mem hx
  have hl := (List.getElem?_eq_some_iff.1 hi).1
  have := h i hl
  rw [List.getD_eq_getElem?_getD, hi] at this
  simp at this
  exact ok16_yes this.1 this.2
theorem pastL_in {h : List Int} (hh : In16 h) (lag : Int) : all16 (pastL h lag) = true := by
  unfold pastL
  split
  · refine all16_of fun i hi => ?_
    rw [List.length_map, List.length_range] at hi
    rw [range_get _ hi]
    exact hh _
  · rfl
theorem foL_in (r l : List Int) : all16 (foL r l) = true := by
  unfold foL
  split
  · refine all16_of fun i hi => ?_
    rw [List.length_map, List.length_range] at hi
    rw [range_get _ hi]
    exact s16_range _
  · rfl
/-- Is the ring one that folds forty samples? -/
def pkR (ring : List Int) : Bool := decide (ring.length = 40) && all16 ring
theorem pk_fo {ring v : List Int} (hv : v.length = 40) (ha : all16 v = true) : (foL ring v).length = if pkR ring then 40 else 0 := by
  unfold pkR
  by_cases h : ring.length = 40
  · rw [decide_eq_true h, Bool.true_and]
    have he : foErr ring v = errOf (all16 ring) := by
      rw [foErr_all (by omega) (by omega)]
      unfold foB
      rw [ha, Bool.and_true]
    cases hr : all16 ring with
    | true => rw [hr] at he; rw [foL_good he, List.length_map, List.length_range, hv]; rfl
    | false => rw [hr] at he; rw [foL_bad (by rw [he]; decide)]; rfl
  · rw [decide_eq_false h, Bool.false_and]
    rw [foL_bad (by rw [foErr_len (by omega)]; decide)]
    rfl
def pkV (ring h : List Int) (n : Nat) : List Int := foL ring (pastL h (20 + (n : Int)))
def pkC (ring h t : List Int) (n : Nat) : Int := dotL t (pkV ring h n) 40
def pkE (ring h : List Int) (n : Nat) : Int := dotL (pkV ring h n) (pkV ring h n) 40
/-- Behind n lags: the best one, its sums. -/
def pkS (ring h t : List Int) : Nat → Int × Int × Int
  | 0 => (20, 0, 0)
  | n + 1 => if decide (0 < pkC ring h t n) && betterB (pkC ring h t n) (pkE ring h n) (pkS ring h t n).2.1 (pkS ring h t n).2.2 then (20 + (n : Int), pkC ring h t n, pkE ring h n) else pkS ring h t n
theorem pkV_in (ring h : List Int) (n : Nat) : In16 (pkV ring h n) := all16_at (foL_in _ _)
theorem pkS_be (ring h t : List Int) (n : Nat) : 0 ≤ (pkS ring h t n).2.2 := by
  induction n with
  | zero => simp [pkS]
  | succ n ih =>
    unfold pkS
    split
    · exact sq_nn _ _
    · exact ih
theorem pkS_rng (ring h : List Int) {t : List Int} (ht : In16 t) (n : Nat) : (-42949672960 ≤ (pkS ring h t n).2.1 ∧ (pkS ring h t n).2.1 ≤ 42949672960) ∧ -42949672960 ≤ (pkS ring h t n).2.2 ∧ (pkS ring h t n).2.2 ≤ 42949672960 := by
  induction n with
  | zero => simp [pkS]
  | succ n ih =>
    have r1 := dotL_range ht (pkV_in ring h n) 40
    have r2 := dotL_range (pkV_in ring h n) (pkV_in ring h n) 40
    unfold pkS
    split
    · simp only
      unfold pkC pkE
      omega
    · exact ih
theorem pkS_lag (ring h t : List Int) (n : Nat) (hn : n ≤ 60) : 20 ≤ (pkS ring h t n).1 ∧ (pkS ring h t n).1 ≤ 79 := by
  induction n with
  | zero => simp [pkS]
  | succ n ih =>
    unfold pkS
    split
    · simp only
      omega
    · exact ih (by omega)
def pkErr (ring h t : List Int) : Int := if t.length = 40 then (if all16 t && all16 h then (if pkR ring then 0 else 1) else 2) else 1
def pkA (ring h t : List Int) : Int := if pkErr ring h t = 0 then (pkS ring h t 60).1 else 0
def pkB (ring h t : List Int) : Int := if pkErr ring h t = 0 then (pkS ring h t 60).2.1 else 0
def pkD (ring h t : List Int) : Int := if pkErr ring h t = 0 then (pkS ring h t 60).2.2 else 0
def PkAns (ring h t : List Int) (w : World) (e : Ending) (w' : World) : Prop := e = .returned (.tuple #[.int .i64 (pkA ring h t), .int .i64 (pkB ring h t), .int .i64 (pkD ring h t), .int .i64 (pkErr ring h t)]) ∧ Below w.heap.size w w'
theorem PkAns.bad {ring h t : List Int} {w w' : World} {er : Int} (he : pkErr ring h t = er) (h0 : er ≠ 0) (hB : Below w.heap.size w w') : PkAns ring h t w (.returned (.tuple #[.int .i64 0, .int .i64 0, .int .i64 0, .int .i64 er])) w' :=
  ⟨by unfold pkA pkB pkD; rw [he, if_neg h0, if_neg h0, if_neg h0], hB⟩
end Go.Proofs.Ytcfmipobgljbeaa
