/- Plain facts on the excitation a lag ago. No program in sight. -/
import Derived.Test.YtnbenmpjpogldaaLpcM
namespace Go.Proofs.Ytnbenmpjpogldaa
set_option linter.unusedVariables false
set_option linter.unusedSimpArgs false
set_option maxRecDepth 100000

def pastE (h : List Int) (lag : Nat) (i : Nat) : Int := h.getD (80 - lag + i % lag) 0
def pastB (lag : Int) : Bool := decide (20 ≤ lag ∧ lag ≤ 79)
def pastL (h : List Int) (lag : Int) : List Int := if pastB lag then (List.range 40).map (pastE h lag.toNat) else []
theorem pastB_yes {lag : Int} (h1 : 20 ≤ lag) (h2 : lag ≤ 79) : pastB lag = true := by unfold pastB; simp; omega
theorem pastB_no {lag : Int} (h : lag < 20 ∨ 79 < lag) : pastB lag = false := by unfold pastB; simp; omega
theorem pastL_len {h : List Int} {lag : Int} (hb : pastB lag = true) : (pastL h lag).length = 40 := by unfold pastL; rw [hb]; simp
theorem range_get {n j : Nat} (f : Nat → Int) (h : j < n) : ((List.range n).map f).getD j 0 = f j := by
  rw [List.getD_eq_getElem?_getD, List.getElem?_map, List.getElem?_range h]
  rfl
theorem pastL_get {h : List Int} {lag : Int} (hb : pastB lag = true) (j : Nat) (hj : j < 40) : (pastL h lag).getD j 0 = pastE h lag.toNat j := by
  unfold pastL; rw [if_pos hb, range_get _ hj]
theorem pastE_low {h : List Int} {lag i : Nat} (hi : i < lag) : pastE h lag i = h.getD (80 - lag + i) 0 := by
  unfold pastE; rw [Nat.mod_eq_of_lt hi]
theorem pastE_high {h : List Int} {lag i : Nat} (hi : lag ≤ i) : pastE h lag i = pastE h lag (i - lag) := by
  unfold pastE; rw [Nat.mod_eq_sub_mod hi]
theorem snoc_range {n : Nat} (f : Nat → Int) : (List.range n).map f ++ [f n] = (List.range (n + 1)).map f := by
  rw [List.range_succ, List.map_append]; rfl
end Go.Proofs.Ytnbenmpjpogldaa
