/- The walks of the pitch gains: the table's number, or the error. -/
import Derived.Test.YtnielfleokbloaaDoorTabs
import Derived.Test.YtnielfleokbloaaDoorBigRd
import Derived.Test.YtnielfleokbloaaDoorLpcM
namespace Go.Proofs.YtnielfleokbloaaDoor
set_option linter.unusedVariables false
set_option linter.unusedSimpArgs false
set_option maxRecDepth 100000
open Go.RowKit

def gainB (n : Int) : Bool := decide (0 ≤ n ∧ n ≤ 7)
def gainV (n : Int) : Int := if gainB n then gainsL.getD n.toNat 0 else 0
theorem gainB_yes {n : Int} (h1 : 0 ≤ n) (h2 : n ≤ 7) : gainB n = true := by unfold gainB; simp; omega
theorem gainB_no {n : Int} (h : n < 0 ∨ 7 < n) : gainB n = false := by unfold gainB; simp; omega

set_option maxHeartbeats 1000000 in
theorem pitchGain_any (n : Int) (w : World) (T : TabA w 2 gainsL) :
    Calls Tryd.prog 18 #[.int .i64 n] w fun e w' => e = .returned (.tuple #[.int .i64 (gainV n), .int .i64 (errOf (gainB n))]) ∧ w = w' := by
  by_cases h1 : n < 0 ∨ 7 < n
  · rw [show gainV n = 0 from by unfold gainV; rw [gainB_no h1]; rfl, gainB_no h1]
    rcases h1 with h1 | h1
    · go_enter Tryd.func18, Tryd.ntmps18
      go_wp2
      go_ret2
      exact ⟨rfl, rfl⟩
    · have h2 : ¬ n < 0 := by omega
      have h3 : 8 ≤ n := by omega
      go_enter Tryd.func18, Tryd.ntmps18
      go_wp2
      go_ret2
      exact ⟨rfl, rfl⟩
  · obtain ⟨k, rfl⟩ := Int.eq_ofNat_of_zero_le (show 0 ≤ n by omega)
    have hk : k < 8 := by omega
    have hc := T.cell k hk
    rw [show gainV (k : Nat) = gainsL.getD k 0 from by unfold gainV; rw [gainB_yes (by omega) (by omega)]; rfl, gainB_yes (by omega) (by omega)]
    generalize gainsL.getD k 0 = v at *
    clear h1 T
    go_enter Tryd.func18, Tryd.ntmps18
    go_wp2
    go_ret2
    exact ⟨rfl, rfl⟩

set_option maxHeartbeats 1000000 in
theorem refGain_any (n : Int) (w : World) (T : TabS w 3 gainsL) :
    Calls Tryd.prog 19 #[.int .i64 n] w fun e w' => e = .returned (.tuple #[.int .i64 (gainV n), .int .i64 (errOf (gainB n))]) ∧ w = w' := by
  by_cases h1 : n < 0 ∨ 7 < n
  · rw [show gainV n = 0 from by unfold gainV; rw [gainB_no h1]; rfl, gainB_no h1]
    rcases h1 with h1 | h1
    · go_enter Tryd.func19, Tryd.ntmps19
      go_wp2
      go_ret2
      exact ⟨rfl, rfl⟩
    · have h2 : ¬ n < 0 := by omega
      go_enter Tryd.func19, Tryd.ntmps19
      go_wp2
      go_ret2
      exact ⟨rfl, rfl⟩
  · obtain ⟨k, rfl⟩ := Int.eq_ofNat_of_zero_le (show 0 ≤ n by omega)
    have hk : k < 8 := by omega
    obtain ⟨A, c, h0, hlen, hc⟩ := T.form
    obtain ⟨ad, rfl, hc⟩ := hc k hk
    have h0 : w.cell? ⟨3, 0, none⟩ = some (.slice (some ad) 8 c) := h0
    rw [show gainV (k : Nat) = gainsL.getD k 0 from by unfold gainV; rw [gainB_yes (by omega) (by omega)]; rfl, gainB_yes (by omega) (by omega)]
    generalize gainsL.getD k 0 = v at *
    clear h1 T hlen
    go_enter Tryd.func19, Tryd.ntmps19
    go_wp2
    go_ret2
    exact ⟨rfl, rfl⟩

set_option maxHeartbeats 1000000 in
theorem walkPitchGains (w : World) (T0 : TabA w 2 gainsL) (T1 : TabS w 3 gainsL) (n : Int) (_ : -9223372036854775808 ≤ n ∧ n ≤ 9223372036854775807) :
    Calls Tryd.prog 6 #[.int .i64 n] w fun e w' => e = .returned (.bool true) ∧ Below w.heap.size w w' := by
  have K1 := hid (pitchGain_any n w T0)
  have K2 := hid (refGain_any n w T1)
  have K3 := hid (pitchGain_any 6 w T0)
  have h6 : gainV 6 = 16384 := by decide
  rw [h6] at K3
  clear h6 T0 T1
  generalize gainV n = v at *
  generalize errOf (gainB n) = er at *
  generalize errOf (gainB 6) = er6 at *
  go_enter Tryd.func6, Tryd.ntmps6
  go_wp2_with (first
    | (go_at_call 18; (with_reducible refine K1.out.mono ?_); rintro e w' ⟨rfl, rfl⟩)
    | (go_at_call 19; (with_reducible refine K2.out.mono ?_); rintro e w' ⟨rfl, rfl⟩)
    | (go_at_call 18; (with_reducible refine K3.out.mono ?_); rintro e w' ⟨rfl, rfl⟩))
  go_ret
  exact ⟨rfl, Below.refl _ _⟩
end Go.Proofs.YtnielfleokbloaaDoor
