/- The walk of the reference's Steady. -/
import Derived.Test.YtcfmipobgljbeaaMixW
namespace Go.Proofs.Ytcfmipobgljbeaa
set_option linter.unusedVariables false
set_option linter.unusedSimpArgs false
set_option maxRecDepth 100000
open Go.RowKit

/-- A function that answers a Bool and makes new memory at most. -/
def AnsB (w : World) (b : Bool) (e : Ending) (w' : World) : Prop := e = .returned (.bool b) ∧ Below w.heap.size w w'

set_option maxHeartbeats 2000000 in
theorem steady_any (a : List Int) (w : World) (ha : a.length = 8) : Calls Try.prog 93 #[.agg (agi a)] w (AnsB w (steadyB a)) := by
  have hI := hid (IB.new w 42 a)
  have HA := hid ha
  have hix := fun (k : Nat) (hk : k < 8) (w : World) => run_index_agi Try.underlying42 a ha k hk w
  have HIX := hid hix
  clear ha hix
  go_enter Try.func93, Try.ntmps93
  go_wp2_with (refine wpList_loadI rfl 42 (.tmp 1) rfl _ 42 a 8 _ rfl hI.out Try.underlying42 rfl size8 HA.out ?_)
  go_loop [6] (fun iv => ∃ k : Nat, k ≤ 8 ∧ iv = .int .i64 k ∧ Hid (allTo okR a k)) (fun iv => 8 - (intOf iv).toNat)
  case atStart => exact ⟨0, by omega, rfl, hid allTo.zero⟩
  case round =>
    obtain ⟨k, hk, rfl, HY⟩ := hrel
    by_cases hlt : k < 8
    · have hix := HIX.out k hlt
      obtain ⟨x, hx⟩ : ∃ x, x = a.getD k 0 := ⟨_, rfl⟩
      rw [← hx] at hix
      have HX := hid hx
      clear hx
      by_cases b1 : x ≤ -32768
      · have HF := hid (show steadyB a = false from all_no (i := k) (by rw [HA.out]; exact hlt) (okR_no (by rw [← HX.out]; exact .inl b1)))
        go_wp2
        go_ret
        exact ⟨by rw [HF.out]; rfl, (Below.refl _ _).alloc (Nat.le_refl _) _⟩
      by_cases b2 : 32768 ≤ x
      · have HF := hid (show steadyB a = false from all_no (i := k) (by rw [HA.out]; exact hlt) (okR_no (by rw [← HX.out]; exact .inr b2)))
        go_wp2
        go_ret
        exact ⟨by rw [HF.out]; rfl, (Below.refl _ _).alloc (Nat.le_refl _) _⟩
      have HN := hid (HY.out.succ (by rw [← HX.out]; exact okR_yes (by omega) (by omega)))
      go_wp2
      go_round
      case rel => exact ⟨k + 1, by omega, by go_num, HN⟩
      case measure => simp [intOf] <;> omega
    · obtain rfl : k = 8 := by omega
      have HF := hid (show steadyB a = true from HY.out.all (by rw [HA.out]; exact Nat.le_refl _))
      go_wp2
      go_ret
      exact ⟨by rw [HF.out]; rfl, (Below.refl _ _).alloc (Nat.le_refl _) _⟩
end Go.Proofs.Ytcfmipobgljbeaa
