/- The walk of Cmp. -/
import Derived.Test.YtcfmipobgljbeaaBigInt3
namespace Go.Proofs.Ytcfmipobgljbeaa
set_option linter.unusedVariables false
set_option linter.unusedSimpArgs false
set_option maxRecDepth 100000
open Go.RowKit

theorem below_drN (w : World) (k : Nat) : Below w.heap.size w (w.drewN k) := ⟨rfl, rfl, rfl, Nat.le_refl _, fun _ _ => rfl⟩

theorem quiet_more {f : FuncId} {args : Array Value} {w : World} {a n : Nat} {v : Value}
    (h : Calls Try.prog f args (w.drewN (a + n)) fun e w' => e = .returned v ∧ ∃ m, w' = (w.drewN (a + n)).drewN m) :
    Calls Try.prog f args (w.drewN (a + n)) fun e w'' => e = .returned v ∧ ∃ m, w'' = w.drewN (a + m) :=
  h.mono fun _ _ ⟨he, m, hm⟩ => ⟨he, n + m, by rw [hm, World.drewN_drewN, Nat.add_assoc]⟩

def cmpZ (x y : Int) : Int := if x < y then -1 else if y < x then 1 else 0

theorem cmpZ_pos {x y : Int} (hx : ¬ x < 0) (hy : ¬ y < 0) : cmpZ x y = cmpN x.natAbs y.natAbs := by
  unfold cmpZ cmpN
  repeat' split
  all_goals omega
theorem cmpZ_neg {x y : Int} (hx : x < 0) (hy : y < 0) : cmpZ x y = -cmpN x.natAbs y.natAbs := by
  unfold cmpZ cmpN
  repeat' split
  all_goals omega

theorem cmpN_range (a b : Nat) : -1 ≤ cmpN a b ∧ cmpN a b ≤ 1 := by
  unfold cmpN
  repeat' split
  all_goals omega

set_option maxHeartbeats 2000000 in
theorem Cmp_any (w : World) (c d : Nat) (x y : Int) (hc : IntAt w c x) (hd : IntAt w d y) (sx : Sm x.natAbs) (sy : Sm y.natAbs) :
    Calls Try.prog 84 #[.pointer (some ⟨c, 0, none⟩), .pointer (some ⟨d, 0, none⟩)] w fun e w' => e = .returned (.int .i64 (cmpZ x y)) ∧ ∃ n, w' = w.drewN n := by
  obtain ⟨vx, h0, h1, hvx⟩ := hc.cells
  obtain ⟨vy, k0, k1, hvy⟩ := hd.cells
  have K0 := hid (fun n => cmp_nm (w.drewN n) vx vy _ _ (hvx.below (below_drN w n) (Nat.le_refl _)) (hvy.below (below_drN w n) (Nat.le_refl _)) sx sy)
  clear hvx hvy hc hd sx sy
  by_cases hx : x < 0
  · have dx : decide (x < 0) = true := by simpa using hx
    rw [dx] at h0
    clear dx
    by_cases hy : y < 0
    · have dy : decide (y < 0) = true := by simpa using hy
      rw [dy] at k0
      have HV := hid (cmpZ_neg hx hy)
      have hr := cmpN_range x.natAbs y.natAbs
      clear dy hx hy
      go_enter Try.func84, Try.ntmps84
      go_wp2
      go_quiet (fail)
      go_wp2
      go_quiet ((go_at_call 103; exact quiet_more (K0.out _)))
      go_wp2
      go_ret
      rw [HV.out]
      exact ⟨rfl, _, rfl⟩
    · have dy : decide (y < 0) = false := by simpa using hy
      rw [dy] at k0
      have HV := hid (show cmpZ x y = -1 by unfold cmpZ; rw [if_pos (by omega)])
      clear dy hx hy
      go_enter Try.func84, Try.ntmps84
      go_wp2
      go_quiet (fail)
      go_wp2
      go_ret
      rw [HV.out]
      exact ⟨rfl, _, rfl⟩
  · have dx : decide (x < 0) = false := by simpa using hx
    rw [dx] at h0
    clear dx
    by_cases hy : y < 0
    · have dy : decide (y < 0) = true := by simpa using hy
      rw [dy] at k0
      have HV := hid (show cmpZ x y = 1 by unfold cmpZ; rw [if_neg (by omega), if_pos (by omega)])
      clear dy hx hy
      go_enter Try.func84, Try.ntmps84
      go_wp2
      go_quiet (fail)
      go_wp2
      go_ret
      rw [HV.out]
      exact ⟨rfl, _, rfl⟩
    · have dy : decide (y < 0) = false := by simpa using hy
      rw [dy] at k0
      have HV := hid (cmpZ_pos hx hy)
      clear dy hx hy
      go_enter Try.func84, Try.ntmps84
      go_wp2
      go_quiet (fail)
      go_wp2
      go_quiet ((go_at_call 103; exact quiet_more (K0.out _)))
      go_wp2
      go_ret
      rw [HV.out]
      exact ⟨rfl, _, rfl⟩
end Go.Proofs.Ytcfmipobgljbeaa
