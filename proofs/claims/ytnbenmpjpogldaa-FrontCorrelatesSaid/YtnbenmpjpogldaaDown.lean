/- The walk of the reference's down. -/
import Derived.Test.YtnbenmpjpogldaaRefClip
import Derived.Test.YtnbenmpjpogldaaBigRsh
namespace Go.Proofs.Ytnbenmpjpogldaa
set_option linter.unusedVariables false
set_option linter.unusedSimpArgs false
set_option maxRecDepth 100000
open Go.RowKit

theorem pow2_pos (n : Nat) : (0 : Int) < 2 ^ n := Int.pow_pos (by decide)
theorem ediv_lo {a lo p : Int} (hp : 0 < p) (h0 : lo ≤ 0) (h : lo ≤ a) : lo ≤ a / p := by
  rw [Int.le_ediv_iff_mul_le hp]
  have h1 := Int.mul_le_mul_of_nonneg_left (show (1 : Int) ≤ p by omega) (show 0 ≤ -lo by omega)
  rw [Int.neg_mul, Int.neg_mul, Int.mul_one] at h1
  omega
theorem ediv_hi {a hi p : Int} (hp : 0 < p) (h0 : 0 ≤ hi) (h : a ≤ hi) : a / p ≤ hi := by
  have h1 := Int.ediv_le_ediv hp h
  have h2 := Int.ediv_le_self p (a := hi) h0
  omega

set_option maxHeartbeats 1000000 in
theorem down_any (a : Int) (n : Nat) (w : World) (h1 : -9223372036854775808 ≤ a) (h2 : a ≤ 9223372036854775807) (hn : n ≤ 10000) :
    Calls Try.prog 10 #[.int .i64 a, .int .u64 (n : Nat)] w (GivesZ w (a / 2 ^ n)) := by
  have hq1 := ediv_lo (pow2_pos n) (lo := -9223372036854775808) (by omega) h1
  have hq2 := ediv_hi (pow2_pos n) (hi := 9223372036854775807) (by omega) h2
  go_enter Try.func10, Try.ntmps10
  go_wp2_with fail
  refine (whole_any _ a h1 h2).mono ?_
  rintro e w1 ⟨b, rfl, hb, hI, hB⟩
  have A1 := hid (IntBlk.below (IntBlk.new w (.bool false) (.slice none 0 0)) hB (Nat.le_refl _))
  have I1 := hid hI
  have B1 := hid (((Below.refl _ w).alloc (Nat.le_refl _) _).trans (hB.mono (by simp)))
  clear hI hB
  go_wp2_with fail
  refine (Rsh_any _ w.heap.size b a n A1.out I1.out (sm_of_lt (by omega)) hn).mono ?_
  rintro e w2 ⟨rfl, hI, hG⟩
  have I2 := hid hI
  have B2 := hid (below_of_grownBy B1.out hG (Nat.le_refl _))
  clear hI hG
  go_wp2_with fail
  refine (Int64_any _ w.heap.size (a / 2 ^ n) I2.out hq1 hq2).mono ?_
  rintro e w3 ⟨rfl, rfl⟩
  go_wp2
  go_ret
  exact ⟨rfl, B2.out⟩

theorem down_at (a : Int) (n : Nat) (p q : Int) (w : World) (h1 : -9223372036854775808 ≤ a) (h2 : a ≤ 9223372036854775807) (hn : n ≤ 10000) (hp : (2 : Int) ^ n = p) (hq : a / p = q) :
    Calls Try.prog 10 #[.int .i64 a, .int .u64 (n : Nat)] w (GivesZ w q) := by
  have h := down_any a n w h1 h2 hn
  rw [hp, hq] at h
  exact h
end Go.Proofs.Ytnbenmpjpogldaa
