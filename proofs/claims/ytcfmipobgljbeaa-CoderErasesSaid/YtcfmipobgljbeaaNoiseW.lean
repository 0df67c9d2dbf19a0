/- The walks of Noise, the program's and the reference's, and of the law GainNoises. -/
import Derived.Test.YtcfmipobgljbeaaDown
import Derived.Test.YtcfmipobgljbeaaBigDivMod
import Derived.Test.YtcfmipobgljbeaaBigMulO
namespace Go.Proofs.Ytcfmipobgljbeaa
set_option linter.unusedVariables false
set_option linter.unusedSimpArgs false
set_option maxRecDepth 100000
open Go.RowKit

theorem and16 (x : Int) : bits BinOp.and IntKind.i64 x 65535 = x % 65536 := by
  have h : (BitVec.ofInt 64 x &&& BitVec.ofInt 64 65535).toNat = (x % 65536).toNat := by
    rw [BitVec.toNat_and, BitVec.toNat_ofInt, show (BitVec.ofInt 64 65535).toNat = 2 ^ 16 - 1 from by decide, Nat.and_two_pow_sub_one_eq_mod]
    omega
  show IntKind.i64.wrap ((BitVec.ofInt 64 x &&& BitVec.ofInt 64 65535).toNat : Int) = _
  rw [h]
  simp only [IntKind.wrap, IntKind.signed, IntKind.bits]
  simp
  omega

def nzS (s : Int) : Int := (s * 31821 + 13849) % 65536
def nzZ (z : Int) : Int := min (max z 0) 32767
def nzX (s z : Int) : Int := (nzS s - 32768) * nzZ z / 32768
theorem nzS_range (s : Int) : 0 ≤ nzS s ∧ nzS s ≤ 65535 := by unfold nzS; omega
theorem nzZ_range (z : Int) : 0 ≤ nzZ z ∧ nzZ z ≤ 32767 := by unfold nzZ; omega
theorem nz_prod {a b : Int} (h1 : 0 ≤ a) (h2 : a ≤ 65535) (h3 : 0 ≤ b) (h4 : b ≤ 32767) : -2147483648 ≤ (a - 32768) * b ∧ (a - 32768) * b ≤ 2147483648 := by
  have h5 : (a - 32768) * b ≤ 32767 * b := Int.mul_le_mul_of_nonneg_right (by omega) h3
  have h6 : -32768 * b ≤ (a - 32768) * b := Int.mul_le_mul_of_nonneg_right (by omega) h3
  omega
theorem nz_wrap (s : Int) : bits BinOp.and IntKind.i64 (wrap64 (wrap64 (s * 31821) + 13849)) 65535 = nzS s := by
  rw [and16]
  unfold nzS wrap64
  omega
/-- What Noise answers. -/
def Noises (w : World) (s z : Int) (e : Ending) (w' : World) : Prop := e = .returned (.tuple #[.int .i64 (nzS s), .int .i64 (nzX s z)]) ∧ Below w.heap.size w w'

set_option maxHeartbeats 1000000 in
theorem noise_any (s z : Int) (w : World) : Calls Try.prog 111 #[.int .i64 s, .int .i64 z] w fun e w' => e = .returned (.tuple #[.int .i64 (nzS s), .int .i64 (nzX s z)]) ∧ w = w' := by
  have hw := nz_wrap s
  have hr := nzS_range s
  have HX := hid (show nzX s z = (nzS s - 32768) * nzZ z / 32768 from rfl)
  generalize nzS s = y at *
  obtain ⟨h1, h2⟩ := hr
  rcases (show (z < 0 ∧ nzZ z = 0) ∨ (0 ≤ z ∧ z ≤ 32767 ∧ nzZ z = z) ∨ (32767 < z ∧ nzZ z = 32767) by unfold nzZ; omega) with ⟨hz, e0⟩ | ⟨hz0, hz1, e0⟩ | ⟨hz, e0⟩
  all_goals
    rw [e0] at HX
    clear e0
  · go_enter Try.func111, Try.ntmps111
    go_wp2
    go_ret2
    exact ⟨by rw [HX.out]; simp [hw], rfl⟩
  · obtain ⟨m1, m2⟩ := nz_prod h1 h2 hz0 hz1
    go_enter Try.func111, Try.ntmps111
    go_wp2
    go_ret2
    exact ⟨by rw [HX.out]; simp [hw], rfl⟩
  · go_enter Try.func111, Try.ntmps111
    go_wp2
    go_ret2
    exact ⟨by rw [HX.out]; simp [hw], rfl⟩
end Go.Proofs.Ytcfmipobgljbeaa
