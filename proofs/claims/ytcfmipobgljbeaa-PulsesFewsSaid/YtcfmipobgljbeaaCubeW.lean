/- basic.cube: three digits to base 2^64. -/
import Derived.Test.YtcfmipobgljbeaaMul64
import Derived.Test.YtcfmipobgljbeaaBigRd
import Derived.Laws.Externs
namespace Go.Proofs.Ytcfmipobgljbeaa
set_option linter.unusedVariables false
set_option linter.unusedSimpArgs false
set_option maxRecDepth 100000
open Go.RowKit

theorem cube_digits (c f : Nat) (hc : c < 18446744073709551616) (hf : f < 18446744073709551616) :
    c * c / 18446744073709551616 * f / 18446744073709551616 + (c * c % 18446744073709551616 * f / 18446744073709551616 + c * c / 18446744073709551616 * f % 18446744073709551616) / 18446744073709551616 = c * c * f / 340282366920938463463374607431768211456 ∧
    (c * c % 18446744073709551616 * f / 18446744073709551616 + c * c / 18446744073709551616 * f % 18446744073709551616) % 18446744073709551616 = c * c * f / 18446744073709551616 % 18446744073709551616 ∧
    c * c % 18446744073709551616 * f % 18446744073709551616 = c * c * f % 18446744073709551616 ∧
    c * c * f / 340282366920938463463374607431768211456 < 18446744073709551616 := by
  have h2 : c * c ≤ 18446744073709551615 * 18446744073709551615 := Nat.mul_le_mul (by omega) (by omega)
  have h3 : c * c * f ≤ 18446744073709551615 * 18446744073709551615 * 18446744073709551615 := Nat.mul_le_mul h2 (by omega)
  have hd := Nat.div_add_mod (c * c) 18446744073709551616
  have hN : c * c * f = 18446744073709551616 * (c * c / 18446744073709551616 * f) + c * c % 18446744073709551616 * f := by
    rw [← Nat.mul_assoc, ← Nat.add_mul, hd]
  clear hd h2
  generalize c * c / 18446744073709551616 * f = q at *
  generalize c * c % 18446744073709551616 * f = p at *
  generalize c * c * f = N at *
  omega


theorem Add64_run (x y : Int) (hx : 0 ≤ x) (hy : 0 ≤ y) (w : World) : (callFunc 108 #[.int .u64 x, .int .u64 y, .int .u64 0]).run Try.prog w =
    .ok (.value (.tuple #[.int .u64 ((x + y) % 18446744073709551616), .int .u64 ((x + y) / 18446744073709551616)])) w := by
  have h := run_add64 (P := Try.prog) x y 0 hx hy (by omega) (by omega) w
  rw [run_callFunc_extern (e := add64Entry) Try.func108 (by kernel_rfl) (by kernel_rfl) (by kernel_rfl) (by kernel_rfl) _ w, h, Int.add_zero]
  rfl

def Cubes (w : World) (n : Nat) (e : Ending) (w' : World) : Prop :=
  e = .returned (.agg #[.int .u64 ((n / 340282366920938463463374607431768211456 : Nat) : Int), .int .u64 ((n / 18446744073709551616 % 18446744073709551616 : Nat) : Int), .int .u64 ((n % 18446744073709551616 : Nat) : Int)]) ∧ Below w.heap.size w w'

set_option maxHeartbeats 2000000 in
theorem cube_any (c f : Nat) (hc : c < 18446744073709551616) (hf : f < 18446744073709551616) (w : World) :
    Calls Try.prog 81 #[.int .u64 c, .int .u64 f] w (Cubes w (c * c * f)) := by
  have hl : c * c % 18446744073709551616 < 18446744073709551616 := Nat.mod_lt _ (by omega)
  have hh : c * c / 18446744073709551616 < 18446744073709551616 := by
    have h2 : c * c ≤ 18446744073709551615 * 18446744073709551615 := Nat.mul_le_mul (by omega) (by omega)
    omega
  obtain ⟨D1, D2, D3, D4⟩ := cube_digits c f hc hf
  have M1 := fun w1 => Mul64_any c c hc hc w1
  have M2 := fun w1 => Mul64_any (c * c % 18446744073709551616) f hl hf w1
  have M3 := fun w1 => Mul64_any (c * c / 18446744073709551616) f hh hf w1
  have l1 : c * c % 18446744073709551616 * f % 18446744073709551616 < 18446744073709551616 := Nat.mod_lt _ (by omega)
  clear hl hh hc hf
  have FIN := fun (w1 : World) (e : Ending) => show e = _ ∧ Below w.heap.size w w1 → Cubes w (c * c * f) e w1 from id
  rw [← D1] at D4
  rw [← D1, ← D2, ← D3] at FIN
  clear D1 D2 D3
  generalize c * c % 18446744073709551616 * f % 18446744073709551616 = p0 at *
  generalize c * c % 18446744073709551616 * f / 18446744073709551616 = p1 at *
  generalize c * c / 18446744073709551616 * f % 18446744073709551616 = q0 at *
  generalize c * c / 18446744073709551616 * f / 18446744073709551616 = q1 at *
  generalize c * c % 18446744073709551616 = l at *
  generalize c * c / 18446744073709551616 = h at *
  have hA := Add64_run (p1 : Nat) (q0 : Nat) (by omega) (by omega)
  obtain ⟨m, hm⟩ : ∃ m : Nat, m = (p1 + q0) % 18446744073709551616 := ⟨_, rfl⟩
  obtain ⟨k, hk⟩ : ∃ k : Nat, k = (p1 + q0) / 18446744073709551616 := ⟨_, rfl⟩
  rw [show (((p1 : Nat) : Int) + (q0 : Nat)) % 18446744073709551616 = (m : Nat) from by omega, show (((p1 : Nat) : Int) + (q0 : Nat)) / 18446744073709551616 = (k : Nat) from by omega] at hA
  rw [← hk] at D4 FIN
  rw [← hm] at FIN
  have hw : IntKind.u64.wrap (((q1 : Nat) : Int) + (k : Nat)) = ((q1 + k : Nat) : Int) := by
    simp only [IntKind.wrap, IntKind.signed, IntKind.bits]
    simp
    omega
  have M1 := hid M1
  have M2 := hid M2
  have M3 := hid M3
  have FIN := hid FIN
  clear hm hk D4 l1
  go_enter Try.func81, Try.ntmps81
  go_wp2_with fail
  refine (M1.out _).mono ?_
  rintro e w1 ⟨rfl, rfl⟩
  go_wp2_with fail
  refine (M2.out _).mono ?_
  rintro e w1 ⟨rfl, rfl⟩
  go_wp2_with fail
  refine (M3.out _).mono ?_
  rintro e w1 ⟨rfl, rfl⟩
  go_wp2_with fail
  refine bodyPost_ret (v := .agg #[.int .u64 ((q1 + k : Nat) : Int), .int .u64 (m : Nat), .int .u64 (p0 : Nat)]) ?_ rfl (FIN.out _ _ ⟨rfl, (Below.refl _ _).alloc (Nat.le_refl _) _⟩)
  simp [results, Try.results81, go_sem]
end Go.Proofs.Ytcfmipobgljbeaa
