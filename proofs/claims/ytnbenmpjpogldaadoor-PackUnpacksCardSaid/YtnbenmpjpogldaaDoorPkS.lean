/- The walks of both sums of bytes. -/
import Derived.Test.YtnbenmpjpogldaaDoorByt
import Derived.Test.YtnbenmpjpogldaaDoorBigRd
namespace Go.Proofs.YtnbenmpjpogldaaDoor
set_option linter.unusedVariables false
set_option linter.unusedSimpArgs false
set_option maxRecDepth 100000
open Go.RowKit

def sumY (xs : List Int) : Nat → Int
  | 0 => 90
  | n + 1 => sumY xs n + xs.getD n 0
def Byts (xs : List Int) : Prop := ∀ i, 0 ≤ xs.getD i 0 ∧ xs.getD i 0 ≤ 255
theorem sumY_range {xs : List Int} (h : Byts xs) (n : Nat) : 0 ≤ sumY xs n ∧ sumY xs n ≤ 90 + 255 * (n : Int) := by
  induction n with
  | zero => simp [sumY]
  | succ n ih =>
    have := h n
    simp only [sumY]
    push_cast
    omega
def chk (xs : List Int) : Int := sumY xs xs.length % 256
set_option maxHeartbeats 2000000 in
theorem packSum_any (A : Option Addr) (c n : Nat) (xs : List Int) (w : World) (hr : Rb w w.heap.size A xs) (hn : xs.length = n) (hl : n ≤ 1000) (hx : Byts xs) :
    Calls Tryd.prog 17 #[.slice A n c] w fun e w' => e = .returned (.int .u8 (chk xs)) ∧ w = w' := by
  have HC := hid (show chk xs = sumY xs n % 256 from by unfold chk; rw [hn])
  have HR := hid hr
  have HN := hid hn
  clear hr hn
  go_enter Tryd.func17, Tryd.ntmps17
  go_wp2
  go_loop [3, 8] (fun sv iv => ∃ k : Nat, k ≤ n ∧ iv = .int .i64 k ∧ sv = .int .i64 (sumY xs k)) (fun _ iv => n - (intOf iv).toNat)
  case atStart => exact ⟨0, by omega, rfl, rfl⟩
  case round =>
    obtain ⟨k, hk, rfl, rfl⟩ := hrel
    have sr := sumY_range hx k
    by_cases hlt : k < n
    · obtain ⟨ad, rfl, _, c0⟩ := HR.out.at_ (k := k) (by rw [HN.out]; exact hlt)
      have hb := hx k
      have ST := hid (show sumY xs (k + 1) = sumY xs k + xs.getD k 0 from rfl)
      generalize xs.getD k 0 = x at *
      generalize sumY xs k = s at *
      have k0 : (0 : Int) ≤ k := by omega
      have kn : (k : Int) < n := by omega
      have hw1 : IntKind.i64.wrap x = x := by rw [IntKind.wrap_i64]; omega
      have hw2 : IntKind.i64.wrap (s + x) = s + x := by rw [IntKind.wrap_i64]; omega
      go_wp2
      refine ⟨⟨k + 1, by omega, by go_num, by rw [ST.out]⟩, ?_⟩
      simp [intOf] <;> omega
    · obtain rfl : k = n := by omega
      generalize sumY xs k = s at *
      have hw : IntKind.u8.wrap s = s % 256 := IntKind.wrap_u8 s
      go_wp2
      go_ret
      exact ⟨by rw [HC.out]; rfl, rfl⟩
set_option maxHeartbeats 2000000 in
theorem refCheck_any (A : Option Addr) (c n : Nat) (xs : List Int) (w : World) (hr : Rb w w.heap.size A xs) (hn : xs.length = n) (hl : n ≤ 1000) (hx : Byts xs) :
    Calls Tryd.prog 22 #[.slice A n c] w fun e w' => e = .returned (.int .u8 (chk xs)) ∧ w = w' := by
  have HC := hid (show chk xs = sumY xs n % 256 from by unfold chk; rw [hn])
  have HR := hid hr
  have HN := hid hn
  clear hr hn
  go_enter Tryd.func22, Tryd.ntmps22
  go_wp2
  go_loop [3, 8] (fun sv iv => ∃ k : Nat, k ≤ n ∧ iv = .int .i64 k ∧ sv = .int .i64 (sumY xs k)) (fun _ iv => n - (intOf iv).toNat)
  case atStart => exact ⟨0, by omega, rfl, rfl⟩
  case round =>
    obtain ⟨k, hk, rfl, rfl⟩ := hrel
    have sr := sumY_range hx k
    by_cases hlt : k < n
    · obtain ⟨ad, rfl, _, c0⟩ := HR.out.at_ (k := k) (by rw [HN.out]; exact hlt)
      have hb := hx k
      have ST := hid (show sumY xs (k + 1) = sumY xs k + xs.getD k 0 from rfl)
      generalize xs.getD k 0 = x at *
      generalize sumY xs k = s at *
      have k0 : (0 : Int) ≤ k := by omega
      have kn : (k : Int) < n := by omega
      have hw1 : IntKind.i64.wrap x = x := by rw [IntKind.wrap_i64]; omega
      have hw2 : IntKind.i64.wrap (s + x) = s + x := by rw [IntKind.wrap_i64]; omega
      go_wp2
      refine ⟨⟨k + 1, by omega, by go_num, by rw [ST.out]⟩, ?_⟩
      simp [intOf] <;> omega
    · obtain rfl : k = n := by omega
      generalize sumY xs k = s at *
      have hw : IntKind.u8.wrap (s % 256) = s % 256 := by rw [IntKind.wrap_u8]; omega
      have hm : s.tmod 256 = s % 256 := Int.tmod_eq_emod_of_nonneg sr.1
      go_wp2
      go_ret
      exact ⟨by rw [HC.out]; rfl, rfl⟩
end Go.Proofs.YtnbenmpjpogldaaDoor
