/- The walk of the law BasicNorms. -/
import Derived.Test.YtjgompeeigfdhaaRefClip
import Derived.Test.YtjgompeeigfdhaaNumB
namespace Go.Proofs.Ytjgompeeigfdhaa
set_option linter.unusedVariables false
set_option linter.unusedSimpArgs false
open Go.RowKit

def nrmGo : Nat → Int → Nat
  | 0, _ => 0
  | f + 1, x => if -1073741824 ≤ x ∧ x < 1073741824 then 1 + nrmGo f (2 * x) else 0

/-- By how many places a number can be moved to the left within 32 bits. -/
def nrm (x : Int) : Nat := if s32 x = 0 then 0 else nrmGo 40 (s32 x)

structure NrmInv (N k : Nat) (y : Int) : Prop where
  k31 : k ≤ 31
  big : (2 : Int) ^ k ≤ y ∨ y ≤ -(2 ^ k)
  go : k + nrmGo (40 - k) y = N

theorem two_pow_int (k : Nat) : ((2 ^ k : Nat) : Int) = 2 ^ k := by simp

theorem NrmInv.k30 {N k : Nat} {y : Int} (h : NrmInv N k y) (h1 : -1073741824 ≤ y) (h2 : y < 1073741824) : k ≤ 30 := by
  by_cases hc : k ≤ 30
  · exact hc
  · exfalso
    have h31 := h.k31
    obtain rfl : k = 31 := by omega
    have hb := h.big
    have : (2 : Int) ^ 31 = 2147483648 := by decide
    omega

theorem NrmInv.step {N k : Nat} {y : Int} (h : NrmInv N k y) (h1 : -1073741824 ≤ y) (h2 : y < 1073741824) : NrmInv N (k + 1) (2 * y) := by
  have hk := h.k30 h1 h2
  have hb := h.big
  refine ⟨by omega, ?_, ?_⟩
  · rw [Int.pow_succ]; omega
  · have hg := h.go
    rw [show 40 - k = (40 - (k + 1)) + 1 from by omega, nrmGo, if_pos ⟨h1, h2⟩] at hg
    omega

theorem NrmInv.fin {N k : Nat} {y : Int} (h : NrmInv N k y) (h1 : ¬ (-1073741824 ≤ y ∧ y < 1073741824)) : k = N := by
  have hg := h.go
  have h31 := h.k31
  rw [show 40 - k = (40 - (k + 1)) + 1 from by omega, nrmGo, if_neg h1] at hg
  omega

theorem NrmInv.start {x : Int} (h : s32 x ≠ 0) : NrmInv (nrm x) 0 (s32 x) := by
  refine ⟨by omega, by
    rw [Int.pow_zero]
    rcases Int.lt_or_gt_of_ne h with h1 | h1
    · exact .inr (by omega)
    · exact .inl (by omega), ?_⟩
  unfold nrm
  rw [if_neg h]; simp

theorem NrmInv.range {N k : Nat} {y : Int} (h : NrmInv N k y) : N ≤ 40 := by
  have hg := h.go
  have h31 := h.k31
  have : ∀ f y, nrmGo f y ≤ f := by
    intro f
    induction f with
    | zero => intro y; exact Nat.le_refl _
    | succ f ih =>
      intro y; unfold nrmGo
      have := ih (2 * y)
      split <;> omega
  have := this (40 - k) y
  omega

set_option maxHeartbeats 1000000 in
theorem norm_any (x : Int) (w : World) : Calls Try.prog 21 #[.int .i64 x] w fun e w' => e = .returned (.int .i64 (nrm x : Nat)) ∧ w = w' := by
  have hr := s32_range x
  by_cases h0 : s32 x = 0
  · have hv : nrm x = 0 := by unfold nrm; rw [if_pos h0]
    rw [hv]
    clear hv
    have hb : (s32 x == 0) = true := by simpa using h0
    go_enter Try.func21, Try.ntmps21
    go_wp2_with (go_at_call 68; refine (in32_any _ _).mono ?_; rintro e w' ⟨rfl, rfl⟩)
    go_ret
    exact ⟨rfl, rfl⟩
  · have inv := NrmInv.start h0
    have hb : (s32 x == 0) = false := by simpa using h0
    have INV0 := hid inv
    clear inv h0
    obtain ⟨y0, hy0⟩ : ∃ y0, y0 = s32 x := ⟨_, rfl⟩
    rw [← hy0] at INV0 hr hb
    have HY := hid hy0
    clear hy0
    go_enter Try.func21, Try.ntmps21
    go_wp2_with (go_at_call 68; refine (in32_any _ _).mono ?_; rintro e w' ⟨rfl, rfl⟩; rw [← HY.out])
    go_loop [3, 4] (fun nv yv => ∃ (k : Nat) (y : Int), nv = .int .i64 k ∧ yv = .int .i64 y ∧ -2147483648 ≤ y ∧ y ≤ 2147483647 ∧ k ≤ 31 ∧ Hid (NrmInv (nrm x) k y)) (fun nv _ => 31 - (intOf nv).toNat)
    case atStart => exact ⟨0, y0, rfl, rfl, hr.1, hr.2, by omega, INV0⟩
    case round =>
      obtain ⟨k, y, rfl, rfl, hy1, hy2, hk, HI⟩ := hrel
      by_cases ha : y < 1073741824
      · by_cases hc : -1073741824 ≤ y
        · have hk30 := HI.out.k30 hc ha
          have hd : decide (y < 1073741824) = true := by simpa using ha
          go_wp2
          go_round
          case rel => exact ⟨k + 1, _, by simp, rfl, by omega, by omega, by omega, by have := HI.out.step hc ha; rw [Int.mul_comm] at this; exact hid this⟩
          case measure => simp [intOf] <;> omega
        · have hf := hid (HI.out.fin (by omega))
          have hd : decide (y < 1073741824) = true := by simpa using ha
          go_wp2
          go_ret
          rw [← hf.out]
          exact ⟨rfl, rfl⟩
      · have hf := hid (HI.out.fin (by omega))
        have hd : decide (y < 1073741824) = false := by simpa using ha
        go_wp2
        go_ret
        rw [← hf.out]
        exact ⟨rfl, rfl⟩

set_option maxHeartbeats 2000000 in
theorem refNorm_any (x : Int) (w : World) (h1 : -9223372036854775808 ≤ x) (h2 : x ≤ 9223372036854775807) : Calls Try.prog 22 #[.int .i64 x] w (GivesZ w (nrm x : Nat)) := by
  have hr := s32_range x
  have LW := hid (L_any x w h1 h2)
  obtain ⟨z, hz⟩ : ∃ z, z = s32 x := ⟨_, rfl⟩
  rw [← hz] at LW hr
  by_cases h0 : z = 0
  · have hv : nrm x = 0 := by unfold nrm; rw [if_pos (by rw [← hz]; exact h0)]
    rw [hv]
    subst h0
    clear hz hv
    go_enter Try.func22, Try.ntmps22
    go_wp2_with (first
      | (go_at_call 57; refine LW.out.mono ?_; rintro e w1 ⟨rfl, hB⟩; have q1 := hid hB; clear hB)
      | (go_at_call 41; refine (whole_any _ 0 (by omega) (by omega)).mono ?_; rintro e w2 ⟨b, rfl, hb, hI, hB⟩; have q2 := hid hI; have q3 := hid hB; clear hI hB)
      | (go_at_call 69; refine (Sign_any _ b 0 q2.out).mono ?_; rintro e w3 ⟨rfl, rfl⟩))
    go_ret
    exact ⟨rfl, q1.out.trans (q3.out.mono q1.out.size)⟩
  · have inv := NrmInv.start (x := x) (by rw [← hz]; exact h0)
    rw [← hz] at inv
    have INV0 := hid inv
    have hsg : (z.sign == 0) = false := by
      rw [beq_eq_false_iff_ne]; intro h; rw [Int.sign_eq_zero_iff_zero] at h; exact h0 h
    clear inv h0 hz
    go_enter Try.func22, Try.ntmps22
    go_wp2_with (first
      | (go_at_call 57; refine LW.out.mono ?_; rintro e w1 ⟨rfl, hB⟩; have q1 := hid hB; clear hB)
      | (go_at_call 41; refine (whole_any _ z (by omega) (by omega)).mono ?_; rintro e w2 ⟨b, rfl, hb, hI, hB⟩; have q2 := hid hI; have q3 := hid (q1.out.trans (hB.mono q1.out.size)); clear hI hB)
      | (go_at_call 69; refine (Sign_any _ b z q2.out).mono ?_; rintro e w3 ⟨rfl, rfl⟩))
    have hbw := q3.out.size
    go_loopw [4, 5, 6] (fun nv _ _ wr => ∃ (k : Nat), nv = .int .i64 k ∧ k ≤ 31 ∧ Hid (NrmInv (nrm x) k (z * 2 ^ k)) ∧ Hid (IntAt wr b z) ∧ Hid (Below w.heap.size w wr)) (fun nv _ _ _ => 31 - (intOf nv).toNat)
    case atStart => exact ⟨0, rfl, by omega, by simpa using INV0, q2, q3⟩
    case round =>
      obtain ⟨k, rfl, hk, HI, HA, HB⟩ := hrel
      have hlt := HA.out.lt
      have hws := HB.out.size
      have hpw : z * 2 ^ (k + 1) = 2 * (z * 2 ^ k) := by rw [Int.pow_succ, ← Int.mul_assoc, Int.mul_comm]
      have HPW := hid hpw
      clear hpw
      have hsm : Sm (z * 2 ^ (k + 1)).natAbs := by
        apply sm_of_lt
        rw [Int.natAbs_mul, Int.natAbs_pow]
        have h3 : (2 : Nat) ^ (k + 1) ≤ 2 ^ 32 := Nat.pow_le_pow_right (by decide) (by omega)
        have h4 : z.natAbs ≤ 2147483648 := by omega
        have h5 := Nat.mul_le_mul h4 h3
        show z.natAbs * 2 ^ (k + 1) < _
        omega
      have HSM := hid hsm
      clear hsm
      by_cases hin : -1073741824 ≤ z * 2 ^ k ∧ z * 2 ^ k < 1073741824
      · have hk30 := HI.out.k30 hin.1 hin.2
        have hov : limd (-2147483648) 2147483647 (z * 2 ^ (k + 1)) = false := by
          rw [HPW.out]; unfold limd; rw [if_neg (by omega), if_neg (by omega)]
        have hst := hid (HI.out.step hin.1 hin.2)
        clear hin
        go_wp2_with (first
          | (go_at_call 70; refine (Lsh_any _ wr.heap.size b z (k + 1) (IntBlk.new wr _ _) (HA.out.below ((Below.refl _ _).alloc (Nat.le_refl _) _) (Nat.le_refl _)) (sm_of_lt (by omega)) (by omega)).mono ?_; rintro e w4 ⟨rfl, hI, hG⟩; have q4 := hid hI; have q5 := hid hG; clear hI hG)
          | (go_at_call 40; refine (clip_any _ wr.heap.size (z * 2 ^ (k + 1)) 31 q4.out HSM.out (by omega) (-2147483648) 2147483647 (by decide) (by decide)).mono ?_; rintro e w5 ⟨rfl, hB⟩; have q6 := hid hB; clear hB; rw [hov]))
        go_roundw
        case rel =>
          have B1 := below_of_grownBy (HB.out.alloc (by omega) (.cells #[.bool false, .slice none 0 0] 51)) q5.out (by omega)
          refine ⟨k + 1, by simp, by omega, ?_, ?_, ?_⟩
          · rw [HPW.out]; exact hst
          · exact hid (((HA.out.below ((Below.refl _ _).alloc (Nat.le_refl _) _) (Nat.le_refl _)).kept (IntBlk.new wr (.bool false) (.slice none 0 0)) q5.out (by omega)).below q6.out (Nat.le_refl _))
          · exact hid (B1.trans (q6.out.mono B1.size))
        case measure => simp [intOf] <;> omega
      · have hov : limd (-2147483648) 2147483647 (z * 2 ^ (k + 1)) = true := by
          rw [HPW.out]; unfold limd
          repeat' split
          all_goals first | rfl | (exfalso; omega)
        have hf := hid (HI.out.fin hin)
        clear hin
        go_wp2_with (first
          | (go_at_call 70; refine (Lsh_any _ wr.heap.size b z (k + 1) (IntBlk.new wr _ _) (HA.out.below ((Below.refl _ _).alloc (Nat.le_refl _) _) (Nat.le_refl _)) (sm_of_lt (by omega)) (by omega)).mono ?_; rintro e w4 ⟨rfl, hI, hG⟩; have q4 := hid hI; have q5 := hid hG; clear hI hG)
          | (go_at_call 40; refine (clip_any _ wr.heap.size (z * 2 ^ (k + 1)) 31 q4.out HSM.out (by omega) (-2147483648) 2147483647 (by decide) (by decide)).mono ?_; rintro e w5 ⟨rfl, hB⟩; have q6 := hid hB; clear hB; rw [hov]))
        go_ret
        have B1 := below_of_grownBy (HB.out.alloc (by omega) (.cells #[.bool false, .slice none 0 0] 51)) q5.out (by omega)
        refine ⟨?_, B1.trans (q6.out.mono B1.size)⟩
        rw [← hf.out]
        rfl

set_option maxHeartbeats 1000000 in
theorem walkBasicNorms (a0 : Int) (w0 : (Lit.int .i64 a0).wf = true) (w : World) : Calls Try.prog 6 #[.int .i64 a0] w fun e w' => e = .returned (.bool true) ∧ Below w.heap.size w w' := by
  have h := w0
  simp only [Lit.wf, Bool.and_eq_true, decide_eq_true_eq] at h
  have B1 : -9223372036854775808 ≤ a0 := h.1
  have B2 : a0 ≤ 9223372036854775807 := h.2
  have h30 : nrm 1 = 30 := by decide
  clear h w0
  go_enter Try.func6, Try.ntmps6
  go_wp2_with (first
    | (go_at_call 21; refine (norm_any _ _).mono ?_; rintro e w' ⟨rfl, rfl⟩)
    | (go_at_call 22; refine (refNorm_any _ _ B1 B2).mono ?_; rintro e w1 ⟨rfl, hB⟩; have q1 := hid hB; clear hB))
  go_ret
  exact ⟨by simp [h30], q1.out⟩
end Go.Proofs.Ytjgompeeigfdhaa
