/- The walk of the reference's Log, and of the law DualLogs. -/
import Derived.Test.YtjgompeeigfdhaaLogW
namespace Go.Proofs.Ytjgompeeigfdhaa
set_option linter.unusedVariables false
set_option linter.unusedSimpArgs false
open Go.RowKit

theorem shr_test {a : Int} {N k : Nat} (h1 : 1073741824 ≤ a * 2 ^ N) (h2 : a * 2 ^ N < 2147483648) (hN : N ≤ 30) (ha : 1 ≤ a) (hk : k + N ≤ 30) : (0 < a / 2 ^ (k + 1)) ↔ (k + 1 + N ≤ 30) := by
  obtain ⟨n, rfl⟩ := Int.eq_ofNat_of_zero_le (show 0 ≤ a by omega)
  have e : ((n : Int) * 2 ^ N) = ((n * 2 ^ N : Nat) : Int) := by simp
  rw [e] at h1 h2
  have e2 : ((n : Int) / 2 ^ (k + 1)) = ((n / 2 ^ (k + 1) : Nat) : Int) := by simp
  rw [e2]
  have hp := Nat.two_pow_pos (k + 1)
  have hpN := Nat.two_pow_pos N
  constructor
  · intro h
    have h3 : 2 ^ (k + 1) ≤ n := by
      by_cases hc : 2 ^ (k + 1) ≤ n
      · exact hc
      · rw [Nat.div_eq_of_lt (by omega)] at h; omega
    have h4 : 2 ^ (k + 1) * 2 ^ N ≤ n * 2 ^ N := Nat.mul_le_mul_right _ h3
    rw [← Nat.pow_add] at h4
    have h5 : 2 ^ (k + 1 + N) < 2 ^ 31 := by omega
    have := (Nat.pow_lt_pow_iff_right (show 1 < 2 by decide)).1 h5
    omega
  · intro h
    have h3 : 2 ^ (k + 1) ≤ n := by
      by_cases hc : 2 ^ (k + 1) ≤ n
      · exact hc
      · exfalso
        have h4 : (n + 1) * 2 ^ N ≤ 2 ^ (k + 1) * 2 ^ N := Nat.mul_le_mul_right _ (by omega)
        rw [← Nat.pow_add, Nat.add_mul] at h4
        have h6 : 2 ^ (k + 1 + N) ≤ 2 ^ 30 := Nat.pow_le_pow_right (by decide) h
        omega
    have := Nat.div_pos h3 hp
    omega

/-- What holds of the reference's rounds: r are to come. -/
structure Rl (X r : Nat) (F x : Int) : Prop where
  lo0 : 1073741824 ≤ X
  hi0 : X < 2147483648
  lo : 1073741824 ≤ x
  hi : x < 2147483648
  st : ∃ g : Nat, lgN (15 - r) X = (x.toNat, g) ∧ F = (g * 2 ^ r : Nat)

theorem Rl.step {X q : Nat} {F x : Int} (h : Rl X (q + 1) F x) (hq : q + 1 ≤ 15) :
    (2147483648 ≤ x * x / 1073741824 → F + 2 ^ q ≤ 32767 ∧ Rl X q (F + 2 ^ q) (x * x / 1073741824 / 2)) ∧ (¬ 2147483648 ≤ x * x / 1073741824 → F ≤ 32767 ∧ Rl X q F (x * x / 1073741824)) := by
  obtain ⟨l0, h0, l1, h1, g, hg, hF⟩ := h
  have hR := lgN_range l0 h0 (15 - q)
  have hp : (2 : Nat) ^ (15 - q) * 2 ^ q = 32768 := by rw [← Nat.pow_add, Nat.sub_add_cancel (by omega)]
  have hL : lgN (15 - q) X = lgStep (x.toNat, g) := by
    rw [show 15 - q = (15 - (q + 1)) + 1 from by omega]; simp only [lgN]; rw [hg]
  obtain ⟨n, rfl⟩ := Int.eq_ofNat_of_zero_le (show 0 ≤ x by omega)
  have e : ((n : Int) * n / 1073741824) = ((n * n / 1073741824 : Nat) : Int) := by simp
  have ep : ((2 ^ q : Nat) : Int) = 2 ^ q := by simp
  rw [e]
  rw [hL] at hR
  unfold lgStep at hR hL
  simp only [Int.toNat_natCast] at hR hL
  generalize n * n / 1073741824 = y at *
  constructor
  · intro hge
    rw [if_pos (by omega)] at hR hL
    simp only at hR
    have hm : (2 * g + 1) * 2 ^ q + 2 ^ q ≤ 32768 := by
      rw [← hp, ← Nat.succ_mul]; exact Nat.mul_le_mul_right _ hR.2.2
    have hp0 := Nat.two_pow_pos q
    have eF : F + 2 ^ q = (((2 * g + 1) * 2 ^ q : Nat) : Int) := by
      rw [hF, ← ep, ← Int.natCast_add]
      congr 1
      rw [Nat.pow_succ, Nat.add_mul, Nat.one_mul, Nat.mul_comm (2 ^ q) 2, ← Nat.mul_assoc, Nat.mul_comm g 2]
    refine ⟨by rw [eF]; omega, l0, h0, by omega, by omega, 2 * g + 1, ?_, eF⟩
    rw [hL]; congr 1
  · intro hge
    rw [if_neg (by omega)] at hR hL
    simp only at hR
    have hm : (2 * g) * 2 ^ q + 2 ^ q ≤ 32768 := by
      rw [← hp, ← Nat.succ_mul]; exact Nat.mul_le_mul_right _ hR.2.2
    have hp0 := Nat.two_pow_pos q
    have eF : F = (((2 * g) * 2 ^ q : Nat) : Int) := by
      rw [hF]
      congr 1
      rw [Nat.pow_succ, Nat.mul_comm (2 ^ q) 2, ← Nat.mul_assoc, Nat.mul_comm g 2]
    refine ⟨by rw [eF]; omega, l0, h0, by omega, by omega, 2 * g, ?_, eF⟩
    rw [hL]; congr 1

set_option maxRecDepth 100000 in
set_option maxHeartbeats 4000000 in
theorem refLog_any (a : Int) (w : World) : Calls Try.prog 34 #[.int .i64 a] w (Logs w a) := by
  by_cases h1 : a < 1
  · have FIN := hid (logs_bad (w := w) (w' := w) (.inl h1) (Below.refl _ _))
    have d1 : decide (a < 1) = true := by simpa using h1
    go_enter Try.func34, Try.ntmps34
    go_wp2
    go_ret3
    exact FIN.out
  have d1 : decide (a < 1) = false := by simpa using h1
  by_cases h2 : 2147483647 < a
  · have FIN := hid (logs_bad (w := w) (w' := w) (.inr h2) (Below.refl _ _))
    have d2 : decide (2147483647 < a) = true := by simpa using h2
    go_enter Try.func34, Try.ntmps34
    go_wp2
    go_ret3
    exact FIN.out
  have d2 : decide (2147483647 < a) = false := by simpa using h2
  have hs := nrm_spec (a := a) (by omega) (by omega)
  obtain ⟨X, hX⟩ : ∃ X : Nat, X = (a * 2 ^ nrm a).toNat := ⟨_, rfl⟩
  have FIN := hid (fun (w1 : World) => logs_good (w := w) (w' := w1) (by omega) hX)
  have eX := hid (show a * 2 ^ nrm a = (X : Int) by omega)
  have hX1 : 1073741824 ≤ X := by omega
  have hX2 : X < 2147483648 := by omega
  have HX := hid (And.intro hX1 hX2)
  have hn := hs.2.2
  generalize nrm a = n at *
  have hr1 : 1 ≤ a := by omega
  have hr2 : a ≤ 2147483647 := by omega
  have HS := hid (fun (k : Nat) (hk : k + n ≤ 30) => shr_test (k := k) hs.1 hs.2.1 hn hr1 hk)
  clear hs hX h1 h2 hX1 hX2
  go_enter Try.func34, Try.ntmps34
  go_wp2
  go_loop [5] (fun nv => ∃ k : Nat, nv = .int .i64 k ∧ k + n ≤ 30) (fun nv => 30 - (intOf nv).toNat)
  case atStart => exact ⟨0, rfl, by omega⟩
  case round =>
    obtain ⟨k, rfl, hk⟩ := hrel
    have hiff := HS.out k hk
    by_cases hgo : k + 1 + n ≤ 30
    · have ht : 0 < a / 2 ^ (k + 1) := hiff.2 hgo
      clear hiff
      go_wp2
      go_round
      case rel => exact ⟨k + 1, by simp, by omega⟩
      case measure => simp [intOf] <;> omega
    · have ht : ¬ 0 < a / 2 ^ (k + 1) := fun h => hgo (hiff.1 h)
      obtain rfl : k = 30 - n := by omega
      have hkc : (30 : Int) - ((30 - n : Nat) : Int) = (n : Int) := by omega
      have hkn : ((30 - n : Nat) : Int) = 30 - (n : Int) := by omega
      clear hiff hgo
      go_wp2_with fail
      refine (whole_any _ a (by omega) (by omega)).mono ?_
      rintro e w1 ⟨b1, rfl, hb1, hI1, hB1⟩
      have A1 := hid (IntBlk.below (IntBlk.new w (.bool false) (.slice none 0 0)) hB1 (Nat.le_refl _))
      have I1 := hid hI1
      have B1 := hid (((Below.refl _ w).alloc (Nat.le_refl _) _).trans (hB1.mono (by simp)))
      have hs1 := B1.out.size
      clear hI1 hB1
      go_wp2_with fail
      rw [show (30 : Int) - (30 - (n : Int)) = n from by omega]
      refine (Lsh_any _ w.heap.size b1 a n A1.out I1.out (sm_of_lt (by omega)) (by omega)).mono ?_
      rintro e w2 ⟨rfl, hI2, hG2⟩
      rw [eX.out] at hI2
      have I2 := hid hI2
      have B2 := hid (below_of_grownBy B1.out hG2 (Nat.le_refl _))
      have hl2 := I2.out.lt
      clear hI2 hG2
      go_wp2_with fail
      refine (NewInt_any _ 1 (by omega) (by omega)).mono ?_
      rintro e w3 ⟨b3, rfl, hb3, hI3, hB3⟩
      have T3 := hid (IntBlk.below (IntBlk.new w2 (.bool false) (.slice none 0 0)) hB3 (Nat.le_refl _))
      have I3 := hid hI3
      have X3 := hid ((I2.out.below ((Below.refl _ _).alloc (Nat.le_refl _) _) (Nat.le_refl _)).below hB3 (Nat.le_refl _))
      have B3 := hid ((B2.out.alloc (by omega) _).trans (hB3.mono (by simp; omega)))
      clear hI3 hB3
      go_wp2_with fail
      refine (Lsh_any _ w2.heap.size b3 1 31 T3.out I3.out (sm_of_lt (by decide)) (by omega)).mono ?_
      rintro e w4 ⟨rfl, hI4, hG4⟩
      rw [show (1 : Int) * 2 ^ 31 = 2147483648 from by decide] at hI4
      have T4 := hid hI4
      have X4 := hid (X3.out.kept T3.out hG4 (by omega))
      have B4 := hid (below_of_grownBy B3.out hG4 (by omega))
      clear hI4 hG4
      have hTA : w.heap.size < w2.heap.size := by omega
      have RX := hid (show Rl X 15 0 (X : Int) from ⟨HX.out.1, HX.out.2, by have := HX.out; omega, by have := HX.out; omega, 0, by simp [lgN], by simp⟩)
      clear hs1 hl2 hb1 hb3 hkc hkn
      go_wp2
      go_loopw [8, 9] (fun fv kv wr => ∃ (r : Nat) (F x : Int), r ≤ 15 ∧ kv = .int .i64 ((r : Int) - 1) ∧ fv = .int .i64 F ∧ 0 ≤ F ∧ F ≤ 32767 ∧ Hid (Rl X r F x) ∧ Hid (IntAt wr w.heap.size x) ∧ Hid (IntAt wr w2.heap.size 2147483648) ∧ Hid (Below w.heap.size w wr)) (fun _ kv _ => (intOf kv + 1).toNat)
      case atStart => exact ⟨15, 0, X, by omega, by simp, rfl, by omega, by omega, RX, X4, T4, B4⟩
      case round =>
        clear X4 T4 B4 B3 X3 I3 T3 B2 I2 B1 I1 A1 RX
        obtain ⟨r, F, x, hr, rfl, rfl, hF0, hF1, HR, HA, HT, HB⟩ := hrel
        by_cases h0 : 0 < r
        · obtain ⟨q, rfl⟩ : ∃ q, r = q + 1 := ⟨r - 1, by omega⟩
          rw [show (((q + 1 : Nat) : Int) - 1) = (q : Int) from by omega]
          have hst := hid (HR.out.step (by omega))
          have hx := hid (And.intro HR.out.lo HR.out.hi)
          have hq31 : q ≤ 31 := by omega
          have hp := pow_le31 hq31
          have hp1 := hp.1
          have hp2 := hp.2
          have hF2 : F + 2 ^ q ≤ 9223372036854775807 := by omega
          have hF3 : 0 ≤ F + 2 ^ q := by omega
          clear h0 hp
          go_wp2_with fail
          refine (Mul_any _ w.heap.size w.heap.size w.heap.size x x HA.out.blk HA.out HA.out (sm_of_lt (by have := hx.out; omega)) (sm_of_lt (by have := hx.out; omega))).mono ?_
          rintro e w5 ⟨rfl, hI5, hG5⟩
          have A5 := hid hI5
          have T5 := hid (HT.out.kept HA.out.blk hG5 (by omega))
          have B5 := hid (below_of_grownBy HB.out hG5 (Nat.le_refl _))
          have S5 := hid (show (x * x).natAbs < 340282366920938463463374607431768211456 by have := sq_int hx.out.1 hx.out.2; omega)
          clear hI5 hG5
          go_wp2_with fail
          refine (Rsh_any _ w.heap.size w.heap.size (x * x) 30 A5.out.blk A5.out (sm_of_lt S5.out) (by omega)).mono ?_
          rintro e w6 ⟨rfl, hI6, hG6⟩
          rw [show (2 : Int) ^ 30 = 1073741824 from by decide] at hI6
          have A6 := hid hI6
          have T6 := hid (T5.out.kept A5.out.blk hG6 (by omega))
          have B6 := hid (below_of_grownBy B5.out hG6 (Nat.le_refl _))
          clear hI6 hG6 A5 T5 B5
          obtain ⟨y, hy⟩ : ∃ y, y = x * x / 1073741824 := ⟨_, rfl⟩
          rw [← hy] at A6 hst
          have SY := hid (show y.natAbs < 340282366920938463463374607431768211456 by have := sq_int hx.out.1 hx.out.2; omega)
          have HY := hid hy
          clear hy
          have K := hid (Cmp_any w6 w.heap.size w2.heap.size y 2147483648 A6.out T6.out (sm_of_lt SY.out) (sm_of_lt (by decide)))
          by_cases hge : 2147483648 ≤ y
          · have h3 := hid (hst.out.1 hge)
            have hc : 0 ≤ cmpZ y 2147483648 := by
              unfold cmpZ
              repeat' split
              all_goals omega
            go_wp2_with fail
            refine K.out.mono ?_
            rintro e w7 ⟨rfl, k7, rfl⟩
            go_wp2_with fail
            refine (Rsh_any _ w.heap.size w.heap.size y 1 (A6.out.drewN _).blk (A6.out.drewN _) (sm_of_lt SY.out) (by omega)).mono ?_
            rintro e w8 ⟨rfl, hI8, hG8⟩
            rw [show (2 : Int) ^ 1 = 2 from by decide] at hI8
            have A8 := hid hI8
            have T8 := hid ((T6.out.drewN _).kept (A6.out.drewN k7).blk hG8 (by omega))
            have B8 := hid (below_of_grownBy (B6.out.trans (c := w6.drewN k7) ⟨rfl, rfl, rfl, Nat.le_refl _, fun _ _ => rfl⟩) hG8 (Nat.le_refl _))
            clear hI8 hG8
            go_wp2
            go_roundw
            case rel => exact ⟨q, F + 2 ^ q, y / 2, by omega, rfl, by first | rfl | simp, hF3, h3.out.1, hid h3.out.2, A8, T8, B8⟩
            case measure => simp [intOf] <;> omega
          · have h3 := hid (hst.out.2 (by omega))
            have hc : cmpZ y 2147483648 < 0 := by unfold cmpZ; rw [if_pos (by omega)]; omega
            go_wp2_with fail
            refine K.out.mono ?_
            rintro e w7 ⟨rfl, k7, rfl⟩
            go_wp2
            go_roundw
            case rel => exact ⟨q, F, y, by omega, rfl, rfl, hF0, h3.out.1, hid h3.out.2, hid (A6.out.drewN _), hid (T6.out.drewN _), hid (B6.out.trans ⟨rfl, rfl, rfl, Nat.le_refl _, fun _ _ => rfl⟩)⟩
            case measure => simp [intOf] <;> omega
        · obtain rfl : r = 0 := by omega
          obtain ⟨g, hg, hFg⟩ := HR.out.st
          have FIN2 := hid (show Logs w a (.returned (.tuple #[.int .i64 (30 - (n : Nat)), .int .i64 F, .int .i64 0])) wr by
            have h := FIN.out wr HB.out
            rw [show 15 - 0 = 15 from rfl] at hg
            rw [hg] at h
            rw [hFg]
            simpa using h)
          clear hg hFg
          go_wp2
          go_ret3
          exact FIN2.out

set_option maxHeartbeats 1000000 in
theorem walkDualLogs (a0 : Int) (w0 : (Lit.int .i64 a0).wf = true) (w : World) : Calls Try.prog 11 #[.int .i64 a0] w fun e w' => e = .returned (.bool true) ∧ Below w.heap.size w w' := by
  have h8 : lgW 8 = 3 := by decide
  clear w0
  go_enter Try.func11, Try.ntmps11
  go_wp2_with fail
  refine (log_any a0 w).mono ?_
  rintro e w1 ⟨rfl, hB1⟩
  have q1 := hid hB1
  clear hB1
  go_wp2_with fail
  refine (refLog_any a0 w1).mono ?_
  rintro e w2 ⟨rfl, hB2⟩
  have q2 := hid hB2
  clear hB2
  go_wp2_with fail
  refine (log_any 8 w2).mono ?_
  rintro e w3 ⟨rfl, hB3⟩
  have q3 := hid hB3
  clear hB3
  rw [h8]
  go_wp2
  go_ret
  exact ⟨by simp, (q1.out.trans (q2.out.mono q1.out.size)).trans (q3.out.mono (Nat.le_trans q1.out.size q2.out.size))⟩
end Go.Proofs.Ytjgompeeigfdhaa
