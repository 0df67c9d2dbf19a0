/- The walks of the reference's power of two, of its gain level, and of the laws DualPows and GainLevels. -/
import Derived.Test.YtnielfleokbloaaDoorPowW
import Derived.Test.YtnielfleokbloaaDoorRefClip
import Derived.Test.YtnielfleokbloaaDoorBigMulO
import Derived.Test.YtnielfleokbloaaDoorBigAddO
import Derived.Test.YtnielfleokbloaaDoorBigRsh
namespace Go.Proofs.YtnielfleokbloaaDoor
set_option linter.unusedVariables false
set_option linter.unusedSimpArgs false
set_option maxRecDepth 100000
open Go.RowKit

theorem sm_small {z : Int} (h1 : -9223372036854775808 ≤ z) (h2 : z ≤ 9223372036854775807) : Sm z.natAbs := sm_of_lt (by omega)
theorem pow2_rem {k : Nat} (h : k < 15) : (0 : Int) < 2 ^ (14 - k) ∧ (2 : Int) ^ (14 - k) ≤ 16384 := by
  have : ∀ j, j < 15 → (0 : Int) < 2 ^ (14 - j) ∧ (2 : Int) ^ (14 - j) ≤ 16384 := by decide
  exact this k h

def PowAns (w : World) (n f : Int) (e : Ending) (w' : World) : Prop := e = .returned (.tuple #[.int .i64 (powV n f), .int .i64 (errOf (powB n f))]) ∧ Below w.heap.size w w'

set_option maxHeartbeats 4000000 in
theorem refPow_in (n f : Int) (w : World) (T : TabS w 1 rootsL) (n1 : 0 ≤ n) (n2 : n ≤ 30) (f1 : 0 ≤ f) (f2 : f ≤ 32767) :
    Calls Tryd.prog 13 #[.int .i64 n, .int .i64 f] w fun e w' => e = .returned (.tuple #[.int .i64 (powV n f), .int .i64 0]) ∧ Below w.heap.size w w' := by
  have d1 : ¬ n < 0 := by omega
  have d2 : ¬ 30 < n := by omega
  have d3 : ¬ f < 0 := by omega
  have d4 : ¬ 32767 < f := by omega
  have TT := hid T
  clear T
  go_enter Tryd.func13, Tryd.ntmps13
  go_wp2_with fail
  refine (NewInt_any _ 1073741824 (by omega) (by omega)).mono ?_
  rintro e w1 ⟨bx, rfl, hb1, hI1, hB1⟩
  have I1 := hid hI1
  have B1 := hid hB1
  clear hI1 hB1
  go_wp2
  go_loopw [7] (fun iv wr => ∃ (k : Nat) (x : Int), k ≤ 15 ∧ iv = .int .i64 k ∧ Hid (x = powX f k) ∧ Hid (IntAt wr bx x) ∧ Hid (Below w.heap.size w wr)) (fun iv _ => 15 - (intOf iv).toNat)
  case atStart => exact ⟨0, 1073741824, by omega, rfl, hid rfl, I1, B1⟩
  case round =>
    clear I1 B1
    obtain ⟨k, x, hk, rfl, HX, HI, HB⟩ := hrel
    by_cases hlt : k < 15
    · have x1 : 1073741824 ≤ x := by rw [HX.out]; exact powX_lo f k
      have x2 : x ≤ 2147483648 := by rw [HX.out]; exact powX_hi f (by omega)
      have r1 := powR_nn k
      have r2 := powR_le k
      have HR := hid (show powX f (k + 1) = if powBit f k then x + x * powR k / 1073741824 else x by rw [powX, ← HX.out])
      obtain ⟨g1, g2⟩ := pow2_rem hlt
      have g3 : ¬ (2 : Int) ^ (14 - k) = 0 := by omega
      have g4 : 0 ≤ f / 2 ^ (14 - k) := Int.ediv_nonneg f1 (by omega)
      by_cases hb : f / 2 ^ (14 - k) % 2 = 1
      · have e1 : (f / 2 ^ (14 - k) % 2 == 1) = true := by rw [hb]; rfl
        have HR2 := hid (show powX f (k + 1) = x + x * powR k / 1073741824 by rw [HR.out, if_pos (by unfold powBit; simpa using hb)])
        clear hb HR
        obtain ⟨A, c, h0, hlen, hc⟩ := (TT.out.below' (HB.out.alloc HB.out.size (.cells #[.bool false, .slice none 0 0] 48)) (Nat.le_refl _)).form
        obtain ⟨ad, rfl, hc⟩ := hc k hlt
        have h0 : (wr.alloc (.cells #[.bool false, .slice none 0 0] 48)).cell? ⟨1, 0, none⟩ = some (.slice (some ad) 15 c) := h0
        unfold powR at r1 r2 HR2
        generalize rootsL.getD k 0 = r at *
        obtain ⟨q1, q2, q3, q4⟩ := pow_step x1 x2 r1 r2
        have HQ := hid (And.intro q1 (And.intro q2 (And.intro q3 q4)))
        clear hlen q1 q2 q3 q4
        go_wp2_with fail
        refine (whole_any _ r (by omega) (by omega)).mono ?_
        rintro e w2 ⟨b2, rfl, hb2, hI2, hB2⟩
        have P2 := hid (IntBlk.below (IntBlk.new wr (.bool false) (.slice none 0 0)) hB2 (Nat.le_refl _))
        have X2 := hid ((HI.out.below ((Below.refl _ _).alloc (Nat.le_refl _) _) (Nat.le_refl _)).below hB2 (Nat.le_refl _))
        have I2 := hid hI2
        have B2 := hid ((HB.out.alloc HB.out.size _).trans (hB2.mono (by have := HB.out.size; simp; omega)))
        have hxlt := HI.out.lt
        have hws := HB.out.size
        clear hI2 hB2 hc h0
        go_wp2_with fail
        refine (Mul_any w2 wr.heap.size bx b2 x r P2.out X2.out I2.out (sm_small (by omega) (by omega)) (sm_small (by omega) (by omega))).mono ?_
        rintro e w3 ⟨rfl, hI3, hG3⟩
        have P3 := hid hI3
        have X3 := hid (X2.out.kept P2.out hG3 (by omega))
        have B3 := hid (below_of_grownBy B2.out hG3 (by omega))
        clear hI3 hG3
        go_wp2_with fail
        refine (Rsh_any w3 wr.heap.size wr.heap.size (x * r) 30 P3.out.blk P3.out (sm_small (by have := HQ.out; omega) (by have := HQ.out; omega)) (by omega)).mono ?_
        rintro e w4 ⟨rfl, hI4, hG4⟩
        rw [show (2 : Int) ^ 30 = 1073741824 from by decide] at hI4
        have P4 := hid hI4
        have X4 := hid (X3.out.kept P3.out.blk hG4 (by omega))
        have B4 := hid (below_of_grownBy B3.out hG4 (by omega))
        clear hI4 hG4
        go_wp2_with fail
        refine (Add_any w4 bx bx wr.heap.size x (x * r / 1073741824) X4.out.blk X4.out P4.out (sm_small (by omega) (by omega)) (sm_small (by have := HQ.out; omega) (by have := HQ.out; omega))).mono ?_
        rintro e w5 ⟨rfl, hI5, hG5⟩
        have X5 := hid hI5
        have B5 := hid (below_of_grownBy B4.out hG5 hb1)
        clear hI5 hG5
        go_wp2
        go_roundw
        case rel => exact ⟨k + 1, _, by omega, by go_num, hid HR2.out.symm, X5, B5⟩
        case measure => simp [intOf] <;> omega
      · have e1 : (f / 2 ^ (14 - k) % 2 == 1) = false := by simpa using hb
        have HR2 := hid (show powX f (k + 1) = x by rw [HR.out, if_neg (by unfold powBit; simpa using hb)])
        clear hb HR
        go_wp2
        go_roundw
        case rel => exact ⟨k + 1, _, by omega, by go_num, hid HR2.out.symm, HI, HB⟩
        case measure => simp [intOf] <;> omega
    · obtain rfl : k = 15 := by omega
      obtain ⟨m, rfl⟩ := Int.eq_ofNat_of_zero_le n1
      have x1 : 1073741824 ≤ x := by rw [HX.out]; exact powX_lo f 15
      have x2 : x ≤ 2147483648 := by rw [HX.out]; exact powX_hi f (by omega)
      have HV := hid (show powV (m : Nat) f = (if 2147483647 ≤ x / 2 ^ (30 - m) then 2147483647 else x / 2 ^ (30 - m)) by
        unfold powV
        rw [if_pos (by unfold powB; simp; omega), ← HX.out, show ((30 : Int) - (m : Nat)).toNat = 30 - m by omega])
      have hp0 : (0 : Int) < 2 ^ (30 - m) := Int.pow_pos (by decide)
      have y1 : 0 ≤ x / 2 ^ (30 - m) := Int.ediv_nonneg (by omega) (by omega)
      have y2 : x / 2 ^ (30 - m) ≤ 2147483648 := Int.le_trans (Int.ediv_le_self _ (by omega)) x2
      clear HX hlt hp0
      go_wp2_with fail
      rw [show (30 : Int) - (m : Int) = ((30 - m : Nat) : Int) from by omega]
      refine (Rsh_any wr bx bx x (30 - m) HI.out.blk HI.out (sm_small (by omega) (by omega)) (by omega)).mono ?_
      rintro e w2 ⟨rfl, hI2, hG2⟩
      have I2 := hid hI2
      have B2 := hid (below_of_grownBy HB.out hG2 hb1)
      clear hI2 hG2
      generalize x / 2 ^ (30 - m) = y at *
      have K := hid (Int64_any w2 bx y I2.out (by omega) (by omega))
      by_cases hc : 2147483647 ≤ y
      · have HV2 := hid (show powV (m : Nat) f = 2147483647 by rw [HV.out, if_pos hc])
        clear HV
        go_wp2_with (go_at_call 41; (with_reducible refine K.out.mono ?_); rintro e w' ⟨rfl, rfl⟩)
        all_goals
          go_ret2
          exact ⟨by rw [HV2.out]; first | rfl | exact ret2i (a := y) (by omega), B2.out⟩
      · have HV2 := hid (show powV (m : Nat) f = y by rw [HV.out, if_neg hc])
        have g1 : y < 2147483647 := by omega
        clear HV hc
        go_wp2_with (go_at_call 41; (with_reducible refine K.out.mono ?_); rintro e w' ⟨rfl, rfl⟩)
        all_goals
          go_ret2
          exact ⟨by rw [HV2.out]; first | rfl | exact ret2i (a := y) (by omega), B2.out⟩

set_option maxHeartbeats 1000000 in
theorem refPow_any (n f : Int) (w : World) (T : TabS w 1 rootsL) :
    Calls Tryd.prog 13 #[.int .i64 n, .int .i64 f] w (PowAns w n f) := by
  by_cases h : (0 ≤ n ∧ n ≤ 30) ∧ 0 ≤ f ∧ f ≤ 32767
  · have hb : powB n f = true := by unfold powB; simpa using h
    unfold PowAns
    rw [hb]
    exact refPow_in n f w T h.1.1 h.1.2 h.2.1 h.2.2
  · have hb : powB n f = false := by unfold powB; simpa using h
    have hv : powV n f = 0 := by unfold powV; rw [hb]; rfl
    have FIN := hid (show PowAns w n f (.returned (.tuple #[.int .i64 0, .int .i64 2])) w from ⟨by rw [hb, hv]; rfl, Below.refl _ _⟩)
    clear hb hv T
    by_cases h1 : n < 0
    · clear h
      go_enter Tryd.func13, Tryd.ntmps13
      go_wp2
      go_ret2
      exact FIN.out
    by_cases h2 : 30 < n
    · clear h
      go_enter Tryd.func13, Tryd.ntmps13
      go_wp2
      go_ret2
      exact FIN.out
    by_cases h3 : f < 0
    · clear h
      go_enter Tryd.func13, Tryd.ntmps13
      go_wp2
      go_ret2
      exact FIN.out
    have h4 : 32767 < f := by omega
    clear h
    go_enter Tryd.func13, Tryd.ntmps13
    go_wp2
    go_ret2
    exact FIN.out

def GlAns (w : World) (n : Int) (e : Ending) (w' : World) : Prop := e = .returned (.tuple #[.int .i64 (glV n), .int .i64 (errOf (glB n))]) ∧ Below w.heap.size w w'
set_option maxHeartbeats 1000000 in
theorem refGainLevel_any (n : Int) (w : World) (T : TabS w 1 rootsL) :
    Calls Tryd.prog 15 #[.int .i64 n] w (GlAns w n) := by
  by_cases h : n < 0 ∨ 31 < n
  · have FIN := hid (show GlAns w n (.returned (.tuple #[.int .i64 0, .int .i64 2])) w from ⟨by rw [show glV n = 0 by unfold glV; rw [glB_no h]; rfl, glB_no h]; rfl, Below.refl _ _⟩)
    clear T
    rcases h with h | h
    · go_enter Tryd.func15, Tryd.ntmps15
      go_wp2
      go_ret2
      exact FIN.out
    · have h2 : ¬ n < 0 := by omega
      go_enter Tryd.func15, Tryd.ntmps15
      go_wp2
      go_ret2
      exact FIN.out
  · have l1 : 0 ≤ n := by omega
    have l2 : n ≤ 31 := by omega
    have l3 : ¬ n < 0 := by omega
    have l4 : ¬ 31 < n := by omega
    have K := refPow_any ((24 + 3 * n) / 8) ((24 + 3 * n) % 8 * 4096) w T
    have hv : powV ((24 + 3 * n) / 8) ((24 + 3 * n) % 8 * 4096) = glV n := by unfold glV; rw [glB_yes l1 l2]; rfl
    unfold PowAns at K
    rw [powB_gl l1 l2, hv] at K
    have HF := hid (fun (w' : World) (h : Below w.heap.size w w') => show GlAns w n (.returned (.tuple #[.int .i64 (glV n), .int .i64 0])) w' from ⟨by rw [glB_yes l1 l2]; rfl, h⟩)
    have K' := hid K
    clear hv T h K
    go_enter Tryd.func15, Tryd.ntmps15
    go_wp2_with (go_at_call 13; (with_reducible refine K'.out.mono ?_); rintro e w' ⟨rfl, hB⟩; have B1 := hid hB; clear hB)
    go_ret2
    exact HF.out _ B1.out

set_option maxHeartbeats 1000000 in
theorem walkDualPows (w : World) (T0 : TabA w 0 rootsL) (T1 : TabS w 1 rootsL) (n : Int) (_ : -9223372036854775808 ≤ n ∧ n ≤ 9223372036854775807) (f : Int) (_ : -9223372036854775808 ≤ f ∧ f ≤ 9223372036854775807) :
    Calls Tryd.prog 3 #[.int .i64 n, .int .i64 f] w fun e w' => e = .returned (.bool true) ∧ Below w.heap.size w w' := by
  have K1 := hid (dualPow_any n f w T0)
  have K2 := refPow_any n f w T1
  unfold PowAns at K2
  have K2 := hid K2
  have K3 := hid (fun w' (h : Below w.heap.size w w') => dualPow_any 3 0 w' (T0.below' h (Nat.le_refl _)))
  have h3 : powV 3 0 = 8 := by decide
  rw [h3] at K3
  clear h3 T0 T1
  generalize powV n f = v at *
  generalize errOf (powB n f) = er at *
  generalize errOf (powB 3 0) = er3 at *
  go_enter Tryd.func3, Tryd.ntmps3
  go_wp2_with (go_at_call 12; (with_reducible refine K1.out.mono ?_); rintro e w' ⟨rfl, rfl⟩)
  refine K2.out.mono ?_
  rintro e w1 ⟨rfl, hB⟩
  have B1 := hid hB
  clear hB
  go_wp2_with (go_at_call 12; (with_reducible refine (K3.out w1 B1.out).mono ?_); rintro e w' ⟨rfl, rfl⟩)
  go_ret
  exact ⟨rfl, B1.out⟩
set_option maxHeartbeats 1000000 in
theorem walkGainLevels (w : World) (T0 : TabA w 0 rootsL) (T1 : TabS w 1 rootsL) (n : Int) (_ : -9223372036854775808 ≤ n ∧ n ≤ 9223372036854775807) :
    Calls Tryd.prog 4 #[.int .i64 n] w fun e w' => e = .returned (.bool true) ∧ Below w.heap.size w w' := by
  have K1 := hid (gainLevel_any n w T0)
  have K2 := refGainLevel_any n w T1
  unfold GlAns at K2
  have K2 := hid K2
  have K3 := hid (fun w' (h : Below w.heap.size w w') => gainLevel_any 0 w' (T0.below' h (Nat.le_refl _)))
  have h3 : glV 0 = 8 := by decide +kernel
  rw [h3] at K3
  clear h3 T0 T1
  generalize glV n = v at *
  generalize errOf (glB n) = er at *
  generalize errOf (glB 0) = er3 at *
  go_enter Tryd.func4, Tryd.ntmps4
  go_wp2_with (go_at_call 14; (with_reducible refine K1.out.mono ?_); rintro e w' ⟨rfl, rfl⟩)
  refine K2.out.mono ?_
  rintro e w1 ⟨rfl, hB⟩
  have B1 := hid hB
  clear hB
  go_wp2_with (go_at_call 14; (with_reducible refine (K3.out w1 B1.out).mono ?_); rintro e w' ⟨rfl, rfl⟩)
  go_ret
  exact ⟨rfl, B1.out⟩
end Go.Proofs.YtnielfleokbloaaDoor
