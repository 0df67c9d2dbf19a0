/- The walks of Int.Sqrt and the reference's Root, and of the law DualRoots. -/
import Derived.Test.YtniechgbbkkncaaRootW
import Derived.Test.YtniechgbbkkncaaBigICmp
import Derived.Test.YtniechgbbkkncaaBigIMul
import Derived.Test.YtniechgbbkkncaaBigSmall
import Derived.Test.YtniechgbbkkncaaRefClip
namespace Go.Proofs.Ytniechgbbkkncaa
set_option linter.unusedVariables false
set_option linter.unusedSimpArgs false
set_option maxRecDepth 100000
open Go.RowKit

theorem bitlen_sq {x : Nat} : x < 2 ^ ((bitlen x + 1) / 2 + 1) * 2 ^ ((bitlen x + 1) / 2 + 1) := by
  have h := bitlen_lt x
  rw [← Nat.pow_add]
  exact Nat.lt_of_lt_of_le h (Nat.pow_le_pow_right (by decide) (by omega))

set_option maxHeartbeats 2000000 in
theorem sqrt_any (w : World) (b c x : Nat) (hb : IntBlk w b) (hc : IntAt w c (x : Int)) (hx : x < 2147483648) :
    Calls Try.prog 59 #[.pointer (some ⟨b, 0, none⟩), .pointer (some ⟨c, 0, none⟩)] w (fun e w' => ∃ r : Nat, IsRt x r ∧ Gives w b (r : Int) e w') := by
  obtain ⟨v, h0, h1, hv⟩ := hc.cells
  rw [Int.natAbs_natCast] at hv
  have hnn : decide ((x : Int) < 0) = false := by simp
  rw [hnn] at h0
  obtain ⟨L, hL⟩ : ∃ L, L = bitlen x := ⟨_, rfl⟩
  have S0 := hid (RtS.start (bitlen_sq (x := x)))
  have hL31 : L ≤ 31 := by rw [hL]; exact bitlen_le_of_lt (by omega)
  rw [← hL] at S0
  have hcl := hc.lt
  have HB := hid hb
  have HC := hid hc
  have hv1 : Nm (w.alloc (.cells #[.bool false, .slice none 0 0] 73)) v x := hv.below ((Below.refl w.heap.size w).alloc (Nat.le_refl _) _) (Nat.le_refl _)
  have KL := hid (length_any _ v x hv1 (sm_of_lt (by omega)))
  rw [← hL] at KL
  have R0 := hid (show IntAt (w.alloc (.cells #[.bool false, .slice none 0 0] 73)) w.heap.size ((0 : Nat) : Int) from ⟨.slice none 0 0, by rw [heap_alloc_new]; rfl, Nm.nil _⟩)
  have B0 := hid ((Below.refl w.heap.size w).alloc (Nat.le_refl _) (.cells #[.bool false, .slice none 0 0] 73))
  have h1' : (w.alloc (.cells #[.bool false, .slice none 0 0] 73)).cell? ⟨c, 1, none⟩ = some v := (Below.cell B0.out (p := ⟨c, 1, none⟩) hcl).trans h1
  have q1 : Int.tdiv ((L : Int) + 1) 2 = ((L + 1) / 2 : Nat) := by
    rw [Int.tdiv_eq_ediv_of_nonneg (by omega)]; omega
  clear hL hv hv1 hb hc
  have HX := hid hx
  go_enter Try.func59, Try.ntmps59
  go_wp2_with (go_at_call 90; (with_reducible refine KL.out.mono ?_); rintro e w' ⟨rfl, rfl⟩)
  go_loopw [5, 6] (fun rv iv wr => ∃ (j r rb : Nat) (x6 : Int), j ≤ 17 ∧ x6 = (j : Int) - 1 ∧ rv = .pointer (some ⟨rb, 0, none⟩) ∧ iv = .int .i64 x6 ∧ Hid (RtS x j r) ∧ Hid (IntAt wr rb (r : Int)) ∧ Hid (Below w.heap.size w wr)) (fun _ iv _ => (intOf iv + 1).toNat)
  case atStart => exact ⟨(L + 1) / 2 + 1, 0, w.heap.size, ((L + 1) / 2 : Nat), by omega, by omega, rfl, rfl, S0, R0, B0⟩
  case round =>
    clear S0 R0 B0 h1' KL
    obtain ⟨j, r, rb, x6, hj, hx6, rfl, rfl, HS, HR, HBW⟩ := hrel
    cases j with
    | zero =>
      have hx0 : x6 < 0 := by omega
      have d0 : decide (0 ≤ x6) = false := by simpa using hx0
      have hr := HS.out.lt HX.out
      clear hx6
      go_wp2_with fail
      refine (Set_any _ b rb (r : Int) (HB.out.below HBW.out (Nat.le_refl _)) HR.out (sm_of_lt (by omega))).mono ?_
      rintro e w2 ⟨rfl, hI, hG⟩
      have I2 := hid hI
      have G2 := hid (grownBy_trans (grownBy_of_below HBW.out (Nat.le_refl _) _) hG)
      clear hI hG
      go_wp2
      go_ret
      exact ⟨r, HS.out.fin, rfl, I2.out, G2.out⟩
    | succ i =>
      obtain rfl : x6 = (i : Nat) := by omega
      have hr := HS.out.lt HX.out
      obtain ⟨m, hm⟩ := HS.out.mul
      have hpl : 2 ^ i ≤ 65536 := Nat.pow_le_pow_right (n := 2) (j := 16) (by decide) (by omega)
      have HY := hid (fun h => RtS.yes HS.out h)
      have HNO := hid (fun h => RtS.no HS.out h)
      have hi16 : i ≤ 16 := by omega
      have HM := hid hm
      have HPL := hid hpl
      clear hm hx6 hj hpl
      have A5 := hid ((Below.refl w.heap.size w).trans HBW.out)
      have szr := HBW.out.size
      have HBa := hid (HBW.out.alloc szr (.cells #[.bool false, .slice none 0 0] 73))
      have KS := hid (setBit_small (wr.alloc (.cells #[.bool false, .slice none 0 0] 73)) wr.heap.size rb r i m (IntBlk.new wr (.bool false) (.slice none 0 0)) (HR.out.below ((Below.refl _ _).alloc (Nat.le_refl _) _) (Nat.le_refl _)) HM.out (by have := HPL.out; omega) (by omega))
      go_wp2_with fail
      refine KS.out.mono ?_
      rintro e w5 ⟨rfl, hI5, hG5⟩
      have I5 := hid hI5
      have B5 := hid (below_of_grownBy HBa.out hG5 szr)
      have sz5 := I5.out.lt
      have hrl := HR.out.lt
      have R5 := hid ((HR.out.below ((Below.refl wr.heap.size wr).alloc (Nat.le_refl _) (.cells #[.bool false, .slice none 0 0] 73)) (Nat.le_refl _)).kept (IntBlk.new wr (.bool false) (.slice none 0 0)) hG5 (by omega))
      clear hI5 hG5 KS
      obtain ⟨t, ht⟩ : ∃ t, t = r + 2 ^ i := ⟨_, rfl⟩
      rw [← ht] at I5
      have ht2 : t < 200000 := by have := HPL.out; omega
      have HT := hid ht
      clear ht
      have hsq : t * t ≤ 200000 * 200000 := Nat.mul_le_mul (by omega) (by omega)
      have hcast : ((t : Int) * t).natAbs = t * t := by rw [← Int.natCast_mul, Int.natAbs_natCast]
      have SM := hid (show Sm ((t : Int) * t).natAbs by rw [hcast]; exact sm_of_lt (by omega))
      have CE := hid (show (t : Int) * t = ((t * t : Nat) : Int) by simp)
      clear hcast hsq
      go_wp2_with fail
      refine (Mul_far _ w5.heap.size wr.heap.size wr.heap.size t t (IntBlk.new w5 (.bool false) (.slice none 0 0)) (I5.out.below ((Below.refl _ _).alloc (Nat.le_refl _) _) (Nat.le_refl _)) (I5.out.below ((Below.refl _ _).alloc (Nat.le_refl _) _) (Nat.le_refl _)) (sm_of_lt (by omega)) (sm_of_lt (by omega)) (by omega) (by omega)).mono ?_
      rintro e w6 ⟨rfl, hI6, hG6⟩
      have I6 := hid hI6
      have T6 := hid ((I5.out.below ((Below.refl w5.heap.size w5).alloc (Nat.le_refl _) (.cells #[.bool false, .slice none 0 0] 73)) (Nat.le_refl _)).kept (IntBlk.new w5 (.bool false) (.slice none 0 0)) hG6 (by omega))
      have R6 := hid ((R5.out.below ((Below.refl w5.heap.size w5).alloc (Nat.le_refl _) (.cells #[.bool false, .slice none 0 0] 73)) (Nat.le_refl _)).kept (IntBlk.new w5 (.bool false) (.slice none 0 0)) hG6 (by omega))
      have B6 := hid (below_of_grownBy (B5.out.alloc (by omega) (.cells #[.bool false, .slice none 0 0] 73)) hG6 (by omega))
      clear hI6 hG6
      have KC := hid (Cmp_any w6 w5.heap.size c ((t : Int) * t) (x : Int) I6.out (HC.out.below B6.out (Nat.le_refl _)) SM.out (sm_of_lt (by have := HX.out; omega)))
      by_cases hle : t * t ≤ x
      · have hcz : cmpZ ((t : Int) * t) (x : Int) ≤ 0 := by
          rw [CE.out]; unfold cmpZ
          repeat' split
          all_goals omega
        have HST := hid (show RtS x i t by rw [HT.out]; exact HY.out (by rw [← HT.out]; exact hle))
        clear HY HNO hle
        go_wp2_with fail
        refine KC.out.mono ?_
        rintro e w7 ⟨rfl, k7, rfl⟩
        go_wp2
        go_roundw
        case rel => exact ⟨i, t, wr.heap.size, (i : Int) - 1, by omega, rfl, rfl, by first | rfl | simp, HST, hid (T6.out.drewN k7), hid (B6.out.trans ⟨rfl, rfl, rfl, Nat.le_refl _, fun _ _ => rfl⟩)⟩
        case measure => simp [intOf] <;> omega
      · have hcz : 0 < cmpZ ((t : Int) * t) (x : Int) := by
          rw [CE.out]; unfold cmpZ
          repeat' split
          all_goals omega
        have HST := hid (show RtS x i r from HNO.out (by rw [← HT.out]; exact hle))
        have HR7 := R6
        clear HY HNO hle
        go_wp2_with fail
        refine KC.out.mono ?_
        rintro e w7 ⟨rfl, k7, rfl⟩
        go_wp2
        go_roundw
        case rel => exact ⟨i, r, rb, (i : Int) - 1, by omega, rfl, rfl, by first | rfl | simp, HST, hid (HR7.out.drewN k7), hid (B6.out.trans ⟨rfl, rfl, rfl, Nat.le_refl _, fun _ _ => rfl⟩)⟩
        case measure => simp [intOf] <;> omega

set_option maxHeartbeats 1000000 in
theorem refRoot_any (a : Int) (w : World) : Calls Try.prog 21 #[.int .i64 a] w (RtA w a) := by
  by_cases h1 : a < 0
  · have FIN := hid (show ∀ w' : World, Below w.heap.size w w' → RtA w a (.returned (.tuple #[.int .i64 0, .int .i64 2])) w' from fun w' hb => ⟨hb, 0, 2, rfl, by rw [if_neg (by omega)]; exact ⟨rfl, rfl⟩⟩)
    have d1 : decide (a < 0) = true := by simpa using h1
    go_enter Try.func21, Try.ntmps21
    go_wp2
    go_ret2
    exact FIN.out _ (Below.refl _ _)
  have d1 : decide (a < 0) = false := by simpa using h1
  by_cases h2 : 2147483647 < a
  · have FIN := hid (show ∀ w' : World, Below w.heap.size w w' → RtA w a (.returned (.tuple #[.int .i64 0, .int .i64 2])) w' from fun w' hb => ⟨hb, 0, 2, rfl, by rw [if_neg (by omega)]; exact ⟨rfl, rfl⟩⟩)
    have d2 : decide (2147483647 < a) = true := by simpa using h2
    go_enter Try.func21, Try.ntmps21
    go_wp2
    go_ret2
    exact FIN.out _ (Below.refl _ _)
  have d2 : decide (2147483647 < a) = false := by simpa using h2
  obtain ⟨n, rfl⟩ := Int.eq_ofNat_of_zero_le (show 0 ≤ a by omega)
  have hn : n < 2147483648 := by omega
  have FIN := hid (show ∀ (r : Nat) (w' : World), IsRt n r → Below w.heap.size w w' → RtA w n (.returned (.tuple #[.int .i64 r, .int .i64 0])) w' from fun r w' hr hb => ⟨hb, r, 0, rfl, by rw [if_pos (by omega)]; exact ⟨rfl, by omega, by simpa using hr⟩⟩)
  have HN := hid hn
  clear h1 h2 hn
  go_enter Try.func21, Try.ntmps21
  go_wp2_with fail
  refine (whole_any _ n (by omega) (by have := HN.out; omega)).mono ?_
  rintro e w1 ⟨b1, rfl, hb1, hI1, hB1⟩
  have A1 := hid (IntBlk.below (IntBlk.new w (.bool false) (.slice none 0 0)) hB1 (Nat.le_refl _))
  have I1 := hid hI1
  have B1 := hid (((Below.refl _ w).alloc (Nat.le_refl _) _).trans (hB1.mono (by simp)))
  clear hI1 hB1
  go_wp2_with fail
  refine (sqrt_any _ w.heap.size b1 n A1.out I1.out HN.out).mono ?_
  rintro e w2 ⟨r, hr, rfl, hI2, hG2⟩
  have I2 := hid hI2
  have B2 := hid (below_of_grownBy B1.out hG2 (Nat.le_refl _))
  have hlt : r < 46341 := by
    by_cases hc : r < 46341
    · exact hc
    · have := Nat.mul_le_mul (show 46341 ≤ r by omega) (show 46341 ≤ r by omega)
      have := hr.1
      have := HN.out
      omega
  have HRT := hid hr
  clear hr hI2 hG2
  go_wp2_with fail
  refine (Int64_any w2 w.heap.size (r : Int) I2.out (by omega) (by omega)).mono ?_
  rintro e w3 ⟨rfl, rfl⟩
  go_wp2
  go_ret2
  exact FIN.out r _ HRT.out B2.out

theorem rootA_same {w1 w2 w1' w2' : World} {a : Int} {e1 e2 : Ending} (h : RtA w1 a e1 w1') (k : RtA w2 a e2 w2') : e1 = e2 := by
  obtain ⟨_, r, x, rfl, h⟩ := h
  obtain ⟨_, s, y, rfl, k⟩ := k
  split at h
  · rename_i hc
    rw [if_pos hc] at k
    obtain ⟨rfl, h1, h2⟩ := h
    obtain ⟨rfl, k1, k2⟩ := k
    have := h2.eq k2
    obtain rfl : r = s := by omega
    rfl
  · rename_i hc
    rw [if_neg hc] at k
    rw [h.1, h.2, k.1, k.2]
theorem walkDualRoots (a0 : Int) (w0 : (Lit.int .i64 a0).wf = true) (w : World) : Calls Try.prog 5 #[.int .i64 a0] w fun e w' => e = .returned (.bool true) ∧ Below w.heap.size w w' := by
  clear w0
  go_enter Try.func5, Try.ntmps5
  go_wp2_with fail
  refine (root_any a0 w).mono ?_
  intro e w1 h1
  have H1 := hid h1
  obtain ⟨hB1, r, k, rfl, _⟩ := h1
  have q1 := hid hB1
  clear hB1
  go_wp2_with fail
  refine (refRoot_any a0 w1).mono ?_
  intro e w2 h2
  have hs := rootA_same H1.out h2
  obtain ⟨hB2, r2, k2, rfl, _⟩ := h2
  injection hs with hs
  injection hs with hs
  simp only [Array.mk.injEq, List.cons.injEq, Value.int.injEq, true_and, and_true] at hs
  obtain ⟨rfl, rfl⟩ := hs
  have q2 := hid hB2
  clear hB2 H1
  go_wp2_with fail
  refine (root_any 9 w2).mono ?_
  intro e w3 h3
  obtain ⟨hB3, r3, k3, rfl, hz⟩ := h3
  have q3 := hid hB3
  rw [if_pos (by decide)] at hz
  have h9 := hz.2.2.eq (show IsRt (9 : Int).toNat 3 from ⟨by decide, by decide⟩)
  obtain rfl : r3 = 3 := by omega
  clear hB3 hz h9
  go_wp2
  go_ret
  exact ⟨by simp, (q1.out.trans (q2.out.mono q1.out.size)).trans (q3.out.mono (Nat.le_trans q1.out.size q2.out.size))⟩
end Go.Proofs.Ytniechgbbkkncaa
