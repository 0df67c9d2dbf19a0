/- The walk of the reference's Noise, and of the law GainNoises. -/
import Derived.Test.YtcfmipobgljbeaaNoiseW
namespace Go.Proofs.Ytcfmipobgljbeaa
set_option linter.unusedVariables false
set_option linter.unusedSimpArgs false
set_option maxRecDepth 100000
open Go.RowKit

set_option maxHeartbeats 4000000 in
theorem refNoise_any (s z : Int) (w : World) (hs1 : -9223372036854775808 ≤ s) (hs2 : s ≤ 9223372036854775807) : Calls Try.prog 117 #[.int .i64 s, .int .i64 z] w (Noises w s z) := by
  have hr := nzS_range s
  have HX := hid (show nzX s z = (nzS s - 32768) * nzZ z / 32768 from rfl)
  have HS := hid (show (s * 31821 + 13849) % 65536 = nzS s from rfl)
  obtain ⟨y, hy⟩ : ∃ y, y = nzS s := ⟨_, rfl⟩
  rw [← hy] at hr HX HS
  have FIN := hid (fun (w1 : World) (v : Int) (hv : v = nzX s z) (hB : Below w.heap.size w w1) => show Noises w s z (.returned (.tuple #[.int .i64 y, .int .i64 v])) w1 from ⟨by rw [hv, hy], hB⟩)
  obtain ⟨h1, h2⟩ := hr
  have HR := hid (show (s * 31821).natAbs < 340282366920938463463374607431768211456 ∧ (s * 31821 + 13849).natAbs < 340282366920938463463374607431768211456 by omega)
  clear hy
  rcases (show (z < 0 ∧ nzZ z = 0) ∨ (0 ≤ z ∧ z ≤ 32767 ∧ nzZ z = z) ∨ (32767 < z ∧ nzZ z = 32767) by unfold nzZ; omega) with ⟨hz, e0⟩ | ⟨hz0, hz1, e0⟩ | ⟨hz, e0⟩
  · skip
    rw [e0] at HX
    clear e0
    go_enter Try.func117, Try.ntmps117
    go_wp2_with fail
    refine (whole_any _ s hs1 hs2).mono ?_
    rintro e w1 ⟨b1, rfl, hb1, hI, hB⟩
    have Z1 := hid (IntBlk.below (IntBlk.new w (.bool false) (.slice none 0 0)) hB (Nat.le_refl _))
    have I1 := hid hI
    have B1 := hid (((Below.refl _ w).alloc (Nat.le_refl _) (.cells #[.bool false, .slice none 0 0] 57)).trans (hB.mono (by simp)))
    clear hI hB
    go_wp2_with fail
    refine (NewInt_any _ 31821 (by omega) (by omega)).mono ?_
    rintro e w2 ⟨b2, rfl, hb2, hI, hB⟩
    have Z2 := hid (Z1.out.below hB (Nat.le_refl _))
    have X2 := hid (I1.out.below hB (Nat.le_refl _))
    have Y2 := hid hI
    have B2 := hid (B1.out.trans (hB.mono B1.out.size))
    clear hI hB Z1 I1 B1
    go_wp2_with fail
    refine (Mul_any _ w.heap.size b1 b2 s 31821 Z2.out X2.out Y2.out (sm_of_lt (by omega)) (sm_of_lt (by decide))).mono ?_
    rintro e w3 ⟨rfl, hI, hG⟩
    have Z3 := hid hI
    have B3 := hid (below_of_grownBy B2.out hG (Nat.le_refl _))
    clear hI hG Z2 X2 Y2 B2
    go_wp2_with fail
    refine (NewInt_any _ 13849 (by omega) (by omega)).mono ?_
    rintro e w4 ⟨b4, rfl, hb4, hI, hB⟩
    have Z4 := hid (Z3.out.below hB (Nat.le_refl _))
    have Y4 := hid hI
    have B4 := hid (B3.out.trans (hB.mono B3.out.size))
    clear hI hB Z3 B3
    go_wp2_with fail
    refine (Add_any _ w.heap.size w.heap.size b4 (s * 31821) 13849 Z4.out.blk Z4.out Y4.out (sm_of_lt HR.out.1) (sm_of_lt (by decide))).mono ?_
    rintro e w5 ⟨rfl, hI, hG⟩
    have Z5 := hid hI
    have B5 := hid (below_of_grownBy B4.out hG (Nat.le_refl _))
    clear hI hG Z4 Y4 B4
    go_wp2_with fail
    refine (NewInt_any _ 65536 (by omega) (by omega)).mono ?_
    rintro e w6 ⟨b6, rfl, hb6, hI, hB⟩
    have Z6 := hid (Z5.out.below hB (Nat.le_refl _))
    have Y6 := hid hI
    have B6 := hid (B5.out.trans (hB.mono B5.out.size))
    clear hI hB Z5 B5
    go_wp2_with fail
    refine (Mod_any _ w.heap.size w.heap.size b6 (s * 31821 + 13849) 65536 Z6.out.blk Z6.out Y6.out (.inr (by decide)) (sm_of_lt HR.out.2) (by decide) (by decide)).mono ?_
    rintro e w7 ⟨rfl, hI, hG⟩
    rw [HS.out] at hI
    have Z7 := hid hI
    have B7 := hid (below_of_grownBy B6.out hG (Nat.le_refl _))
    clear hI hG Z6 Y6 B6
    go_wp2_with fail
    refine (Int64_any _ w.heap.size y Z7.out (by omega) (by omega)).mono ?_
    rintro e w8 ⟨rfl, rfl⟩
    obtain ⟨m1, m2⟩ := nz_prod (b := 0) h1 h2 (by omega) (by omega)
    have HQ := hid HX.out.symm
    go_wp2_with fail
    refine (down_at _ 15 32768 (nzX s z) _ (by first | exact Int.le_trans (by decide) m1 | omega) (by first | exact Int.le_trans m2 (by decide) | omega) (by omega) (by decide) (by first | exact HQ.out | (have := HQ.out; omega))).mono ?_
    rintro e w9 ⟨rfl, hB⟩
    have B9 := hid (B7.out.trans (hB.mono B7.out.size))
    clear hB
    go_wp2
    go_ret2
    exact FIN.out _ _ rfl B9.out
  · skip
    rw [e0] at HX
    clear e0
    go_enter Try.func117, Try.ntmps117
    go_wp2_with fail
    refine (whole_any _ s hs1 hs2).mono ?_
    rintro e w1 ⟨b1, rfl, hb1, hI, hB⟩
    have Z1 := hid (IntBlk.below (IntBlk.new w (.bool false) (.slice none 0 0)) hB (Nat.le_refl _))
    have I1 := hid hI
    have B1 := hid (((Below.refl _ w).alloc (Nat.le_refl _) (.cells #[.bool false, .slice none 0 0] 57)).trans (hB.mono (by simp)))
    clear hI hB
    go_wp2_with fail
    refine (NewInt_any _ 31821 (by omega) (by omega)).mono ?_
    rintro e w2 ⟨b2, rfl, hb2, hI, hB⟩
    have Z2 := hid (Z1.out.below hB (Nat.le_refl _))
    have X2 := hid (I1.out.below hB (Nat.le_refl _))
    have Y2 := hid hI
    have B2 := hid (B1.out.trans (hB.mono B1.out.size))
    clear hI hB Z1 I1 B1
    go_wp2_with fail
    refine (Mul_any _ w.heap.size b1 b2 s 31821 Z2.out X2.out Y2.out (sm_of_lt (by omega)) (sm_of_lt (by decide))).mono ?_
    rintro e w3 ⟨rfl, hI, hG⟩
    have Z3 := hid hI
    have B3 := hid (below_of_grownBy B2.out hG (Nat.le_refl _))
    clear hI hG Z2 X2 Y2 B2
    go_wp2_with fail
    refine (NewInt_any _ 13849 (by omega) (by omega)).mono ?_
    rintro e w4 ⟨b4, rfl, hb4, hI, hB⟩
    have Z4 := hid (Z3.out.below hB (Nat.le_refl _))
    have Y4 := hid hI
    have B4 := hid (B3.out.trans (hB.mono B3.out.size))
    clear hI hB Z3 B3
    go_wp2_with fail
    refine (Add_any _ w.heap.size w.heap.size b4 (s * 31821) 13849 Z4.out.blk Z4.out Y4.out (sm_of_lt HR.out.1) (sm_of_lt (by decide))).mono ?_
    rintro e w5 ⟨rfl, hI, hG⟩
    have Z5 := hid hI
    have B5 := hid (below_of_grownBy B4.out hG (Nat.le_refl _))
    clear hI hG Z4 Y4 B4
    go_wp2_with fail
    refine (NewInt_any _ 65536 (by omega) (by omega)).mono ?_
    rintro e w6 ⟨b6, rfl, hb6, hI, hB⟩
    have Z6 := hid (Z5.out.below hB (Nat.le_refl _))
    have Y6 := hid hI
    have B6 := hid (B5.out.trans (hB.mono B5.out.size))
    clear hI hB Z5 B5
    go_wp2_with fail
    refine (Mod_any _ w.heap.size w.heap.size b6 (s * 31821 + 13849) 65536 Z6.out.blk Z6.out Y6.out (.inr (by decide)) (sm_of_lt HR.out.2) (by decide) (by decide)).mono ?_
    rintro e w7 ⟨rfl, hI, hG⟩
    rw [HS.out] at hI
    have Z7 := hid hI
    have B7 := hid (below_of_grownBy B6.out hG (Nat.le_refl _))
    clear hI hG Z6 Y6 B6
    go_wp2_with fail
    refine (Int64_any _ w.heap.size y Z7.out (by omega) (by omega)).mono ?_
    rintro e w8 ⟨rfl, rfl⟩
    obtain ⟨m1, m2⟩ := nz_prod (b := z) h1 h2 (by omega) (by omega)
    have HQ := hid HX.out.symm
    go_wp2_with fail
    refine (down_at _ 15 32768 (nzX s z) _ (by first | exact Int.le_trans (by decide) m1 | omega) (by first | exact Int.le_trans m2 (by decide) | omega) (by omega) (by decide) (by first | exact HQ.out | (have := HQ.out; omega))).mono ?_
    rintro e w9 ⟨rfl, hB⟩
    have B9 := hid (B7.out.trans (hB.mono B7.out.size))
    clear hB
    go_wp2
    go_ret2
    exact FIN.out _ _ rfl B9.out
  · skip
    rw [e0] at HX
    clear e0
    go_enter Try.func117, Try.ntmps117
    go_wp2_with fail
    refine (whole_any _ s hs1 hs2).mono ?_
    rintro e w1 ⟨b1, rfl, hb1, hI, hB⟩
    have Z1 := hid (IntBlk.below (IntBlk.new w (.bool false) (.slice none 0 0)) hB (Nat.le_refl _))
    have I1 := hid hI
    have B1 := hid (((Below.refl _ w).alloc (Nat.le_refl _) (.cells #[.bool false, .slice none 0 0] 57)).trans (hB.mono (by simp)))
    clear hI hB
    go_wp2_with fail
    refine (NewInt_any _ 31821 (by omega) (by omega)).mono ?_
    rintro e w2 ⟨b2, rfl, hb2, hI, hB⟩
    have Z2 := hid (Z1.out.below hB (Nat.le_refl _))
    have X2 := hid (I1.out.below hB (Nat.le_refl _))
    have Y2 := hid hI
    have B2 := hid (B1.out.trans (hB.mono B1.out.size))
    clear hI hB Z1 I1 B1
    go_wp2_with fail
    refine (Mul_any _ w.heap.size b1 b2 s 31821 Z2.out X2.out Y2.out (sm_of_lt (by omega)) (sm_of_lt (by decide))).mono ?_
    rintro e w3 ⟨rfl, hI, hG⟩
    have Z3 := hid hI
    have B3 := hid (below_of_grownBy B2.out hG (Nat.le_refl _))
    clear hI hG Z2 X2 Y2 B2
    go_wp2_with fail
    refine (NewInt_any _ 13849 (by omega) (by omega)).mono ?_
    rintro e w4 ⟨b4, rfl, hb4, hI, hB⟩
    have Z4 := hid (Z3.out.below hB (Nat.le_refl _))
    have Y4 := hid hI
    have B4 := hid (B3.out.trans (hB.mono B3.out.size))
    clear hI hB Z3 B3
    go_wp2_with fail
    refine (Add_any _ w.heap.size w.heap.size b4 (s * 31821) 13849 Z4.out.blk Z4.out Y4.out (sm_of_lt HR.out.1) (sm_of_lt (by decide))).mono ?_
    rintro e w5 ⟨rfl, hI, hG⟩
    have Z5 := hid hI
    have B5 := hid (below_of_grownBy B4.out hG (Nat.le_refl _))
    clear hI hG Z4 Y4 B4
    go_wp2_with fail
    refine (NewInt_any _ 65536 (by omega) (by omega)).mono ?_
    rintro e w6 ⟨b6, rfl, hb6, hI, hB⟩
    have Z6 := hid (Z5.out.below hB (Nat.le_refl _))
    have Y6 := hid hI
    have B6 := hid (B5.out.trans (hB.mono B5.out.size))
    clear hI hB Z5 B5
    go_wp2_with fail
    refine (Mod_any _ w.heap.size w.heap.size b6 (s * 31821 + 13849) 65536 Z6.out.blk Z6.out Y6.out (.inr (by decide)) (sm_of_lt HR.out.2) (by decide) (by decide)).mono ?_
    rintro e w7 ⟨rfl, hI, hG⟩
    rw [HS.out] at hI
    have Z7 := hid hI
    have B7 := hid (below_of_grownBy B6.out hG (Nat.le_refl _))
    clear hI hG Z6 Y6 B6
    go_wp2_with fail
    refine (Int64_any _ w.heap.size y Z7.out (by omega) (by omega)).mono ?_
    rintro e w8 ⟨rfl, rfl⟩
    obtain ⟨m1, m2⟩ := nz_prod (b := 32767) h1 h2 (by omega) (by omega)
    have HQ := hid HX.out.symm
    go_wp2_with fail
    refine (down_at _ 15 32768 (nzX s z) _ (by first | exact Int.le_trans (by decide) m1 | omega) (by first | exact Int.le_trans m2 (by decide) | omega) (by omega) (by decide) (by first | exact HQ.out | (have := HQ.out; omega))).mono ?_
    rintro e w9 ⟨rfl, hB⟩
    have B9 := hid (B7.out.trans (hB.mono B7.out.size))
    clear hB
    go_wp2
    go_ret2
    exact FIN.out _ _ rfl B9.out

end Go.Proofs.Ytcfmipobgljbeaa
