/- The walk of the law PitchPasts. -/
import Derived.Test.YthajpmilccpgeaaPastR
namespace Go.Proofs.Ythajpmilccpgeaa
set_option linter.unusedVariables false
set_option linter.unusedSimpArgs false
set_option maxRecDepth 100000
open Go.RowKit

theorem size80 : (Try.prog.info? 26).map (·.size) = some 80 := by kernel_rfl
theorem pastL_le (h : List Int) (lag : Int) : (pastL h lag).length ≤ 40 := by unfold pastL; split <;> simp

set_option maxHeartbeats 4000000 in
theorem walkPitchPasts (w : World) (h : List Int) (hl : h.length = 80) (_ : W64 h) (lag : Int) (_ : -9223372036854775808 ≤ lag ∧ lag ≤ 9223372036854775807) :
    Calls Try.prog 5 #[.agg (agi h), .int .i64 lag] w fun e w' => e = .returned (.bool true) ∧ Below w.heap.size w w' := by
  have K1 := hid (fun w1 => past_any h lag w1 hl)
  have K2 := hid (fun w1 => refPast_any h lag w1 hl)
  have K3 := hid (fun w1 => past_any (List.replicate 80 0) 20 w1 (by simp))
  have A0 := hid (IB.new w 26 h)
  have L0 := hid ((Below.refl _ w).alloc (Nat.le_refl _) (.cells (agi h) 26))
  have HL := hid hl
  have h40 : (pastL (List.replicate 80 0) 20).length = 40 := by decide
  have hle := pastL_le h lag
  generalize pastL h lag = ys at *
  generalize errOf (pastB lag) = er at *
  generalize errOf (pastB 20) = er2 at *
  generalize pastL (List.replicate 80 0) 20 = zs at *
  have H40 := hid h40
  clear hl h40
  go_enter Try.func5, Try.ntmps5
  go_wp2_with (refine wpList_loadI rfl 26 (.tmp 2) rfl _ 26 h 80 _ rfl A0.out Try.underlying26 rfl size80 HL.out ?_)
  refine (K1.out _).mono ?_
  rintro e w1 ⟨P1, c1, rfl, hO, hB⟩
  have O1 := hid hO
  have A1 := hid (Blk.below' A0.out hB)
  have L1 := hid (L0.out.trans (hB.mono L0.out.size))
  clear hO hB A0 L0
  go_wp2_with (refine wpList_loadI rfl 26 (.tmp 2) rfl _ 26 h 80 _ rfl A1.out Try.underlying26 rfl size80 HL.out ?_)
  refine (K2.out _).mono ?_
  rintro e w2 ⟨P2, c2, rfl, hO, hB⟩
  have O2 := hid hO
  have R1 := hid (O1.out.below hB)
  have L2 := hid (L1.out.trans (hB.mono L1.out.size))
  clear hO hB A1 L1 O1
  go_wp2_with fail
  refine (K3.out _).mono ?_
  rintro e w3 ⟨P3, c3, rfl, hO, hB⟩
  have R2 := hid (O2.out.below hB)
  have R3 := hid (R1.out.below hB)
  have L3 := hid (L2.out.trans (hB.mono L2.out.size))
  rw [H40.out]
  clear hO hB L2 O2 R1
  go_wp2_with fail
  refine (Same_yes P1 P2 c1 c2 ys.length _ _ ys _ R3.out.reads R2.out.reads rfl (by omega)).mono ?_
  rintro e w4 ⟨rfl, hB⟩
  have L4 := hid (L3.out.trans (hB.mono L3.out.size))
  clear hB L3
  go_wp2
  go_ret
  exact ⟨by simp, L4.out⟩
end Go.Proofs.Ythajpmilccpgeaa
