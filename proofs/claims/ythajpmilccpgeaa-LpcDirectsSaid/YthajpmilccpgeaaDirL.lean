/- The walk of the law LpcDirects. -/
import Derived.Test.YthajpmilccpgeaaDirR
namespace Go.Proofs.Ythajpmilccpgeaa
set_option linter.unusedVariables false
set_option linter.unusedSimpArgs false
set_option maxRecDepth 100000
open Go.RowKit

set_option maxHeartbeats 4000000 in
theorem walkLpcDirects (w : World) (a : List Int) (ha : a.length = 8) (_ : W64 a) :
    Calls Try.prog 8 #[.agg (agi a)] w fun e w' => e = .returned (.bool true) ∧ Below w.heap.size w w' := by
  have K1 := hid (fun w1 => direct_any a w1 ha)
  have K2 := hid (fun w1 => refDirect_any a w1 ha)
  have K3 := hid (fun w1 => direct_any Z8 w1 rfl)
  have A0 := hid (IB.new w 33 a)
  have L0 := hid ((Below.refl _ w).alloc (Nat.le_refl _) (.cells (agi a) 33))
  have HA := hid ha
  have heq := run_eql_agi Try.underlying37 (dirL a) (dirL_len a)
  have C8 := hid (show (dirL Z8).getD 0 0 = 4096 by decide)
  clear ha
  go_enter Try.func8, Try.ntmps8
  go_wp2_with (refine wpList_loadI rfl 33 (.tmp 1) rfl _ 33 a 8 _ rfl A0.out Try.underlying33 rfl size8 HA.out ?_)
  refine (K1.out _).mono ?_
  rintro e w1 ⟨rfl, hB⟩
  have A1 := hid (Blk.stored (c2 := agi (dirL a)) (Blk.below' A0.out hB) (.cells (agi Z9) 37))
  have X1 := hid (IB.stored w1 37 Z9 (dirL a))
  have L1 := hid ((L0.out.trans (hB.mono L0.out.size)).trans ((below_stored w1 (.cells (agi Z9) 37) (agi (dirL a))).mono (Nat.le_trans L0.out.size hB.size)))
  clear hB A0 L0
  go_wp2_with (first
    | (refine wpList_storeI rfl 37 (.tmp 3) (.tmp 12) rfl _ 37 Z9 (dirL a) 9 rfl rfl (IB.new w1 37 Z9) size9 rfl (dirL_len a) ?_)
    | (refine wpList_loadI rfl 33 (.tmp 1) rfl _ 33 a 8 _ rfl A1.out Try.underlying33 rfl size8 HA.out ?_))
  refine (K2.out _).mono ?_
  rintro e w2 ⟨rfl, hB⟩
  have X2 := hid (Blk.stored (c2 := agi (dirL a)) (Blk.below' X1.out hB) (.cells (agi Z9) 37))
  have Y2 := hid (IB.stored w2 37 Z9 (dirL a))
  have L2 := hid ((L1.out.trans (hB.mono L1.out.size)).trans ((below_stored w2 (.cells (agi Z9) 37) (agi (dirL a))).mono (Nat.le_trans L1.out.size hB.size)))
  clear hB A1 X1 L1
  go_wp2_with (refine wpList_storeI rfl 37 (.tmp 5) (.tmp 17) rfl _ 37 Z9 (dirL a) 9 rfl rfl (IB.new w2 37 Z9) size9 rfl (dirL_len a) ?_)
  refine (K3.out _).mono ?_
  rintro e w3 ⟨rfl, hB⟩
  have X3 := hid (Blk.stored (c2 := agi (dirL Z8)) (Blk.below' X2.out hB) (.cells (agi Z9) 37))
  have Y3 := hid (Blk.stored (c2 := agi (dirL Z8)) (Blk.below' Y2.out hB) (.cells (agi Z9) 37))
  have c3 := IB.cell (IB.stored w3 37 Z9 (dirL Z8)) 0 (by rw [dirL_len]; omega)
  rw [C8.out, z9_eq] at c3
  have L3 := hid ((L2.out.trans (hB.mono L2.out.size)).trans ((below_stored w3 (.cells (agi Z9) 37) (agi (dirL Z8))).mono (Nat.le_trans L2.out.size hB.size)))
  clear hB X2 Y2 L2
  go_wp2_with (first
    | (refine wpList_storeI rfl 37 (.tmp 7) (.tmp 22) rfl _ 37 Z9 (dirL Z8) 9 rfl rfl (IB.new w3 37 Z9) size9 rfl (dirL_len _) ?_)
    | (refine wpList_loadI rfl 37 (.tmp 3) rfl _ 37 (dirL a) 9 _ rfl X3.out Try.underlying37 rfl size9 (dirL_len a) ?_)
    | (refine wpList_loadI rfl 37 (.tmp 5) rfl _ 37 (dirL a) 9 _ rfl Y3.out Try.underlying37 rfl size9 (dirL_len a) ?_))
  go_ret
  exact ⟨by simp, L3.out⟩
end Go.Proofs.Ythajpmilccpgeaa
