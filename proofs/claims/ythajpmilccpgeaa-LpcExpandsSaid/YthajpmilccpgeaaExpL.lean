/- The walk of the law LpcExpands. -/
import Derived.Test.YthajpmilccpgeaaExpR
namespace Go.Proofs.Ythajpmilccpgeaa
set_option linter.unusedVariables false
set_option linter.unusedSimpArgs false
set_option maxRecDepth 100000
open Go.RowKit

set_option maxHeartbeats 4000000 in
theorem walkLpcExpands (w : World) (a : List Int) (ha : a.length = 9) (_ : W64 a) (g : Int) (_ : -9223372036854775808 ≤ g ∧ g ≤ 9223372036854775807) :
    Calls Try.prog 7 #[.agg (agi a), .int .i64 g] w fun e w' => e = .returned (.bool true) ∧ Below w.heap.size w w' := by
  have K1 := hid (fun w1 => expand_any a g w1 ha)
  have K2 := hid (fun w1 => refExpand_any a g w1 ha)
  have K3 := hid (fun w1 => expand_any [4096, 0, 0, 0, 0, 0, 0, 0, 0] 0 w1 rfl)
  have A0 := hid (IB.new w 37 a)
  have L0 := hid ((Below.refl _ w).alloc (Nat.le_refl _) (.cells (agi a) 37))
  have HA := hid ha
  have heq := run_eql_agi Try.underlying37 (exL a g) (exL_len a g)
  have C8 := hid (show (exL [4096, 0, 0, 0, 0, 0, 0, 0, 0] 0).getD 0 0 = 4096 by decide)
  clear ha
  go_enter Try.func7, Try.ntmps7
  go_wp2_with (refine wpList_loadI rfl 37 (.tmp 2) rfl _ 37 a 9 _ rfl A0.out Try.underlying37 rfl size9 HA.out ?_)
  refine (K1.out _).mono ?_
  rintro e w1 ⟨rfl, hB⟩
  have A1 := hid (Blk.stored (c2 := agi (exL a g)) (Blk.below' A0.out hB) (.cells (agi Z9) 37))
  have X1 := hid (IB.stored w1 37 Z9 (exL a g))
  have L1 := hid ((L0.out.trans (hB.mono L0.out.size)).trans ((below_stored w1 (.cells (agi Z9) 37) (agi (exL a g))).mono (Nat.le_trans L0.out.size hB.size)))
  clear hB A0 L0
  go_wp2_with (first
    | (refine wpList_storeI rfl 37 (.tmp 5) (.tmp 15) rfl _ 37 Z9 (exL a g) 9 rfl rfl (IB.new w1 37 Z9) size9 rfl (exL_len a g) ?_)
    | (refine wpList_loadI rfl 37 (.tmp 2) rfl _ 37 a 9 _ rfl A1.out Try.underlying37 rfl size9 HA.out ?_))
  refine (K2.out _).mono ?_
  rintro e w2 ⟨rfl, hB⟩
  have X2 := hid (Blk.stored (c2 := agi (exL a g)) (Blk.below' X1.out hB) (.cells (agi Z9) 37))
  have Y2 := hid (IB.stored w2 37 Z9 (exL a g))
  have L2 := hid ((L1.out.trans (hB.mono L1.out.size)).trans ((below_stored w2 (.cells (agi Z9) 37) (agi (exL a g))).mono (Nat.le_trans L1.out.size hB.size)))
  clear hB A1 X1 L1
  go_wp2_with (refine wpList_storeI rfl 37 (.tmp 7) (.tmp 21) rfl _ 37 Z9 (exL a g) 9 rfl rfl (IB.new w2 37 Z9) size9 rfl (exL_len a g) ?_)
  refine (K3.out _).mono ?_
  rintro e w3 ⟨rfl, hB⟩
  have X3 := hid (Blk.stored (c2 := agi (exL [4096, 0, 0, 0, 0, 0, 0, 0, 0] 0)) (Blk.below' X2.out hB) (.cells (agi Z9) 37))
  have Y3 := hid (Blk.stored (c2 := agi (exL [4096, 0, 0, 0, 0, 0, 0, 0, 0] 0)) (Blk.below' Y2.out hB) (.cells (agi Z9) 37))
  have c3 := IB.cell (IB.stored w3 37 Z9 (exL [4096, 0, 0, 0, 0, 0, 0, 0, 0] 0)) 0 (by rw [exL_len]; omega)
  rw [C8.out, z9_eq] at c3
  have L3 := hid ((L2.out.trans (hB.mono L2.out.size)).trans ((below_stored w3 (.cells (agi Z9) 37) (agi (exL [4096, 0, 0, 0, 0, 0, 0, 0, 0] 0))).mono (Nat.le_trans L2.out.size hB.size)))
  clear hB X2 Y2 L2
  go_wp2_with (first
    | (refine wpList_storeI rfl 37 (.tmp 9) (.tmp 26) rfl _ 37 Z9 (exL [4096, 0, 0, 0, 0, 0, 0, 0, 0] 0) 9 rfl rfl (IB.new w3 37 Z9) size9 rfl (exL_len _ _) ?_)
    | (refine wpList_loadI rfl 37 (.tmp 5) rfl _ 37 (exL a g) 9 _ rfl X3.out Try.underlying37 rfl size9 (exL_len a g) ?_)
    | (refine wpList_loadI rfl 37 (.tmp 7) rfl _ 37 (exL a g) 9 _ rfl Y3.out Try.underlying37 rfl size9 (exL_len a g) ?_))
  go_ret
  exact ⟨by simp, L3.out⟩
end Go.Proofs.Ythajpmilccpgeaa
