/- The walk of the law LpcMixes. -/
import Derived.Test.YthajpmilccpgeaaMixR
import Derived.Test.YthajpmilccpgeaaEqA
namespace Go.Proofs.Ythajpmilccpgeaa
set_option linter.unusedVariables false
set_option linter.unusedSimpArgs false
set_option maxRecDepth 100000
open Go.RowKit

set_option maxHeartbeats 4000000 in
theorem walkLpcMixes (w : World) (a : List Int) (ha : a.length = 8) (_ : W64 a) (b : List Int) (hb : b.length = 8) (_ : W64 b) (num : Int) (hn : -9223372036854775808 ≤ num ∧ num ≤ 9223372036854775807) :
    Calls Try.prog 6 #[.agg (agi a), .agg (agi b), .int .i64 num] w fun e w' => e = .returned (.bool true) ∧ Below w.heap.size w w' := by
  have K1 := hid (fun w1 => mix_any a b num w1 ha hb)
  have K2 := hid (fun w1 => refMix_any a b num w1 ha hb hn.1 hn.2)
  have K3 := hid (fun w1 => mix_any [8, 0, 0, 0, 0, 0, 0, 0] Z8 0 w1 rfl rfl)
  have hA1 := IB.new w 33 a
  have hB1 := IB.new (w.alloc (.cells (agi a) 33)) 33 b
  simp only [World.size_alloc] at hB1
  have A0 := hid (Blk.alloc hA1 (.cells (agi b) 33))
  have B0 := hid hB1
  have L0 := hid (((Below.refl _ w).alloc (Nat.le_refl _) (.cells (agi a) 33)).alloc (by simp) (.cells (agi b) 33))
  have HA := hid ha
  have HB := hid hb
  have heq := run_eql_agi Try.underlying33 (mixL a b num) (mixL_len a b num)
  have c8 : (mixL [8, 0, 0, 0, 0, 0, 0, 0] Z8 0).getD 0 0 = 8 := by decide
  have C8 := hid c8
  clear hA1 hB1 ha hb hn c8
  go_enter Try.func6, Try.ntmps6
  go_wp2_with (first
    | (refine wpList_loadI rfl 33 (.tmp 3) rfl _ 33 a 8 _ rfl A0.out Try.underlying33 rfl size8 HA.out ?_)
    | (refine wpList_loadI rfl 33 (.tmp 4) rfl _ 33 b 8 _ rfl B0.out Try.underlying33 rfl size8 HB.out ?_))
  refine (K1.out _).mono ?_
  rintro e w1 ⟨rfl, hB⟩
  have A1 := hid (Blk.stored (c2 := agi (mixL a b num)) (Blk.below' A0.out hB) (.cells (agi Z8) 33))
  have B1 := hid (Blk.stored (c2 := agi (mixL a b num)) (Blk.below' B0.out hB) (.cells (agi Z8) 33))
  have X1 := hid (IB.stored w1 33 Z8 (mixL a b num))
  have L1 := hid ((L0.out.trans (hB.mono L0.out.size)).trans ((below_stored w1 (.cells (agi Z8) 33) (agi (mixL a b num))).mono (Nat.le_trans L0.out.size hB.size)))
  clear hB A0 B0 L0
  go_wp2_with (first
    | (refine wpList_storeI rfl 33 (.tmp 7) (.tmp 18) rfl _ 33 Z8 (mixL a b num) 8 rfl rfl (IB.new w1 33 Z8) size8 rfl (mixL_len a b num) ?_)
    | (refine wpList_loadI rfl 33 (.tmp 3) rfl _ 33 a 8 _ rfl A1.out Try.underlying33 rfl size8 HA.out ?_)
    | (refine wpList_loadI rfl 33 (.tmp 4) rfl _ 33 b 8 _ rfl B1.out Try.underlying33 rfl size8 HB.out ?_))
  refine (K2.out _).mono ?_
  rintro e w2 ⟨rfl, hB⟩
  have X2 := hid (Blk.stored (c2 := agi (mixL a b num)) (Blk.below' X1.out hB) (.cells (agi Z8) 33))
  have Y2 := hid (IB.stored w2 33 Z8 (mixL a b num))
  have L2 := hid ((L1.out.trans (hB.mono L1.out.size)).trans ((below_stored w2 (.cells (agi Z8) 33) (agi (mixL a b num))).mono (Nat.le_trans L1.out.size hB.size)))
  clear hB A1 B1 X1 L1
  go_wp2_with (refine wpList_storeI rfl 33 (.tmp 9) (.tmp 25) rfl _ 33 Z8 (mixL a b num) 8 rfl rfl (IB.new w2 33 Z8) size8 rfl (mixL_len a b num) ?_)
  refine (K3.out _).mono ?_
  rintro e w3 ⟨rfl, hB⟩
  have X3 := hid (Blk.stored (c2 := agi (mixL [8, 0, 0, 0, 0, 0, 0, 0] Z8 0)) (Blk.below' X2.out hB) (.cells (agi Z8) 33))
  have Y3 := hid (Blk.stored (c2 := agi (mixL [8, 0, 0, 0, 0, 0, 0, 0] Z8 0)) (Blk.below' Y2.out hB) (.cells (agi Z8) 33))
  have c3 := IB.cell (IB.stored w3 33 Z8 (mixL [8, 0, 0, 0, 0, 0, 0, 0] Z8 0)) 0 (by rw [mixL_len]; omega)
  rw [C8.out, z8_eq] at c3
  have L3 := hid ((L2.out.trans (hB.mono L2.out.size)).trans ((below_stored w3 (.cells (agi Z8) 33) (agi (mixL [8, 0, 0, 0, 0, 0, 0, 0] Z8 0))).mono (Nat.le_trans L2.out.size hB.size)))
  clear hB X2 Y2 L2
  go_wp2_with (first
    | (refine wpList_storeI rfl 33 (.tmp 11) (.tmp 31) rfl _ 33 Z8 (mixL [8, 0, 0, 0, 0, 0, 0, 0] Z8 0) 8 rfl rfl (IB.new w3 33 Z8) size8 rfl (mixL_len _ _ _) ?_)
    | (refine wpList_loadI rfl 33 (.tmp 7) rfl _ 33 (mixL a b num) 8 _ rfl X3.out Try.underlying33 rfl size8 (mixL_len a b num) ?_)
    | (refine wpList_loadI rfl 33 (.tmp 9) rfl _ 33 (mixL a b num) 8 _ rfl Y3.out Try.underlying33 rfl size8 (mixL_len a b num) ?_))
  go_ret
  exact ⟨by simp, L3.out⟩
end Go.Proofs.Ythajpmilccpgeaa
