/- The walk of the law LpcLevinsons. -/
import Derived.Test.YthajpmilccpgeaaLevR
import Derived.Test.YthajpmilccpgeaaEqA
namespace Go.Proofs.Ythajpmilccpgeaa
set_option linter.unusedVariables false
set_option linter.unusedSimpArgs false
set_option maxRecDepth 100000
open Go.RowKit

/-- Sums of which only the first is not nought. -/
def R0 : List Int := [1073741824, 0, 0, 0, 0, 0, 0, 0, 0]
theorem lev_len (r : List Int) : ∀ (f m : Nat) (a : List Int) (e : Int) (k : List Int), (lev r f m a e k).1.length ≤ k.length + f := by
  intro f
  induction f with
  | zero => intro m a e k; simp [lev]
  | succ f ih =>
    intro m a e k
    rw [lev_step r f m a e k _ _ rfl rfl]
    split
    · simp
    · split
      · simp
      · have := ih (m + 1) (growL a ((-lacc a r m * 32768).tdiv e) m) (e - e * (-lacc a r m * 32768).tdiv e / 32768 * (-lacc a r m * 32768).tdiv e / 32768) (k ++ [(-lacc a r m * 32768).tdiv e])
        simp at this
        omega
theorem levR_len (r : List Int) : (levR r).1.length ≤ 8 := by
  unfold levR
  split
  · simp
  · have := lev_len r 8 1 [16777216] (r.getD 0 0) []
    simpa using this

set_option maxHeartbeats 4000000 in
theorem walkLpcLevinsons (w : World) (a : List Int) (ha : a.length = 9) (_ : W64 a) :
    Calls Try.prog 9 #[.agg (agi a)] w fun e w' => e = .returned (.bool true) ∧ Below w.heap.size w w' := by
  have K1 := hid (fun w1 => levinson_any a w1 ha)
  have K2 := hid (fun w1 => refLevinson_any a w1 ha)
  have K3 := hid (fun w1 => levinson_any R0 w1 rfl)
  have A0 := hid (IB.new w 37 a)
  have L0 := hid ((Below.refl _ w).alloc (Nat.le_refl _) (.cells (agi a) 37))
  have HA := hid ha
  have hfine : (levR R0).2.2 = true := by decide +kernel
  unfold Levs at K1 K2 K3
  rw [hfine] at K3
  have l1 := padTo_len (levR_len a)
  have l3 := padTo_len (levR_len R0)
  generalize padTo 8 (levR a).1 = ys at *
  generalize padTo 8 (levR R0).1 = zs at *
  generalize (levR R0).2.1 = e3 at *
  generalize (levR a).2.1 = e1 at *
  generalize (levR a).2.2 = f1 at *
  have heq := run_eql_agi Try.underlying33 ys l1
  have LY := hid l1
  have LZ := hid l3
  clear ha hfine l1 l3
  go_enter Try.func9, Try.ntmps9
  go_wp2_with (refine wpList_loadI rfl 37 (.tmp 1) rfl _ 37 a 9 _ rfl A0.out Try.underlying37 rfl size9 HA.out ?_)
  refine (K1.out _).mono ?_
  rintro e w1 ⟨rfl, hB⟩
  have A1 := hid (Blk.stored (c2 := agi ys) (Blk.below' A0.out hB) (.cells (agi Z8) 33))
  have X1 := hid (IB.stored w1 33 Z8 ys)
  have L1 := hid ((L0.out.trans (hB.mono L0.out.size)).trans ((below_stored w1 (.cells (agi Z8) 33) (agi ys)).mono (Nat.le_trans L0.out.size hB.size)))
  clear hB A0 L0
  go_wp2_with (first
    | (refine wpList_storeI rfl 33 (.tmp 3) (.tmp 15) rfl _ 33 Z8 ys 8 rfl rfl (IB.new w1 33 Z8) size8 rfl LY.out ?_)
    | (refine wpList_loadI rfl 37 (.tmp 1) rfl _ 37 a 9 _ rfl A1.out Try.underlying37 rfl size9 HA.out ?_))
  refine (K2.out _).mono ?_
  rintro e w2 ⟨rfl, hB⟩
  have X2 := hid (Blk.stored (c2 := agi ys) (Blk.below' X1.out hB) (.cells (agi Z8) 33))
  have Y2 := hid (IB.stored w2 33 Z8 ys)
  have L2 := hid ((L1.out.trans (hB.mono L1.out.size)).trans ((below_stored w2 (.cells (agi Z8) 33) (agi ys)).mono (Nat.le_trans L1.out.size hB.size)))
  clear hB A1 X1 L1
  go_wp2_with (refine wpList_storeI rfl 33 (.tmp 6) (.tmp 21) rfl _ 33 Z8 ys 8 rfl rfl (IB.new w2 33 Z8) size8 rfl LY.out ?_)
  refine (K3.out _).mono ?_
  rintro e w3 ⟨rfl, hB⟩
  have X3 := hid (Blk.stored (c2 := agi zs) (Blk.below' X2.out hB) (.cells (agi Z8) 33))
  have Y3 := hid (Blk.stored (c2 := agi zs) (Blk.below' Y2.out hB) (.cells (agi Z8) 33))
  have L3 := hid ((L2.out.trans (hB.mono L2.out.size)).trans ((below_stored w3 (.cells (agi Z8) 33) (agi zs)).mono (Nat.le_trans L2.out.size hB.size)))
  clear hB X2 Y2 L2
  go_wp2_with (first
    | (refine wpList_storeI rfl 33 (.tmp 9) (.tmp 27) rfl _ 33 Z8 zs 8 rfl rfl (IB.new w3 33 Z8) size8 rfl LZ.out ?_)
    | (refine wpList_loadI rfl 33 (.tmp 3) rfl _ 33 ys 8 _ rfl X3.out Try.underlying33 rfl size8 LY.out ?_)
    | (refine wpList_loadI rfl 33 (.tmp 6) rfl _ 33 ys 8 _ rfl Y3.out Try.underlying33 rfl size8 LY.out ?_))
  go_ret
  exact ⟨by simp, L3.out⟩
end Go.Proofs.Ythajpmilccpgeaa
