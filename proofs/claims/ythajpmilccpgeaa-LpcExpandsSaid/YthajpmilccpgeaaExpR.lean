/- The walk of the reference's Expand, and of the law LpcExpands. -/
import Derived.Test.YthajpmilccpgeaaExpW
namespace Go.Proofs.Ythajpmilccpgeaa
set_option linter.unusedVariables false
set_option linter.unusedSimpArgs false
set_option maxRecDepth 100000
open Go.RowKit

set_option maxHeartbeats 4000000 in
theorem refExpand_any (a : List Int) (g : Int) (w : World) (ha : a.length = 9) : Calls Try.prog 25 #[.agg (agi a), .int .i64 g] w (Exps w a g) := by
  have I0 := hid (Bx2.start 37 w a)
  have hR := results_row2 (fn := Try.f25) (p := 4) (q := 5) (ty := 37) rfl
  have HA := hid ha
  by_cases h1 : g < 0 ∨ 32768 < g
  · have FIN := hid (exp_bad (a := a) (g := g) (exB_g h1) (below_setRow I0.out.bel (g := w.heap.size + 1) (by omega) (agi Z9)))
    have hRow2 := hid (I0.out.R.setRow Z9)
    clear ha
    rcases h1 with h1 | h1
    · have d1 : decide (g < 0) = true := by simpa using h1
      go_enter Try.func25, Try.ntmps25
      go_wp2_with (refine wpList_storeI rfl 37 (.tmp 4) (.tmp 16) rfl _ 37 Z9 Z9 9 rfl rfl I0.out.R size9 rfl rfl ?_)
      refine bodyPost_ret (v := _) (hR _ _ _ 37 Z9 _ 9 rfl hRow2.out Try.underlying37 rfl size9 rfl) rfl ?_
      exact FIN.out
    · have d1 : decide (g < 0) = false := by simp; omega
      have d2 : decide (32768 < g) = true := by simpa using h1
      go_enter Try.func25, Try.ntmps25
      go_wp2_with (refine wpList_storeI rfl 37 (.tmp 4) (.tmp 16) rfl _ 37 Z9 Z9 9 rfl rfl I0.out.R size9 rfl rfl ?_)
      refine bodyPost_ret (v := _) (hR _ _ _ 37 Z9 _ 9 rfl hRow2.out Try.underlying37 rfl size9 rfl) rfl ?_
      exact FIN.out
  · have h0 : 0 ≤ g := by omega
    have h4 : g ≤ 32768 := by omega
    have d1 : decide (g < 0) = false := by simp; omega
    have d2 : decide (32768 < g) = false := by simp; omega
    have FX := hid (fun k => exF_range h0 h4 k)
    have I1 := hid (I0.out.below ((Below.refl _ _).alloc (Nat.le_refl _) (.cells (agi Z9) 37)))
    have O1 := IB.new ((w.alloc (.cells (agi a) 37)).alloc (.cells (agi Z9) 37)) 37 Z9
    simp only [World.size_alloc] at O1
    have O1 := hid O1
    rw [z9_eq] at I1 O1
    have HIX := hid (fun (k : Nat) (hk : k < 9) (w : World) => run_index_agi Try.underlying37 a ha k hk w)
    clear h1 ha I0
    go_enter Try.func25, Try.ntmps25
    go_wp2_with (refine wpList_loadI rfl 37 (.tmp 2) rfl _ 37 a 9 _ rfl I1.out.A Try.underlying37 rfl size9 HA.out ?_)
    go_loopw [7, 18] (fun fv iv wr => ∃ (k : Nat) (ys : List Int) (f : Int), k ≤ 9 ∧ iv = .int .i64 k ∧ fv = .int .i64 f ∧ Hid (f = exF g k ∧ ys.length = 9 ∧ allTo okA a k ∧ ∀ j, j < k → ys.getD j 0 = exE a g j) ∧ Hid (Bx2 37 w wr a Z9) ∧ Hid (IB wr (w.heap.size + 1 + 1) 37 ys)) (fun _ iv _ => 9 - (intOf iv).toNat)
    case atStart => exact ⟨0, Z9, 32768, by omega, rfl, rfl, hid ⟨rfl, rfl, allTo.zero, fun j h => by omega⟩, I1, O1⟩
    case round =>
      clear I1 O1
      obtain ⟨k, ys, f, hk, rfl, rfl, HY, HI, HO⟩ := hrel
      obtain ⟨f0, f1⟩ := FX.out k
      rw [← HY.out.1] at f0 f1
      by_cases hlt : k < 9
      · have hix := HIX.out k hlt
        obtain ⟨x, hx⟩ : ∃ x, x = a.getD k 0 := ⟨_, rfl⟩
        rw [← hx] at hix
        have HX := hid hx
        clear hx
        by_cases hbad : x < -1073741824 ∨ 1073741824 < x
        · have FIN := hid (exp_bad (a := a) (g := g) (exB_a (k := k) (by rw [HA.out]; exact hlt) (by rw [← HX.out]; exact hbad)) (below_setRow HI.out.bel (g := w.heap.size + 1) (by omega) (agi Z9)))
          have hRow := hid (HI.out.R.setRow Z9)
          rcases hbad with b1 | b1
          · go_wp2_with (refine wpList_storeI rfl 37 (.tmp 4) (.tmp 28) rfl _ 37 Z9 Z9 9 rfl rfl HI.out.R size9 rfl rfl ?_)
            refine bodyPost_ret (v := _) (hR _ _ _ 37 Z9 _ 9 rfl hRow.out Try.underlying37 rfl size9 rfl) rfl ?_
            exact FIN.out
          · have b0 : ¬ x < -1073741824 := by omega
            go_wp2_with (refine wpList_storeI rfl 37 (.tmp 4) (.tmp 28) rfl _ 37 Z9 Z9 9 rfl rfl HI.out.R size9 rfl rfl ?_)
            refine bodyPost_ret (v := _) (hR _ _ _ 37 Z9 _ 9 rfl hRow.out Try.underlying37 rfl size9 rfl) rfl ?_
            exact FIN.out
        · have b1 : -1073741824 ≤ x := by omega
          have b2 : x ≤ 1073741824 := by omega
          obtain ⟨m1, m2⟩ := ex_prod b1 b2 f0 f1
          obtain ⟨m3, m4⟩ := ex_fprod f0 f1 h0 h4
          have NEXT := hid (show Hid ((f * g + 16384) / 32768 = exF g (k + 1) ∧ (ys.set k ((x * f + 16384) / 32768)).length = 9 ∧ allTo okA a (k + 1) ∧ ∀ j, j < k + 1 → (ys.set k ((x * f + 16384) / 32768)).getD j 0 = exE a g j) from by
            obtain ⟨q0, q1, q2, q3⟩ := HY.out
            refine ⟨by rw [q0]; rfl, by simpa using q1, q2.succ (by rw [← HX.out]; exact okA_yes b1 b2), fun j hj => ?_⟩
            by_cases he : k = j
            · subst he
              rw [get_set_same _ _ _ (by omega), exE, ← HX.out, ← q0]
            · rw [get_set_other _ _ he]
              exact q3 j (by omega))
          clear hbad
          go_wp2_with fail
          refine (down_at (x * f + 16384) 15 32768 ((x * f + 16384) / 32768) _ (by omega) (by omega) (by omega) (by decide) rfl).mono ?_
          rintro e w1 ⟨rfl, hB⟩
          have I1 := hid (HI.out.below hB)
          have O1 := hid (Blk.below' HO.out hB)
          clear hB
          have co := IB.cell O1.out k (by rw [HY.out.2.1]; exact hlt)
          have fo := Blk.frozen O1.out k
          have I2 := hid (I1.out.setCell (g := w.heap.size + 1 + 1) (by omega) k (.int .i64 ((x * f + 16384) / 32768)))
          have O2 := hid (IB.set_ O1.out k ((x * f + 16384) / 32768))
          go_wp2_with fail
          refine (down_at (f * g + 16384) 15 32768 ((f * g + 16384) / 32768) _ (by omega) (by omega) (by omega) (by decide) rfl).mono ?_
          rintro e w2 ⟨rfl, hB⟩
          have I3 := hid (I2.out.below hB)
          have O3 := hid (Blk.below' O2.out hB)
          clear hB co fo
          go_wp2
          go_roundw
          case rel => exact ⟨k + 1, _, _, by omega, by go_num, rfl, NEXT.out, I3, O3⟩
          case measure => simp [intOf] <;> omega
      · obtain rfl : k = 9 := by omega
        have hg := exB_yes h0 h4 HY.out.2.2.1 HA.out
        have FIN := hid (exp_good hg HY.out.2.1 HY.out.2.2.2 (below_setRow HI.out.bel (g := w.heap.size + 1) (by omega) (agi ys)))
        have hRow := hid (HI.out.R.setRow ys)
        clear hlt hg
        go_wp2_with (first
          | (refine wpList_loadI rfl 37 (.tmp 6) rfl _ 37 ys 9 _ rfl HO.out Try.underlying37 rfl size9 HY.out.2.1 ?_)
          | (refine wpList_storeI rfl 37 (.tmp 4) (.tmp 42) rfl _ 37 Z9 ys 9 rfl rfl HI.out.R size9 rfl HY.out.2.1 ?_))
        refine bodyPost_ret (v := _) (hR _ _ _ 37 ys _ 9 rfl hRow.out Try.underlying37 rfl size9 HY.out.2.1) rfl ?_
        exact FIN.out
end Go.Proofs.Ythajpmilccpgeaa
