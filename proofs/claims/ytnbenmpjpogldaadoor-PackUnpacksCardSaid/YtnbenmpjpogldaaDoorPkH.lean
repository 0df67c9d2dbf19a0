/- The walk of the reference's GoodPacket. -/
import Derived.Test.YtnbenmpjpogldaaDoorPkN
import Derived.Test.YtnbenmpjpogldaaDoorPkG
namespace Go.Proofs.YtnbenmpjpogldaaDoor
set_option linter.unusedVariables false
set_option linter.unusedSimpArgs false
set_option maxRecDepth 100000
open Go.RowKit

theorem size25 : (Tryd.prog.info? 28).map (·.size) = some 25 := by kernel_rfl
set_option maxHeartbeats 4000000 in
theorem refGoodP_any (ps : List Int) (w : World) (T : TabS w 0 widthL) (hl : ps.length = 25) :
    Calls Tryd.prog 7 #[.agg (agi ps)] w fun e w' => e = .returned (.bool (pkTo ps 25)) ∧ Below w.heap.size w w' := by
  have P0 := hid (IB.new w 28 ps)
  have B0 := hid ((Below.refl w.heap.size w).alloc (Nat.le_refl _) (.cells (agi ps) 28))
  have T0 := hid (T.below B0.out)
  have HL := hid hl
  clear T hl
  obtain ⟨V, hV⟩ : ∃ V, V = w.alloc (.cells (agi ps) 28) := ⟨_, rfl⟩
  rw [← hV] at P0 B0 T0
  have HV := hid hV
  clear hV
  have KN := hid (numbers_any ps V T0.out HL.out)
  go_enter Tryd.func7, Tryd.ntmps7
  go_wp2_with (first
    | (rw [← HV.out]; clear HV)
    | (refine wpList_loadI rfl 28 (.tmp 1) rfl _ 28 ps 25 _ rfl P0.out Tryd.underlying28 rfl size25 HL.out ?_)
    | (go_at_call 15; (with_reducible refine KN.out.mono ?_); rintro e w1 ⟨A1, c1, A2, c2, A3, c3, rfl, h1, h2, h3, hB⟩; have O1 := hid h1.reads; have O3 := hid h3.reads; have B1 := hid (B0.out.trans (hB.mono B0.out.size)); clear h1 h2 h3 hB))
  go_loopw [15] (fun iv wr => ∃ i : Nat, i ≤ 25 ∧ iv = .int .i64 i ∧ Hid (pkTo ps i = true) ∧ Hid (Below w1.heap.size w1 wr)) (fun iv _ => 25 - (intOf iv).toNat)
  case atStart => exact ⟨0, by omega, rfl, hid (pkTo_zero ps), hid (Below.refl _ _)⟩
  case round =>
    obtain ⟨i, hi, rfl, HP, HB⟩ := hrel
    by_cases hlt : i < 25
    · obtain ⟨ad, rfl, _, k0⟩ := (O1.out.below HB.out).at_ (k := i) (by rw [HL.out]; exact hlt)
      obtain ⟨ae, rfl, _, k1⟩ := (O3.out.below HB.out).at_ (k := i) (by rw [pkT_len]; exact hlt)
      have HN := hid (fun h => pkTo_not (ps := ps) hlt h)
      have HY := hid (fun h => pkTo_succ HP.out h)
      have HD := hid (show pkOk ps i ↔ 0 ≤ ps.getD i 0 ∧ ps.getD i 0 ≤ pkT.getD i 0 from Iff.rfl)
      generalize ps.getD i 0 = x at *
      generalize pkT.getD i 0 = t at *
      have i0 : (0 : Int) ≤ i := by omega
      have i25 : (i : Int) < 25 := by omega
      go_wp2
      by_cases hx : x < 0
      · have d0 : decide (x < 0) = true := by simpa using hx
        go_quiet (fail)
        go_wp2
        go_ret
        exact ⟨by rw [HN.out (fun h => by have := HD.out.1 h; omega)]; rfl, B1.out.trans ((HB.out.trans ((below_drN wr _).mono HB.out.size)).mono B1.out.size)⟩
      · have d0 : decide (x < 0) = false := by simpa using hx
        by_cases ht : t < x
        · have d1 : decide (t < x) = true := by simpa using ht
          go_quiet (fail)
          go_wp2
          go_ret
          exact ⟨by rw [HN.out (fun h => by have := HD.out.1 h; omega)]; rfl, B1.out.trans ((HB.out.trans ((below_drN wr _).mono HB.out.size)).mono B1.out.size)⟩
        · have d1 : decide (t < x) = false := by simpa using ht
          go_quiet (fail)
          go_wp2
          go_roundw
          case rel => exact ⟨i + 1, by omega, by go_num, hid (HY.out (HD.out.2 (by omega))), hid (HB.out.trans ((below_drN wr _).mono HB.out.size))⟩
          case measure => simp [intOf] <;> omega
    · obtain rfl : i = 25 := by omega
      go_wp2
      go_ret
      exact ⟨by rw [HP.out]; rfl, B1.out.trans (HB.out.mono B1.out.size)⟩
end Go.Proofs.YtnbenmpjpogldaaDoor
