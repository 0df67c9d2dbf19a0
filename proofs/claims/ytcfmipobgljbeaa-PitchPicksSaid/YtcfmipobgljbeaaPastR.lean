/- The walk of the reference's Past, and of the law PitchPasts. -/
import Derived.Test.YtcfmipobgljbeaaPastW
import Derived.Test.YtcfmipobgljbeaaPushN
namespace Go.Proofs.Ytcfmipobgljbeaa
set_option linter.unusedVariables false
set_option linter.unusedSimpArgs false
set_option maxRecDepth 100000
open Go.RowKit

set_option maxHeartbeats 4000000 in
theorem refPast_any (h : List Int) (lag : Int) (w : World) (hl : h.length = 80) : Calls Try.prog 47 #[.agg (agi h), .int .i64 lag] w (NewSE w (pastL h lag) (errOf (pastB lag))) := by
  by_cases h1 : lag < 20 ∨ 79 < lag
  · rw [show pastL h lag = [] from by unfold pastL; rw [pastB_no h1]; rfl, pastB_no h1]
    have FIN := hid (NewSE.none_ (er := 2) ((Below.refl _ w).alloc (Nat.le_refl _) (.cells (agi h) 34)))
    rcases h1 with h1 | h1
    · have d1 : decide (lag < 20) = true := by simpa using h1
      go_enter Try.func47, Try.ntmps47
      go_wp2
      go_ret2
      exact FIN.out
    · have d1 : decide (lag < 20) = false := by simp; omega
      have d2 : decide (79 < lag) = true := by simpa using h1
      go_enter Try.func47, Try.ntmps47
      go_wp2
      go_ret2
      exact FIN.out
  · have hb : pastB lag = true := pastB_yes (by omega) (by omega)
    have hlen := pastL_len (h := h) hb
    obtain ⟨L, rfl⟩ := Int.eq_ofNat_of_zero_le (show 0 ≤ lag by omega)
    have hP := hid (show pastL h (L : Nat) = (List.range 40).map (pastE h L) by unfold pastL; rw [if_pos hb]; rfl)
    rw [hb]
    have hL1 : 20 ≤ L := by omega
    have hL2 : L ≤ 79 := by omega
    obtain ⟨E, hE⟩ : ∃ E, E = 80 - L := ⟨_, rfl⟩
    have hEi : (80 : Int) - (L : Nat) = (E : Nat) := by omega
    have hE2 : E + L = 80 := by omega
    have A0 := hid (IB.new w 34 h)
    have B0 := hid ((Below.refl w.heap.size w).alloc (Nat.le_refl _) (.cells (agi h) 34))
    have d1 : decide ((L : Int) < 20) = false := by simp; omega
    have d2 : decide (79 < (L : Int)) = false := by simp; omega
    have HL := hid hl
    have HN := hid hlen
    have HE := hid hE
    clear h1 hb hl hlen hE
    go_enter Try.func47, Try.ntmps47
    go_wp2
    go_loopw [6, 7] (fun ov iv wr => ∃ (k : Nat) (A : Option Addr) (c : Nat), k ≤ 40 ∧ iv = .int .i64 k ∧ ov = .slice A k c ∧ Hid (Own wr w.heap.size A c ((List.range k).map (pastE h L))) ∧ Hid (∀ ad, A = some ad → ad.block ≠ w.heap.size) ∧ Hid (IB wr w.heap.size 34 h) ∧ Hid (Below w.heap.size w wr)) (fun _ iv _ => 40 - (intOf iv).toNat)
    case atStart => exact ⟨0, none, 0, by omega, rfl, rfl, hid Own.nil, hid (fun ad h => by cases h), A0, B0⟩
    case round =>
      clear A0 B0
      obtain ⟨k, A, c, hk, rfl, rfl, HO, HX, HA, HB⟩ := hrel
      by_cases hlt : k < 40
      · have hm : k % L < L := Nat.mod_lt _ (by omega)
        obtain ⟨r, hr⟩ : ∃ r, r = k % L := ⟨_, rfl⟩
        have ci := HA.out.cell (E + r) (by rw [HL.out]; omega)
        have hEr : E + r < 80 := by omega
        have hmod : (k : Int) % (L : Nat) = (r : Nat) := by rw [hr]; simp
        have hmod2 : (k : Int).tmod (L : Nat) = (r : Nat) := by rw [Int.tmod_eq_emod_of_nonneg (by omega), hmod]
        have hL0 : ¬ ((L : Nat) : Int) = 0 := by omega
        have HV := hid (show h.getD (E + r) 0 = pastE h L k by unfold pastE; rw [← hr, ← HE.out])
        generalize h.getD (E + r) 0 = x at *
        have HR := hid hr
        clear hr
        go_wp2_with (at_builtin; refine wpList_pushN rfl (.tmp 18) (.tmp 27) rfl w.heap.size A c k ((List.range k).map (pastE h L)) rfl (by simp) (HO.out.alloc _) ⟨wr.heap.size, 0, none⟩ x rfl (cell_new wr _ _) (by omega) (Nat.le_trans HB.out.size (by simp)) ?_; intro A2 c2 w2 hO hG hA; have O2 := hid hO; have G2 := hid hG; have Y2 := hid hA; clear hO hG hA)
        have hlt2 := Blk.lt HA.out
        have N1 := hid (show Own w2 w.heap.size A2 c2 ((List.range (k + 1)).map (pastE h L)) by rw [← snoc_range, ← HV.out]; exact O2.out)
        have N2 := hid (moved_ne (g := w.heap.size) Y2.out HX.out (by simp; omega))
        have N3 := hid (Blk.grownA (Blk.alloc HA.out _) G2.out HX.out)
        have N4 := hid (below_grown (HB.out.alloc HB.out.size _) (HO.out.alloc _) G2.out (Nat.le_trans HB.out.size (by simp)))
        go_wp2
        go_roundw
        case rel => exact ⟨k + 1, A2, c2, by omega, by go_num, rfl, N1, N2, N3, N4⟩
        case measure => simp [intOf] <;> omega
      · obtain rfl : k = 40 := by omega
        go_wp2
        go_ret2
        exact ⟨_, _, by rw [HN.out]; rfl, by rw [hP.out]; exact HO.out, HB.out⟩
end Go.Proofs.Ytcfmipobgljbeaa
