/- The walks of Past, the program's and the reference's. -/
import Derived.Test.YtcfmipobgljbeaaSliceW
import Derived.Test.YtcfmipobgljbeaaMakeI
import Derived.Test.YtcfmipobgljbeaaPastM
import Derived.Test.YtcfmipobgljbeaaRow
namespace Go.Proofs.Ytcfmipobgljbeaa
set_option linter.unusedVariables false
set_option linter.unusedSimpArgs false
set_option maxRecDepth 100000
open Go.RowKit

/-- What a function answers that gives new numbers and an error. -/
def NewSE (w : World) (xs : List Int) (er : Int) (e : Ending) (w' : World) : Prop := ∃ A c, e = .returned (.tuple #[.slice A xs.length c, .int .i64 er]) ∧ Own w' w.heap.size A c xs ∧ Below w.heap.size w w'
theorem NewSE.none_ {w w' : World} {er : Int} (hB : Below w.heap.size w w') : NewSE w [] er (.returned (.tuple #[.slice none 0 0, .int .i64 er])) w' := ⟨none, 0, rfl, Own.nil, hB⟩

set_option maxHeartbeats 4000000 in
theorem past_any (h : List Int) (lag : Int) (w : World) (hl : h.length = 80) : Calls Try.prog 42 #[.agg (agi h), .int .i64 lag] w (NewSE w (pastL h lag) (errOf (pastB lag))) := by
  by_cases h1 : lag < 20 ∨ 79 < lag
  · rw [show pastL h lag = [] from by unfold pastL; rw [pastB_no h1]; rfl, pastB_no h1]
    have FIN := hid (NewSE.none_ (er := 2) ((Below.refl _ w).alloc (Nat.le_refl _) (.cells (agi h) 34)))
    rcases h1 with h1 | h1
    · have d1 : decide (lag < 20) = true := by simpa using h1
      go_enter Try.func42, Try.ntmps42
      go_wp2
      go_ret2
      exact FIN.out
    · have d1 : decide (lag < 20) = false := by simp; omega
      have d2 : decide (79 < lag) = true := by simpa using h1
      go_enter Try.func42, Try.ntmps42
      go_wp2
      go_ret2
      exact FIN.out
  · have hb : pastB lag = true := pastB_yes (by omega) (by omega)
    have hlen := pastL_len (h := h) hb
    obtain ⟨L, rfl⟩ := Int.eq_ofNat_of_zero_le (show 0 ≤ lag by omega)
    have hP := hid (fun j hj => pastL_get (h := h) hb j hj)
    rw [hb]
    have hL1 : 20 ≤ L := by omega
    have hL2 : L ≤ 79 := by omega
    obtain ⟨E, hE⟩ : ∃ E, E = 80 - L := ⟨_, rfl⟩
    have hEi : (80 : Int) - (L : Nat) = (E : Nat) := by omega
    have hE2 : E + L = 80 := by omega
    have A0 := hid (IB.new w 34 h)
    have d1 : decide ((L : Int) < 20) = false := by simp; omega
    have d2 : decide (79 < (L : Int)) = false := by simp; omega
    have HL := hid hl
    have HN := hid hlen
    have HE := hid hE
    clear h1 hb hl hlen hE
    go_enter Try.func42, Try.ntmps42
    go_wp2_with (at_make; refine wpList_makeI rfl _ _ rfl .i64 .i64 40 rfl rfl w.heap.size (by omega) (by simp) ?_; intro w1 hO hG; have O1 := hid hO; have A1 := hid (Blk.grown A0.out hG (by simp)); have B1 := hid (((Below.refl w.heap.size w).alloc (Nat.le_refl _) (.cells (agi h) 34)).grown hG (by simp) (by simp)); clear hO hG)
    simp only [World.size_alloc] at O1
    go_loopw [17] (fun iv wr => ∃ (k : Nat) (ys : List Int), k ≤ 40 ∧ iv = .int .i64 k ∧ Hid (ys.length = 40 ∧ ∀ j, j < k → ys.getD j 0 = pastE h L j) ∧ Hid (Own wr w.heap.size (some ⟨w.heap.size + 1, 0, none⟩) 40 ys) ∧ Hid (IB wr w.heap.size 34 h) ∧ Hid (Below w.heap.size w wr)) (fun iv _ => 40 - (intOf iv).toNat)
    case atStart => exact ⟨0, _, by omega, rfl, hid ⟨by simp, fun j h => by omega⟩, O1, A1, B1⟩
    case round =>
      clear O1 A1 B1
      obtain ⟨k, ys, hk, rfl, HY, HO, HA, HB⟩ := hrel
      by_cases hlt : k < 40
      · have co := HO.out.cell k (by rw [HY.out.1]; exact hlt)
        have fo := HO.out.frozen k
        have NO := hid (fun v => HO.out.set_ k (by rw [HY.out.1]; exact hlt) v)
        have NA := hid (fun v => Blk.far HA.out (p := ⟨w.heap.size + 1, k, none⟩) (by show w.heap.size ≠ w.heap.size + 1; omega) v)
        have NB := hid (fun v => HB.out.setCell (p := ⟨w.heap.size + 1, k, none⟩) (by show w.heap.size ≤ w.heap.size + 1; omega) v)
        have NEXT := hid (fun (v : Int) (hv : v = pastE h L k) => show Hid ((ys.set k v).length = 40 ∧ ∀ j, j < k + 1 → (ys.set k v).getD j 0 = pastE h L j) from by
          obtain ⟨q1, q3⟩ := HY.out
          refine ⟨by simpa using q1, fun j hj => ?_⟩
          by_cases he : k = j
          · subst he
            rw [get_set_same _ _ _ (by omega), hv]
          · rw [get_set_other _ _ he]
            exact q3 j (by omega))
        by_cases hlow : k < L
        · have ci := HA.out.cell (E + k) (by rw [HL.out]; omega)
          have hEk : E + k < 80 := by omega
          have HV := hid (show h.getD (E + k) 0 = pastE h L k by rw [pastE_low hlow, ← HE.out])
          generalize h.getD (E + k) 0 = x at *
          go_wp2
          go_roundw
          case rel => exact ⟨k + 1, _, by omega, by go_num, NEXT.out _ HV.out, NO.out _, hid (NA.out _), hid (NB.out _)⟩
          case measure => simp [intOf] <;> omega
        · obtain ⟨d, hd⟩ : ∃ d, k = L + d := ⟨k - L, by omega⟩
          have hsub : (k : Int) - (L : Nat) = (d : Nat) := by omega
          have cd := HO.out.cell d (by rw [HY.out.1]; omega)
          have hd40 : d < 40 := by omega
          have HV := hid (show ys.getD d 0 = pastE h L k by rw [HY.out.2 d (by omega), pastE_high (h := h) (lag := L) (i := k) (by omega), show k - L = d from by omega])
          have HD := hid hd
          clear hd
          generalize ys.getD d 0 = x at *
          go_wp2
          go_roundw
          case rel => exact ⟨k + 1, _, by omega, by go_num, NEXT.out _ HV.out, NO.out _, hid (NA.out _), hid (NB.out _)⟩
          case measure => simp [intOf] <;> omega
      · obtain rfl : k = 40 := by omega
        have HF := hid (show ys = pastL h (L : Nat) from list_ext (by rw [HY.out.1, HN.out]) (fun j hj => by rw [HY.out.2 j (by rw [HY.out.1] at hj; exact hj), hP.out j (by rw [HY.out.1] at hj; exact hj)]; rfl))
        go_wp2
        go_ret2
        exact ⟨_, _, by rw [HN.out]; rfl, by rw [← HF.out]; exact HO.out, HB.out⟩
end Go.Proofs.Ytcfmipobgljbeaa
