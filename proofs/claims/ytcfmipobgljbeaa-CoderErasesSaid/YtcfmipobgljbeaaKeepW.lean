/- Package conceal's Keep. -/
import Derived.Test.YtcfmipobgljbeaaPastW
import Derived.Test.YtcfmipobgljbeaaCopyI
import Derived.Test.YtcfmipobgljbeaaSliceW
namespace Go.Proofs.Ytcfmipobgljbeaa
set_option linter.unusedVariables false
set_option linter.unusedSimpArgs false
set_option maxRecDepth 100000
open Go.RowKit

/-! Plain facts. -/
def keepL (h x : List Int) : List Int := h.drop 40 ++ x.map s16
def keepA (h x : List Int) (n : Nat) : List Int := if n = 40 then keepL h x else List.replicate 80 0
def keepE (n : Nat) : Int := if n = 40 then 0 else 1
theorem keepL_len {h x : List Int} (hh : h.length = 80) (hx : x.length = 40) : (keepL h x).length = 80 := by unfold keepL; simp [hh, hx]
theorem keepL_lo {h x : List Int} (hh : h.length = 80) (j : Nat) (hj : j < 40) : (keepL h x).getD j 0 = h.getD (40 + j) 0 := by
  unfold keepL
  simp [List.getD_eq_getElem?_getD, List.getElem?_append_left (show j < (h.drop 40).length by simp; omega)]
theorem keepL_hi {h x : List Int} (hh : h.length = 80) (hx : x.length = 40) (j : Nat) (hj : j < 40) : (keepL h x).getD (40 + j) 0 = s16 (x.getD j 0) := by
  unfold keepL
  have hl : (h.drop 40).length = 40 := by simp [hh]
  rw [List.getD_eq_getElem?_getD, List.getElem?_append_right (by omega), hl, Nat.add_sub_cancel_left]
  simp [List.getD_eq_getElem?_getD, List.getElem?_eq_getElem (show j < x.length by omega)]
theorem keep_end {h x ys : List Int} (hh : h.length = 80) (hx : x.length = 40) (h1 : ys.length = 80) (h2 : ∀ j, j < 40 → ys.getD j 0 = h.getD (40 + j) 0) (h3 : ∀ j, j < 40 → ys.getD (40 + j) 0 = s16 (x.getD j 0)) : ys = keepL h x := by
  refine list_ext (by rw [h1, keepL_len hh hx]) (fun k hk => ?_)
  by_cases hlt : k < 40
  · rw [h2 k hlt, keepL_lo hh k hlt]
  · obtain ⟨j, rfl⟩ : ∃ j, k = 40 + j := ⟨k - 40, by omega⟩
    rw [h3 j (by omega), keepL_hi hh hx j (by omega)]
theorem keepA_len {h x : List Int} {n : Nat} (hh : h.length = 80) (hx : x.length = n) : (keepA h x n).length = 80 := by
  unfold keepA
  split
  · exact keepL_len hh (by omega)
  · simp
def Keeps (w : World) (h x : List Int) (n : Nat) (e : Ending) (w' : World) : Prop := e = .returned (.tuple #[.agg (agi (keepA h x n)), .int .i64 (keepE n)]) ∧ Below w.heap.size w w'
def Z80 : List Int := List.replicate 80 0
theorem z80_ag : Try.zeroCells34 = agi Z80 := by kernel_rfl
theorem size80k : (Try.prog.info? 34).map (·.size) = some 80 := by kernel_rfl

/-- The two boxes: the samples that are kept, the answer's. -/
structure Kx (w wr : World) (ys : List Int) : Prop where
  A : IB wr w.heap.size 34 ys
  R : IB wr (w.heap.size + 1) 34 Z80
  bel : Below w.heap.size w wr
theorem Kx.start (w : World) (h : List Int) : Kx w ((w.alloc (.cells (agi h) 34)).alloc (.cells Try.zeroCells34 34)) h := by
  have h1 := IB.new w 34 h
  have h2 := IB.new (w.alloc (.cells (agi h) 34)) 34 Z80
  simp only [World.size_alloc] at h2
  rw [z80_ag]
  exact ⟨Blk.alloc h1 _, h2, ((Below.refl _ _).alloc (Nat.le_refl _) _).alloc (by simp) _⟩
theorem Kx.set_ {w wr : World} {ys : List Int} (s : Kx w wr ys) (k : Nat) (x : Int) : Kx w (wr.setCell ⟨w.heap.size, k, none⟩ (.int .i64 x)) (ys.set k x) :=
  ⟨IB.set_ s.A k x, Blk.far s.R (by simp) _, s.bel.setCell (by simp) _⟩
theorem Kx.drew {w wr : World} {ys : List Int} (s : Kx w wr ys) : Kx w wr.drew ys := ⟨s.A, s.R, s.bel.drew⟩

set_option maxHeartbeats 4000000 in
theorem keep_any (h x : List Int) (A : Option Addr) (c n : Nat) (w : World) (hh : h.length = 80) (hr : Rs w w.heap.size A x) (hn : x.length = n) (hl : n ≤ 17592186044416) :
    Calls Try.prog 90 #[.agg (agi h), .slice A n c] w (Keeps w h x n) := by
  have hR := results_row2 (fn := Try.f90) (p := 4) (q := 5) (ty := 34) rfl
  have S0 := hid (Kx.start w h)
  have HR := hid hr
  have HN := hid hn
  have HH := hid hh
  by_cases h40 : n = 40
  · subst h40
    have FA : keepA h x 40 = keepL h x := if_pos rfl
    have KL := hid (keepL_len hh hn)
    have FA := hid FA
    have D40 := hid (show (h.drop 40).length = 40 by simp [hh])
    have HZ := hid (show h.drop 40 ++ h.drop 40 = h.take 0 ++ h.drop 40 ++ h.drop (0 + (h.drop 40).length) by simp [hh])
    have HZ1 := hid (show (h.drop 40 ++ h.drop 40).length = 80 by simp [hh])
    have HZ2 := hid (fun (j : Nat) (hj : j < 40) => show (h.drop 40 ++ h.drop 40).getD j 0 = h.getD (40 + j) 0 by
      simp [List.getD_eq_getElem?_getD, List.getElem?_append_left (show j < (h.drop 40).length by simp; omega)])
    have HD := hid (fun (j : Nat) (hj : j < 40) => show (h.drop 40).getD j 0 = h.getD (40 + j) 0 by simp [List.getD_eq_getElem?_getD])
    clear hr hn hh
    go_enter Try.func90, Try.ntmps90
    go_wp2
    go_region_law (refine step_copyI rfl (.tmp 12) (.tmp 13) 22 22 rfl Try.underlying22 w.heap.size 0 80 80 ⟨w.heap.size, 40, none⟩ 40 40 (by simp [Act.eval, Act.put]) (by simp [Act.eval, Act.put]) 34 h (h.drop 40) (h.drop 40 ++ h.drop 40) S0.out.A (by rw [D40.out]; rfl) (fun j hj => by rw [D40.out] at hj; rw [HD.out j hj, Addr.add_mid]; exact IB.cell S0.out.A (40 + j) (by rw [HH.out]; omega)) (by rw [D40.out, HH.out]; omega) HZ.out ?_)
    generalize hw4 : World.setRow _ _ _ = w4
    have S4 : Kx w w4 (h.drop 40 ++ h.drop 40) := by
      rw [← hw4]
      exact ⟨IB.setRow (Blk.drew S0.out.A) _, Blk.rowFar (Blk.drew S0.out.R) (by omega), below_setRow (Below.drew S0.out.bel) (Nat.le_refl _) _⟩
    have S4 := hid S4
    clear hw4 S0
    obtain ⟨ys0, hys0⟩ : ∃ ys0, ys0 = h.drop 40 ++ h.drop 40 := ⟨_, rfl⟩
    rw [← hys0] at S4 HZ1 HZ2
    clear hys0
    generalize ((h.length - 40 : Nat) : Int) = u14
    simp only [Exit.then]
    go_wp2
    go_loopw [17] (fun iv wr => ∃ (k : Nat) (ys : List Int), k ≤ 40 ∧ iv = .int .i64 k ∧ Hid (ys.length = 80 ∧ (∀ j, j < 40 → ys.getD j 0 = h.getD (40 + j) 0) ∧ ∀ j, j < k → ys.getD (40 + j) 0 = s16 (x.getD j 0)) ∧ Hid (Kx w wr ys)) (fun iv _ => 40 - (intOf iv).toNat)
    case atStart => exact ⟨0, _, by omega, rfl, hid ⟨HZ1.out, HZ2.out, fun j h => by omega⟩, S4⟩
    case round =>
      clear S4
      obtain ⟨k, ys, hk, rfl, HY, HS⟩ := hrel
      by_cases hlt : k < 40
      · obtain ⟨ad, rfl, _, c1⟩ := (HR.out.below HS.out.bel).at_ (k := k) (by rw [HN.out]; exact hlt)
        obtain ⟨J, hJ⟩ : ∃ J : Nat, J = 40 + k := ⟨_, rfl⟩
        obtain ⟨v, hv⟩ : ∃ v, v = x.getD k 0 := ⟨_, rfl⟩
        rw [← hv] at c1
        have co := IB.cell HS.out.A J (by rw [HY.out.1]; omega)
        have fo := Blk.frozen HS.out.A J
        have hwJ : IntKind.i64.wrap (40 + (k : Int)) = (J : Nat) := by rw [IntKind.wrap_i64]; omega
        have hJ80 : (J : Int) < 80 := by omega
        have SX := hid (HS.out.set_ J (s16 v))
        have NEXT := hid (show (ys.set J (s16 v)).length = 80 ∧ (∀ j, j < 40 → (ys.set J (s16 v)).getD j 0 = h.getD (40 + j) 0) ∧ ∀ j, j < k + 1 → (ys.set J (s16 v)).getD (40 + j) 0 = s16 (x.getD j 0) from by
          obtain ⟨q1, q2, q3⟩ := HY.out
          refine ⟨by simpa using q1, fun j hj => ?_, fun j hj => ?_⟩
          · rw [get_set_other _ _ (by omega)]; exact q2 j hj
          · by_cases he : j = k
            · subst he
              rw [← hJ, get_set_same _ _ _ (by omega), hv]
            · rw [get_set_other _ _ (by omega)]
              exact q3 j (by omega))
        clear hJ hv
        go_wp2_with (go_at_call 86; refine (concealsat_any _ _).mono ?_; rintro e w' ⟨rfl, rfl⟩)
        go_roundw
        case rel => exact ⟨k + 1, _, by omega, by go_num, NEXT, SX⟩
        case measure => simp [intOf] <;> omega
      · obtain rfl : k = 40 := by omega
        have HF := keep_end HH.out HN.out HY.out.1 HY.out.2.1 HY.out.2.2
        subst HF
        have FIN := hid (below_setRow HS.out.bel (g := w.heap.size + 1) (by omega) (agi (keepL h x)))
        have hRow := hid (IB.setRow HS.out.R (keepL h x))
        go_wp2_with (first
          | (refine wpList_loadI rfl 34 (.tmp 2) rfl _ 34 (keepL h x) 80 _ rfl HS.out.A Try.underlying34 rfl size80k KL.out ?_)
          | (refine wpList_storeI rfl 34 (.tmp 4) (.tmp 28) rfl _ 34 Z80 (keepL h x) 80 rfl rfl HS.out.R size80k rfl KL.out ?_))
        refine bodyPost_ret (v := _) (hR _ _ _ 34 (keepL h x) _ 80 rfl hRow.out Try.underlying34 rfl size80k KL.out) rfl ?_
        exact ⟨by rw [FA.out]; rfl, FIN.out⟩
  · have FA := hid (show keepA h x n = Z80 from if_neg h40)
    have FE := hid (show keepE n = 1 from if_neg h40)
    have d1 : ((n : Int) == 40) = false := by simp; omega
    have d2 : ((n : Int) != 40) = true := by simp; omega
    clear h40
    have FIN := hid (below_setRow S0.out.bel (g := w.heap.size + 1) (by omega) (agi Z80))
    have hRow := hid (IB.setRow S0.out.R Z80)
    go_enter Try.func90, Try.ntmps90
    go_wp2_with (refine wpList_storeI rfl 34 (.tmp 4) (.tmp 11) rfl _ 34 Z80 Z80 80 rfl (congrArg Value.agg z80_ag) S0.out.R size80k rfl rfl ?_)
    refine bodyPost_ret (v := _) (hR _ _ _ 34 Z80 _ 80 rfl hRow.out Try.underlying34 rfl size80k rfl) rfl ?_
    exact ⟨by rw [FA.out, FE.out]; rfl, FIN.out⟩
end Go.Proofs.Ytcfmipobgljbeaa
