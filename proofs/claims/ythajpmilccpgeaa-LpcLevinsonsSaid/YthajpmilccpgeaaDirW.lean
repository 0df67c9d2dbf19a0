/- The walk of Direct, the program's. -/
import Derived.Test.YthajpmilccpgeaaExpW
import Derived.Test.YthajpmilccpgeaaSteadyW
namespace Go.Proofs.Ythajpmilccpgeaa
set_option linter.unusedVariables false
set_option linter.unusedSimpArgs false
set_option maxRecDepth 100000
open Go.RowKit

theorem map_range_get {n j : Nat} (f : Nat → Int) (h : j < n) : ((List.range n).map f).getD j 0 = f j := by
  rw [List.getD_eq_getElem?_getD, List.getElem?_map, List.getElem?_range h]
  rfl

def Dirs (w : World) (a : List Int) (e : Ending) (w' : World) : Prop := e = .returned (.tuple #[.agg (agi (dirL a)), .int .i64 (errOf (steadyB a))]) ∧ Below w.heap.size w w'
theorem dir_bad {w w' : World} {a : List Int} (h : steadyB a = false) (hB : Below w.heap.size w w') : Dirs w a (.returned (.tuple #[.agg (agi Z9), .int .i64 2])) w' := by
  refine ⟨?_, hB⟩
  unfold dirL errOf
  rw [h]
  rfl
theorem dir_good {w w' : World} {a ys : List Int} (h : steadyB a = true) (hl : ys.length = 9) (hy : ∀ j, j < 9 → ys.getD j 0 = ((dirN a 8).getD j 0 + 2048) / 4096) (hB : Below w.heap.size w w') : Dirs w a (.returned (.tuple #[.agg (agi ys), .int .i64 0])) w' := by
  refine ⟨?_, hB⟩
  have e : ys = dirL a := by
    apply list_ext (by rw [hl, dirL_len])
    intro j hj
    rw [hy j (by omega)]
    unfold dirL
    rw [if_pos h, map_range_get _ (show j < 9 by omega)]
  unfold errOf
  rw [h, e]
  rfl
/-- The predictor's first number. -/
def P0 : List Int := [16777216, 0, 0, 0, 0, 0, 0, 0, 0]
theorem p0_eq : agi P0 = #[.int .i64 16777216, .int .i64 0, .int .i64 0, .int .i64 0, .int .i64 0, .int .i64 0, .int .i64 0, .int .i64 0, .int .i64 0] := rfl
theorem dirN_zero (k : List Int) (j : Nat) : (dirN k 0).getD j 0 = P0.getD j 0 := by
  match j with
  | 0 => rfl
  | 1 => rfl
  | 2 => rfl
  | 3 => rfl
  | 4 => rfl
  | 5 => rfl
  | 6 => rfl
  | 7 => rfl
  | 8 => rfl
  | j + 9 => rfl
theorem dirN_get (k : List Int) (m i : Nat) (h0 : 1 ≤ i) (h : i ≤ m + 1) : (dirN k (m + 1)).getD i 0 = (dirN k m).getD i 0 + k.getD m 0 * (dirN k m).getD (m + 1 - i) 0 / 32768 := by
  rw [dirN, growL_get _ _ _ _ h, if_neg (by omega)]
theorem dirN_head (k : List Int) (m : Nat) : (dirN k (m + 1)).getD 0 0 = (dirN k m).getD 0 0 := by
  rw [dirN, growL_get _ _ _ _ (by omega), if_pos rfl]
theorem dirN_over (k : List Int) (m i : Nat) (h : m < i) : (dirN k m).getD i 0 = 0 := by
  rw [List.getD_eq_getElem?_getD, List.getElem?_eq_none (by rw [dirN_len]; omega)]; rfl
theorem dirN_bd {k : List Int} (h : ∀ i, -32768 < k.getD i 0 ∧ k.getD i 0 < 32768) {m : Nat} (hm : m ≤ 8) (i : Nat) : -4294967296 ≤ (dirN k m).getD i 0 ∧ (dirN k m).getD i 0 ≤ 4294967296 := by
  have h1 := dirN_within (k := k) (fun i => ⟨by have := h i; omega, by have := h i; omega⟩) m i
  have h2 : (2 : Nat) ^ m ≤ 2 ^ 8 := Nat.pow_le_pow_right (by decide) hm
  have h3 : ((2 ^ m : Nat) : Int) = 2 ^ m := by simp
  omega

/-- Ahead of the round i of the inner loop: the numbers below i are the next predictor's. -/
def DirMid (a ys : List Int) (m i : Nat) : Prop := ys.length = 9 ∧ ∀ j, ys.getD j 0 = if j < i then (dirN a (m + 1)).getD j 0 else (dirN a m).getD j 0
theorem DirMid.start {a ys : List Int} {m : Nat} (hl : ys.length = 9) (h : ∀ j, ys.getD j 0 = (dirN a m).getD j 0) : DirMid a ys m 1 := ⟨hl, fun j => by
  rw [h j]
  split
  · obtain rfl : j = 0 := by omega
    exact (dirN_head a m).symm
  · rfl⟩
theorem DirMid.step {a ys : List Int} {m i : Nat} (h : DirMid a ys m i) (h0 : 1 ≤ i) (hi : i ≤ m + 1) (h9 : i < 9) :
    DirMid a (ys.set i ((dirN a m).getD i 0 + a.getD m 0 * (dirN a m).getD (m + 1 - i) 0 / 32768)) m (i + 1) := by
  refine ⟨by simpa using h.1, fun j => ?_⟩
  by_cases he : i = j
  · subst he
    rw [get_set_same _ _ _ (by rw [h.1]; exact h9), if_pos (by omega), dirN_get a m i h0 hi]
  · rw [get_set_other _ _ he, h.2 j]
    by_cases hj : j < i
    · rw [if_pos hj, if_pos (by omega)]
    · rw [if_neg hj, if_neg (by omega)]
theorem DirMid.fin {a ys : List Int} {m : Nat} (h : DirMid a ys m (m + 2)) : ∀ j, ys.getD j 0 = (dirN a (m + 1)).getD j 0 := fun j => by
  rw [h.2 j]
  split
  · rfl
  · rw [dirN_over a m j (by omega), dirN_over a (m + 1) j (by omega)]

set_option maxHeartbeats 8000000 in
theorem direct_any (a : List Int) (w : World) (ha : a.length = 8) : Calls Try.prog 26 #[.agg (agi a)] w (Dirs w a) := by
  have I0 := hid (Bx2.start 33 w a)
  have hR := results_row2 (fn := Try.f26) (p := 2) (q := 3) (ty := 37) rfl
  have HA := hid ha
  have HIX := hid (fun (k : Nat) (hk : k < 8) (w : World) => run_index_agi Try.underlying33 a ha k hk w)
  have O1 := IB.new ((w.alloc (.cells (agi a) 33)).alloc (.cells (agi Z9) 37)) 37 Z9
  have I1 := hid ((I0.out.below ((Below.refl _ _).alloc (Nat.le_refl _) (.cells (agi Z9) 37))))
  simp only [World.size_alloc] at O1
  have O2 := hid (IB.setRow O1 P0)
  have I2 := hid (show Bx2 33 w ((((w.alloc (.cells (agi a) 33)).alloc (.cells (agi Z9) 37)).alloc (.cells (agi Z9) 37)).setRow (w.heap.size + 1 + 1) (agi P0)) a Z9 from
    ⟨Blk.rowFar I1.out.A (by omega), Blk.rowFar I1.out.R (by omega), below_setRow I1.out.bel (by omega) _⟩)
  have O1 := hid O1
  clear ha I0
  go_enter Try.func26, Try.ntmps26
  go_wp2_with (first
    | (refine wpList_storeI rfl 37 (.tmp 4) (.tmp 12) rfl _ 37 Z9 P0 9 rfl rfl O1.out size9 rfl rfl ?_)
    | (refine wpList_loadI rfl 33 (.tmp 1) rfl _ 33 a 8 _ rfl I2.out.A Try.underlying33 rfl size8 HA.out ?_))
  go_loop [14] (fun iv => ∃ k : Nat, k ≤ 8 ∧ iv = .int .i64 k ∧ Hid (allTo okR a k)) (fun iv => 8 - (intOf iv).toNat)
  case atStart => exact ⟨0, by omega, rfl, hid allTo.zero⟩
  case round =>
    obtain ⟨k, hk, rfl, HY⟩ := hrel
    by_cases hlt : k < 8
    · have hix := HIX.out k hlt
      obtain ⟨x, hx⟩ : ∃ x, x = a.getD k 0 := ⟨_, rfl⟩
      rw [← hx] at hix
      have HX := hid hx
      clear hx
      by_cases hbad : x ≤ -32768 ∨ 32768 ≤ x
      · have FIN := hid (dir_bad (a := a) (all_no (i := k) (by rw [HA.out]; exact hlt) (okR_no (by rw [← HX.out]; exact hbad))) (below_setRow I2.out.bel (g := w.heap.size + 1) (by omega) (agi Z9)))
        have hRow := hid (I2.out.R.setRow Z9)
        rcases hbad with b1 | b1
        · go_wp2_with (refine wpList_storeI rfl 37 (.tmp 2) (.tmp 23) rfl _ 37 Z9 Z9 9 rfl rfl I2.out.R size9 rfl rfl ?_)
          refine bodyPost_ret (v := _) (hR _ _ _ 37 Z9 _ 9 rfl hRow.out Try.underlying37 rfl size9 rfl) rfl ?_
          exact FIN.out
        · have b0 : ¬ x ≤ -32768 := by omega
          go_wp2_with (refine wpList_storeI rfl 37 (.tmp 2) (.tmp 23) rfl _ 37 Z9 Z9 9 rfl rfl I2.out.R size9 rfl rfl ?_)
          refine bodyPost_ret (v := _) (hR _ _ _ 37 Z9 _ 9 rfl hRow.out Try.underlying37 rfl size9 rfl) rfl ?_
          exact FIN.out
      · have b1 : -32768 < x := by omega
        have b2 : x < 32768 := by omega
        have HN := hid (HY.out.succ (by rw [← HX.out]; exact okR_yes b1 b2))
        clear hbad
        go_wp2
        go_round
        case rel => exact ⟨k + 1, by omega, by go_num, HN⟩
        case measure => simp [intOf] <;> omega
    · obtain rfl : k = 8 := by omega
      have sd : steadyB a = true := HY.out.all (by rw [HA.out]; exact Nat.le_refl _)
      have SD := hid sd
      have SA := hid (fun i => steadyB_at sd i)
      clear hlt sd
      go_wp2_with (refine wpList_loadI rfl 33 (.tmp 1) rfl _ 33 a 8 _ rfl I2.out.A Try.underlying33 rfl size8 HA.out ?_)
      go_loopw [26] (fun iv wr => ∃ (m : Nat) (ys : List Int), m ≤ 8 ∧ iv = .int .i64 m ∧ Hid (ys.length = 9 ∧ ∀ j, ys.getD j 0 = (dirN a m).getD j 0) ∧ Hid (Bx2 33 w wr a Z9) ∧ Hid (IB wr (w.heap.size + 1 + 1) 37 ys)) (fun iv _ => 8 - (intOf iv).toNat)
      case atStart => exact ⟨0, P0, by omega, rfl, hid ⟨rfl, fun j => (dirN_zero a j).symm⟩, I2, O2⟩
      case round =>
        clear I2 O2 O1 I1
        obtain ⟨m, ys, hm, rfl, HY, HI, HO⟩ := hrel
        obtain ⟨wo, rfl⟩ : ∃ wo : World, wo = wr := ⟨_, rfl⟩
        by_cases hlt : m < 8
        · have hix := HIX.out m hlt
          obtain ⟨q, hq⟩ : ∃ q, q = a.getD m 0 := ⟨_, rfl⟩
          rw [← hq] at hix
          have sq := SA.out m
          rw [← hq] at sq
          obtain ⟨q1, q2⟩ := sq
          have HQ := hid hq
          clear hq
          have NB := hid (IB.stored wo 37 Z9 ys)
          have OB := hid (Blk.stored (c2 := agi ys) HO.out (.cells (agi Z9) 37))
          have hne := Blk.lt HO.out
          have IB2 := hid (show Bx2 33 w ((wo.alloc (.cells (agi Z9) 37)).setRow wo.heap.size (agi ys)) a Z9 from
            ⟨Blk.stored HI.out.A _, Blk.stored HI.out.R _, HI.out.bel.trans ((below_stored wo _ _).mono (by have := HI.out.lt; omega))⟩)
          have MID := hid (DirMid.start HY.out.1 HY.out.2)
          rw [z9_eq] at NB OB IB2
          go_wp2_with (first
            | (refine wpList_loadI rfl 37 (.tmp 4) rfl _ 37 ys 9 _ rfl HO.out Try.underlying37 rfl size9 HY.out.1 ?_)
            | (refine wpList_storeI rfl 37 (.tmp 9) (.tmp 30) rfl _ 37 Z9 ys 9 rfl rfl (IB.new wo 37 Z9) size9 rfl HY.out.1 ?_))
          go_loopw [10] (fun jv wr2 => ∃ (i : Nat) (zs : List Int), 1 ≤ i ∧ i ≤ m + 2 ∧ jv = .int .i64 i ∧ Hid (DirMid a zs m i) ∧ Hid (Bx2 33 w wr2 a Z9) ∧ Hid (IB wr2 (w.heap.size + 1 + 1) 37 zs) ∧ Hid (IB wr2 wo.heap.size 37 ys)) (fun jv _ => m + 2 - (intOf jv).toNat)
          case atStart => exact ⟨1, ys, by omega, by omega, rfl, MID, IB2, OB, NB⟩
          case round =>
            clear NB OB IB2 MID
            obtain ⟨i, zs, hi1, hi2, rfl, HM, HI2, HO2, HW2⟩ := hrel
            by_cases hle : i ≤ m + 1
            · obtain ⟨d, hd⟩ : ∃ d : Nat, m + 1 = i + d := ⟨m + 1 - i, by omega⟩
              have hsub : (m : Int) + 1 - (i : Int) = (d : Nat) := by omega
              have c1 := HW2.out.cell i (by rw [HY.out.1]; omega)
              have c2 := HW2.out.cell d (by rw [HY.out.1]; omega)
              have c3 := HO2.out.cell i (by rw [HM.out.1]; omega)
              have f3 := Blk.frozen HO2.out i
              rw [HY.out.2] at c1 c2
              have bx := dirN_bd SA.out hm i
              have by' := dirN_bd SA.out hm d
              have ST := hid (HM.out.step hi1 hle (by omega))
              rw [← HQ.out, show m + 1 - i = d from by omega] at ST
              generalize (dirN a m).getD i 0 = x at *
              generalize (dirN a m).getD d 0 = y at *
              obtain ⟨bx1, bx2⟩ := bx
              obtain ⟨by1, by2⟩ := by'
              have pr := mul_bound (x := q) (X := 32768) (y := y) (Y := 4294967296) (by omega) (by omega) ⟨by omega, by omega⟩ ⟨by omega, by omega⟩
              have p1 : -140737488355328 ≤ q * y := by omega
              have p2 : q * y ≤ 140737488355328 := by omega
              have NI := hid (HI2.out.setCell (g := w.heap.size + 1 + 1) (by omega) i (.int .i64 (x + q * y / 32768))).drew
              have NO := hid (IB.set_ HO2.out i (x + q * y / 32768))
              have NW := hid (Blk.far HW2.out (p := ⟨w.heap.size + 1 + 1, i, none⟩) (by show wo.heap.size ≠ w.heap.size + 1 + 1; omega) (.int .i64 (x + q * y / 32768)))
              have hd9 : d < 9 := by omega
              have hi9 : i < 9 := by omega
              clear pr hd
              go_wp2
              go_region
              all_goals
                go_wp2
                go_roundw
                case rel => exact ⟨i + 1, _, by omega, by omega, by go_num, ST, NI, NO, NW⟩
                case measure => simp [intOf] <;> omega
            · obtain rfl : i = m + 2 := by omega
              have HF := hid (show zs.length = 9 ∧ ∀ j, zs.getD j 0 = (dirN a (m + 1)).getD j 0 from ⟨HM.out.1, HM.out.fin⟩)
              go_wp2
              go_roundw
              case rel => exact ⟨m + 1, zs, by omega, by go_num, HF, HI2, HO2⟩
              case measure => simp [intOf] <;> omega
        · obtain rfl : m = 8 := by omega
          have BD := hid (fun j => dirN_bd SA.out (show 8 ≤ 8 by omega) j)
          clear hlt
          go_wp2
          go_loopw [53] (fun iv wr => ∃ (k : Nat) (zs : List Int), k ≤ 9 ∧ iv = .int .i64 k ∧ Hid (zs.length = 9 ∧ (∀ j, j < k → zs.getD j 0 = ((dirN a 8).getD j 0 + 2048) / 4096) ∧ ∀ j, k ≤ j → zs.getD j 0 = (dirN a 8).getD j 0) ∧ Hid (Bx2 33 w wr a Z9) ∧ Hid (IB wr (w.heap.size + 1 + 1) 37 zs)) (fun iv _ => 9 - (intOf iv).toNat)
          case atStart => exact ⟨0, ys, by omega, rfl, hid ⟨HY.out.1, fun j h => by omega, fun j _ => HY.out.2 j⟩, HI, HO⟩
          case round =>
            clear HI HO HY
            obtain ⟨k, zs, hk, rfl, HY, HI, HO⟩ := hrel
            by_cases hlt : k < 9
            · have c3 := HO.out.cell k (by rw [HY.out.1]; exact hlt)
              have f3 := Blk.frozen HO.out k
              rw [HY.out.2.2 k (Nat.le_refl _)] at c3
              obtain ⟨b1, b2⟩ := BD.out k
              obtain ⟨x, hx⟩ : ∃ x, x = (dirN a 8).getD k 0 := ⟨_, rfl⟩
              rw [← hx] at c3 b1 b2
              have HX := hid hx
              clear hx
              have NEXT := hid (show Hid ((zs.set k ((x + 2048) / 4096)).length = 9 ∧ (∀ j, j < k + 1 → (zs.set k ((x + 2048) / 4096)).getD j 0 = ((dirN a 8).getD j 0 + 2048) / 4096) ∧ ∀ j, k + 1 ≤ j → (zs.set k ((x + 2048) / 4096)).getD j 0 = (dirN a 8).getD j 0) from by
                obtain ⟨q1, q3, q4⟩ := HY.out
                refine ⟨by simpa using q1, fun j hj => ?_, fun j hj => ?_⟩
                · by_cases he : k = j
                  · subst he
                    rw [get_set_same _ _ _ (by omega), HX.out]
                  · rw [get_set_other _ _ he]
                    exact q3 j (by omega)
                · rw [get_set_other _ _ (by omega)]
                  exact q4 j (by omega))
              have NI := hid (HI.out.setCell (g := w.heap.size + 1 + 1) (by omega) k (.int .i64 ((x + 2048) / 4096)))
              have NO := hid (IB.set_ HO.out k ((x + 2048) / 4096))
              go_wp2
              go_roundw
              case rel => exact ⟨k + 1, _, by omega, by go_num, NEXT.out, NI, NO⟩
              case measure => simp [intOf] <;> omega
            · obtain rfl : k = 9 := by omega
              have FIN := hid (dir_good SD.out HY.out.1 HY.out.2.1 (below_setRow HI.out.bel (g := w.heap.size + 1) (by omega) (agi zs)))
              have hRow := hid (HI.out.R.setRow zs)
              clear hlt
              go_wp2_with (first
                | (refine wpList_loadI rfl 37 (.tmp 4) rfl _ 37 zs 9 _ rfl HO.out Try.underlying37 rfl size9 HY.out.1 ?_)
                | (refine wpList_storeI rfl 37 (.tmp 2) (.tmp 64) rfl _ 37 Z9 zs 9 rfl rfl HI.out.R size9 rfl HY.out.1 ?_))
              refine bodyPost_ret (v := _) (hR _ _ _ 37 zs _ 9 rfl hRow.out Try.underlying37 rfl size9 HY.out.1) rfl ?_
              exact FIN.out
end Go.Proofs.Ythajpmilccpgeaa
