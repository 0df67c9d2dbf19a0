/- The walk of the reference's Direct. -/
import Derived.Test.YthajpmilccpgeaaDirW
import Derived.Test.YthajpmilccpgeaaGrownW
import Derived.Test.YthajpmilccpgeaaEqA
namespace Go.Proofs.Ythajpmilccpgeaa
set_option linter.unusedVariables false
set_option linter.unusedSimpArgs false
set_option maxRecDepth 100000
open Go.RowKit

theorem own_lit1 (w : World) (v : Int) (base : Nat) (hb : base ≤ w.heap.size) : Own (w.alloc (.cells #[.int .i64 v] 3)) base (some ⟨w.heap.size, 0, none⟩) 1 [v] :=
  World.ownsRow_lit (base := base) (e := 3) (size := 1) w #[.int .i64 v] 1 hb (by unfold maxLen; omega) rfl

set_option maxHeartbeats 8000000 in
theorem refDirect_any (a : List Int) (w : World) (ha : a.length = 8) : Calls Try.prog 27 #[.agg (agi a)] w (Dirs w a) := by
  have I0 := hid (Bx2.start 33 w a)
  have hR := results_row2 (fn := Try.f27) (p := 2) (q := 3) (ty := 37) rfl
  have HA := hid ha
  have HIX := hid (fun (k : Nat) (hk : k < 8) (w : World) => run_index_agi Try.underlying33 a ha k hk w)
  have O1 := IB.new ((w.alloc (.cells (agi a) 33)).alloc (.cells (agi Z9) 37)) 37 Z9
  have I1 := hid ((I0.out.below ((Below.refl _ _).alloc (Nat.le_refl _) (.cells (agi Z9) 37))))
  simp only [World.size_alloc] at O1
  have O1 := hid O1
  have KS := hid (fun w1 => steady_any a w1 ha)
  rw [z9_eq] at O1 I1
  clear ha I0
  by_cases sd : steadyB a = true
  · have SD := hid sd
    have SA := hid (fun i => steadyB_at sd i)
    rw [sd] at KS
    clear sd
    go_enter Try.func27, Try.ntmps27
    go_wp2_with (refine wpList_loadI rfl 33 (.tmp 1) rfl _ 33 a 8 _ rfl I1.out.A Try.underlying33 rfl size8 HA.out ?_)
    refine (KS.out _).mono ?_
    rintro e w1 ⟨rfl, hB⟩
    have I2 := hid (I1.out.below hB)
    have O2 := hid (Blk.below' O1.out hB)
    clear hB O1 I1
    have G2 := hid (own_lit1 w1 16777216 w.heap.size (by have := I2.out.lt; omega))
    have I3 := hid (I2.out.below ((Below.refl _ _).alloc (Nat.le_refl _) (.cells #[.int .i64 16777216] 3)))
    have O3 := hid (Blk.alloc O2.out (.cells #[.int .i64 16777216] 3))
    go_wp2_with (refine wpList_loadI rfl 33 (.tmp 1) rfl _ 33 a 8 _ rfl I3.out.A Try.underlying33 rfl size8 HA.out ?_)
    go_loopw [5, 16] (fun av iv wr => ∃ (m n : Nat) (A : Option Addr) (c : Nat), m ≤ 8 ∧ iv = .int .i64 m ∧ av = .slice A n c ∧ Hid (n = m + 1) ∧ Hid (Own wr w.heap.size A c (dirN a m)) ∧ Hid (Bx2 33 w wr a Z9) ∧ Hid (IB wr (w.heap.size + 1 + 1) 37 Z9)) (fun _ iv _ => 8 - (intOf iv).toNat)
    case atStart => exact ⟨0, 1, _, _, by omega, rfl, rfl, hid rfl, G2, I3, O3⟩
    case round =>
      clear G2 I3 O3 I2 O2
      obtain ⟨m, n, A, c, hm, rfl, rfl, HN, HG, HI, HO⟩ := hrel
      by_cases hlt : m < 8
      · have hix := HIX.out m hlt
        obtain ⟨q, hq⟩ : ∃ q, q = a.getD m 0 := ⟨_, rfl⟩
        rw [← hq] at hix
        have sq := SA.out m
        rw [← hq] at sq
        obtain ⟨q1, q2⟩ := sq
        have KG := hid (grown_any A c (dirN a m) q n wr HG.out.reads (by rw [dirN_len, HN.out]) (by have := HN.out; omega) (by have := HN.out; omega) ⟨by omega, by omega⟩ (fun i => dirN_bd SA.out hm i))
        rw [show growL (dirN a m) q n = dirN a (m + 1) from by rw [hq, HN.out]; rfl] at KG
        clear hq
        go_wp2_with fail
        refine KG.out.mono ?_
        rintro e w2 ⟨A2, c2, rfl, hO, hB⟩
        have G4 := hid (hO.more (base' := w.heap.size) HI.out.bel.size)
        have I4 := hid (HI.out.below hB)
        have O4 := hid (Blk.below' HO.out hB)
        have el : (dirN a (m + 1)).length = m + 1 + 1 := dirN_len a (m + 1)
        rw [el]
        clear hO hB el
        go_wp2
        go_roundw
        case rel => exact ⟨m + 1, m + 2, A2, c2, by omega, by go_num, rfl, hid rfl, G4, I4, O4⟩
        case measure => simp [intOf] <;> omega
      · obtain rfl : m = 8 := by omega
        obtain rfl : n = 9 := HN.out
        obtain ⟨g, rfl, hg1, hg2⟩ := HG.out.head (by rw [dirN_len]; omega)
        have BD := hid (fun j => dirN_bd SA.out (show 8 ≤ 8 by omega) j)
        have hne : g ≠ w.heap.size + 1 + 1 := by
          obtain ⟨g', cap, cur, hA, _, _, hh, _⟩ := HG.out.form (by rw [dirN_len]; omega)
          injection hA with hA
          injection hA with hA
          subst hA
          exact Blk.ne_ (t := 3) hh HO.out (by decide)
        clear hlt
        go_wp2
        go_loopw [25] (fun iv wr => ∃ (k : Nat) (zs : List Int), k ≤ 9 ∧ iv = .int .i64 k ∧ Hid (zs.length = 9 ∧ ∀ j, j < k → zs.getD j 0 = ((dirN a 8).getD j 0 + 2048) / 4096) ∧ Hid (Own wr w.heap.size (some ⟨g, 0, none⟩) c (dirN a 8)) ∧ Hid (Bx2 33 w wr a Z9) ∧ Hid (IB wr (w.heap.size + 1 + 1) 37 zs)) (fun iv _ => 9 - (intOf iv).toNat)
        case atStart => exact ⟨0, Z9, by omega, rfl, hid ⟨rfl, fun j h => by omega⟩, HG, HI, HO⟩
        case round =>
          clear HI HO HG
          obtain ⟨k, zs, hk, rfl, HY, HG, HI, HO⟩ := hrel
          by_cases hlt : k < 9
          · have c1 := HG.out.cell k (by rw [dirN_len]; omega)
            obtain ⟨b1, b2⟩ := BD.out k
            obtain ⟨x, hx⟩ : ∃ x, x = (dirN a 8).getD k 0 := ⟨_, rfl⟩
            rw [← hx] at c1 b1 b2
            have HX := hid hx
            clear hx
            have NEXT := hid (show Hid ((zs.set k ((x + 2048) / 4096)).length = 9 ∧ ∀ j, j < k + 1 → (zs.set k ((x + 2048) / 4096)).getD j 0 = ((dirN a 8).getD j 0 + 2048) / 4096) from by
              obtain ⟨q1, q3⟩ := HY.out
              refine ⟨by simpa using q1, fun j hj => ?_⟩
              by_cases he : k = j
              · subst he
                rw [get_set_same _ _ _ (by omega), HX.out]
              · rw [get_set_other _ _ he]
                exact q3 j (by omega))
            go_wp2_with fail
            refine (down12 (x + 2048) _ (by omega) (by omega)).mono ?_
            rintro e w3 ⟨rfl, hB⟩
            have G3 := hid (HG.out.below hB)
            have I3 := hid (HI.out.below hB)
            have O3 := hid (Blk.below' HO.out hB)
            clear hB c1
            have c3 := IB.cell O3.out k (by rw [HY.out.1]; exact hlt)
            have f3 := Blk.frozen O3.out k
            have I4 := hid (I3.out.setCell (g := w.heap.size + 1 + 1) (by omega) k (.int .i64 ((x + 2048) / 4096)))
            have O4 := hid (IB.set_ O3.out k ((x + 2048) / 4096))
            have G4 := hid (G3.out.kept (row := some (w.heap.size + 1 + 1)) (w' := w3.setCell ⟨w.heap.size + 1 + 1, k, none⟩ (.int .i64 ((x + 2048) / 4096))) ⟨rfl, rfl, rfl, by simp [World.setCell], fun i _ hn => Below.heap_setCell _ _ _ i (by simpa using hn)⟩ (fun ad h => by injection h with h; subst h; simpa using hne))
            go_wp2
            go_roundw
            case rel => exact ⟨k + 1, _, by omega, by go_num, NEXT.out, G4, I4, O4⟩
            case measure => simp [intOf] <;> omega
          · obtain rfl : k = 9 := by omega
            have FIN := hid (dir_good SD.out HY.out.1 HY.out.2 (below_setRow HI.out.bel (g := w.heap.size + 1) (by omega) (agi zs)))
            have hRow := hid (HI.out.R.setRow zs)
            clear hlt
            go_wp2_with (first
              | (refine wpList_loadI rfl 37 (.tmp 4) rfl _ 37 zs 9 _ rfl HO.out Try.underlying37 rfl size9 HY.out.1 ?_)
              | (refine wpList_storeI rfl 37 (.tmp 2) (.tmp 36) rfl _ 37 Z9 zs 9 rfl rfl HI.out.R size9 rfl HY.out.1 ?_))
            refine bodyPost_ret (v := _) (hR _ _ _ 37 zs _ 9 rfl hRow.out Try.underlying37 rfl size9 HY.out.1) rfl ?_
            exact FIN.out
  · have sd' : steadyB a = false := by simpa using sd
    have FIN := hid (fun w1 => dir_bad (w := w) (w' := w1) (a := a) sd')
    rw [sd'] at KS
    clear sd sd'
    go_enter Try.func27, Try.ntmps27
    go_wp2_with (refine wpList_loadI rfl 33 (.tmp 1) rfl _ 33 a 8 _ rfl I1.out.A Try.underlying33 rfl size8 HA.out ?_)
    refine (KS.out _).mono ?_
    rintro e w1 ⟨rfl, hB⟩
    have I2 := hid (I1.out.below hB)
    have O2 := hid (Blk.below' O1.out hB)
    have hRow := hid (I2.out.R.setRow Z9)
    have F2 := hid (FIN.out _ (below_setRow I2.out.bel (g := w.heap.size + 1) (by omega) (agi Z9)))
    clear hB O1 I1
    go_wp2_with (first
      | (refine wpList_loadI rfl 37 (.tmp 4) rfl _ 37 Z9 9 _ rfl O2.out Try.underlying37 rfl size9 rfl ?_)
      | (refine wpList_storeI rfl 37 (.tmp 2) (.tmp 13) rfl _ 37 Z9 Z9 9 rfl rfl I2.out.R size9 rfl rfl ?_))
    refine bodyPost_ret (v := _) (hR _ _ _ 37 Z9 _ 9 rfl hRow.out Try.underlying37 rfl size9 rfl) rfl ?_
    exact F2.out
end Go.Proofs.Ythajpmilccpgeaa
