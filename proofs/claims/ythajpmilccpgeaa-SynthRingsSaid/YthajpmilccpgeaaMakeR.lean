/- The walks of the reference's Make and Undo. -/
import Derived.Test.YthajpmilccpgeaaGuessR
namespace Go.Proofs.Ythajpmilccpgeaa
set_option linter.unusedVariables false
set_option linter.unusedSimpArgs false
set_option maxRecDepth 100000
open Go.RowKit

set_option maxHeartbeats 4000000 in
theorem refMake_any (a p l : List Int) (A0 : Option Addr) (c0 n : Nat) (w : World) (ha : a.length = 9) (hp : p.length = 8) (hr : Rs w w.heap.size A0 l) (hn : l.length = n) (hl : n ≤ 17592186044000) (hc : n ≤ c0) :
    Calls Try.prog 36 #[.agg (agi a), .agg (agi p), .slice A0 n c0] w (NewSP w (if goodF a p l then makeN a p l n else []) (if goodF a p l then newL p (makeN a p l n) else Z8) (errOf (goodF a p l))) := by
  have hR := results_mid3 (fn := Try.f36) (p := 6) (q := 7) (r := 8) (ty := 33) rfl
  have S0 := Sx.start w a p
  have R0 := hr.below S0.bel
  rw [z8_eq] at S0
  rw [z8_eq] at R0
  have S0 := hid S0
  have R0 := hid R0
  have HA := hid ha
  have HP := hid hp
  have HN := hid hn
  have HR := hid hr
  have KG := hid (fun (W : World) (hW : Rs W W.heap.size A0 l) => rightFilter_any a p l A0 c0 n 0 W ha hp hW hn (by omega))
  clear ha hp hn hr
  obtain ⟨Y, hY⟩ : ∃ Y, Y = (if goodF a p l then makeN a p l n else []) := ⟨_, rfl⟩
  obtain ⟨Z, hZ⟩ : ∃ Z, Z = (if goodF a p l then newL p (makeN a p l n) else Z8) := ⟨_, rfl⟩
  rw [← hY, ← hZ]
  have HYY := hid hY
  have HZZ := hid hZ
  clear hY hZ
  go_enter Try.func36, Try.ntmps36
  go_wp2_with (first
    | (refine wpList_loadI rfl 37 (.tmp 3) rfl _ 37 a 9 _ rfl S0.out.A Try.underlying37 rfl size9 HA.out ?_)
    | (refine wpList_loadI rfl 33 (.tmp 4) rfl _ 33 p 8 _ rfl S0.out.P Try.underlying33 rfl size8 HP.out ?_))
  refine (KG.out _ (R0.out.more (by simp; omega))).mono ?_
  rintro e w1 ⟨rfl, hB⟩
  have S1 := hid (S0.out.below hB)
  clear hB S0 R0 KG
  by_cases hg : goodF a p l = true
  · have HG := hid hg
    rw [hg]
    have y1 := HYY.out
    have z1 := HZZ.out
    rw [if_pos hg] at y1 z1
    have HY1 := hid y1
    have HZ1 := hid z1
    clear y1 z1
    obtain ⟨ga, gz, gp, gl⟩ : okP a = true ∧ a.getD 0 0 = 4096 ∧ all16 p = true ∧ all16 l = true := by simpa [goodF] using hg
    have GA := hid ga
    have GP := hid gp
    have GL := hid gl
    clear hg ga gz gp gl
    go_wp2
    go_loopw [9, 20] (fun ov iv wr => ∃ (k : Nat) (A : Option Addr) (c : Nat) (ys : List Int), k ≤ n ∧ iv = .int .i64 k ∧ ov = .slice A k c ∧ Hid (ys = makeN a p l k) ∧ Hid (Own wr (w.heap.size + 3) A c ys) ∧ Hid (Sx w wr a p)) (fun _ iv _ => n - (intOf iv).toNat)
    case atStart => exact ⟨0, none, 0, [], by omega, rfl, rfl, hid rfl, hid Own.nil, S1⟩
    case round =>
      clear S1
      obtain ⟨k, A, c, ys, hk, rfl, rfl, HY, HO, HS⟩ := hrel
      have YL := hid (show ys.length = k by rw [HY.out, makeN_len])
      by_cases hlt : k < n
      · obtain ⟨ad, rfl, hadb, c1⟩ := (HR.out.below HS.out.bel).at_ (k := k) (by rw [HN.out]; exact hlt)
        have xb := all16_at GL.out k
        have YT := hid (show ys.take k = ys from List.take_of_length_le (by rw [YL.out]; exact Nat.le_refl _))
        have q16 := hid (show all16 (newL p ys) = true from newL_all _ _ GP.out (by rw [HY.out]; exact makeN_all _ _ _ _))
        have KC := hid (show k ≤ c from by have := HO.out.cap.1; rw [YL.out] at this; exact this)
        have YN := hid (show ys ++ [s16 (l.getD k 0 - guessL a (newL p ys))] = makeN a p l (k + 1) by rw [makeN, ← HY.out])
        obtain ⟨x, hx⟩ : ∃ x, x = l.getD k 0 := ⟨_, rfl⟩
        rw [← hx] at c1 xb YN
        have gb := guess_bound GA.out q16.out
        have K1 := hid (fun W hW => refguess_any a p ys A c k k W HA.out HP.out GA.out GP.out (by rw [HY.out]; exact makeN_all _ _ _ _) hW YL.out (by omega) (Nat.le_refl _) KC.out)
        rw [YT.out] at K1
        generalize guessL a (newL p ys) = g at *
        obtain ⟨x1, x2⟩ := xb
        obtain ⟨g1, g2⟩ := gb
        have hw1 : IntKind.i64.wrap (x - g) = x - g := by rw [IntKind.wrap_i64]; omega
        have RO := hid (HO.out.reads)
        obtain ⟨y, hy⟩ : ∃ y, y = s16 (x - g) := ⟨_, rfl⟩
        rw [← hy] at YN
        have HX := hid hx
        have KS := hid (fun W => S_any (x - g) W (by omega) (by omega))
        rw [← hy] at KS
        clear hx hy
        go_wp2_with (first
          | (refine wpList_loadI rfl 37 (.tmp 3) rfl _ 37 a 9 _ rfl HS.out.A Try.underlying37 rfl size9 HA.out ?_)
          | (refine wpList_loadI rfl 33 (.tmp 4) rfl _ 33 p 8 _ rfl HS.out.P Try.underlying33 rfl size8 HP.out ?_))
        refine (K1.out _ RO.out).mono ?_
        rintro e w2 ⟨rfl, hB⟩
        have S2 := hid (HS.out.below hB)
        have O2 := hid (HO.out.below hB)
        clear hB HS HO c1
        go_wp2_with fail
        refine (KS.out _).mono ?_
        rintro e w3 ⟨rfl, hB⟩
        have S3 := hid (S2.out.below hB)
        have O3 := hid (O2.out.below hB)
        clear hB S2 O2
        go_wp2_with (at_builtin; refine wpList_pushN rfl (.tmp 25) (.tmp 34) rfl (w.heap.size + 3) A c k ys rfl YL.out (O3.out.alloc _) ⟨w3.heap.size, 0, none⟩ y rfl (cell_new w3 _ _) (by omega) (Nat.le_trans S3.out.lt (by simp)) ?_; intro A2 c2 w5 hO hG hA; have O5 := hid hO; have G5 := hid hG; clear hO hG hA)
        have S5 := hid ((S3.out.alloc _).grown (O3.out.alloc _) G5.out)
        go_wp2
        go_roundw
        case rel => exact ⟨k + 1, A2, c2, _, by omega, by go_num, rfl, YN, O5, S5⟩
        case measure => simp [intOf] <;> omega
      · obtain rfl : k = n := by omega
        have FY := hid (show Y = ys by rw [HY1.out, HY.out])
        have KC := hid (show k ≤ c from by have := HO.out.cap.1; rw [YL.out] at this; exact this)
        have KN := hid (fun (W : World) (hW : Rs W W.heap.size A ys) => newest_any p ys A c k 0 W HP.out hW YL.out (by omega))
        have FZ := hid (show Z = newL p ys by rw [HZ1.out, HY.out])
        have ZL := hid (show (newL p ys).length = 8 from newL_len _ _ HP.out)
        have RO := hid (HO.out.reads)
        go_wp2_with (refine wpList_loadI rfl 33 (.tmp 4) rfl _ 33 p 8 _ rfl HS.out.P Try.underlying33 rfl size8 HP.out ?_)
        refine (KN.out _ RO.out).mono ?_
        rintro e w2 ⟨rfl, hB⟩
        have S2 := hid (HS.out.below hB)
        have O2 := hid (HO.out.below hB)
        clear hB HS HO
        go_wp2_with (refine wpList_storeI rfl 33 (.tmp 7) (.tmp 40) rfl _ 33 Z8 (newL p ys) 8 rfl rfl S2.out.R size8 rfl ZL.out ?_)
        refine bodyPost_ret (v := _) (hR _ _ _ 33 (newL p ys) _ 8 rfl (IB.setRow S2.out.R _) Try.underlying33 rfl size8 ZL.out) rfl ?_
        exact ⟨A, c, by rw [FY.out, FZ.out, YL.out, HG.out]; rfl, by rw [FY.out]; exact (O2.out.setRow (by omega) _).more (by omega), below_setRow S2.out.bel (by omega) _⟩
  · have hb : goodF a p l = false := by simpa using hg
    rw [hb]
    have hRow := hid (S1.out.R)
    go_wp2_with (refine wpList_storeI rfl 33 (.tmp 7) (.tmp 17) rfl _ 33 Z8 Z8 8 rfl rfl S1.out.R size8 rfl rfl ?_)
    refine bodyPost_ret (v := _) (hR _ _ _ 33 Z8 _ 8 rfl (IB.setRow S1.out.R Z8) Try.underlying33 rfl size8 rfl) rfl ?_
    have y1 := HYY.out
    have z1 := HZZ.out
    rw [if_neg hg] at y1 z1
    subst y1
    subst z1
    exact ⟨none, 0, by rw [hb]; rfl, Own.nil, below_setRow S1.out.bel (by omega) _⟩
end Go.Proofs.Ythajpmilccpgeaa
