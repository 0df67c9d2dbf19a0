/- The walks of the ring: what a filter at rest makes of a single 4096. -/
import Derived.Test.YthajpmilccpgeaaMakeR
import Derived.Test.YthajpmilccpgeaaMakeI
import Derived.Test.YthajpmilccpgeaaPastW
import Derived.Test.YthajpmilccpgeaaEqA
namespace Go.Proofs.Ythajpmilccpgeaa
set_option linter.unusedVariables false
set_option linter.unusedSimpArgs false
set_option maxRecDepth 100000
open Go.RowKit

def ringX (n : Nat) : List Int := (List.replicate n 0).set 0 4096
def ringB (n : Int) : Bool := decide (0 ≤ n ∧ n ≤ 80)
def ringL (a : List Int) (n : Int) : List Int := if ringB n then (if goodF a Z8 (ringX n.toNat) then makeN a Z8 (ringX n.toNat) n.toNat else []) else []
def ringErr (a : List Int) (n : Int) : Int := if ringB n then errOf (goodF a Z8 (ringX n.toNat)) else 1
theorem ringX_len (n : Nat) : (ringX n).length = n := by simp [ringX]
theorem ringB_no {n : Int} (h : n < 0 ∨ 80 < n) : ringB n = false := by unfold ringB; simp; omega
theorem ringB_yes {n : Int} (h1 : 0 ≤ n) (h2 : n ≤ 80) : ringB n = true := by unfold ringB; simp; omega
theorem ringL_le (a : List Int) (n : Int) : (ringL a n).length ≤ 80 := by
  unfold ringL
  split
  · rename_i h
    have : 0 ≤ n ∧ n ≤ 80 := by simpa [ringB] using h
    split
    · rw [makeN_len]; omega
    · simp
  · simp

def ringK (n k : Nat) : List Int := if k = 0 then List.replicate n 0 else ringX n
theorem ringK_len (n k : Nat) : (ringK n k).length = n := by unfold ringK; split <;> simp [ringX]
theorem ringK_end (k : Nat) : ringK k k = ringX k := by
  unfold ringK
  split
  · rename_i h; subst h; rfl
  · rfl

set_option maxHeartbeats 4000000 in
theorem synthRing_any (a : List Int) (n : Int) (w : World) (ha : a.length = 9) : Calls Try.prog 39 #[.agg (agi a), .int .i64 n] w (NewSE w (ringL a n) (ringErr a n)) := by
  by_cases h1 : n < 0 ∨ 80 < n
  · rw [show ringL a n = [] from by unfold ringL; rw [ringB_no h1]; rfl, show ringErr a n = 1 from by unfold ringErr; rw [ringB_no h1]; rfl]
    have FIN := hid (NewSE.none_ (er := 1) ((Below.refl _ w).alloc (Nat.le_refl _) (.cells (agi a) 37)))
    rcases h1 with h1 | h1
    · go_enter Try.func39, Try.ntmps39
      go_wp2
      go_ret2
      exact FIN.out
    · have h2 : ¬ n < 0 := by omega
      go_enter Try.func39, Try.ntmps39
      go_wp2
      go_ret2
      exact FIN.out
  · obtain ⟨N, rfl⟩ := Int.eq_ofNat_of_zero_le (show 0 ≤ n by omega)
    have hb : ringB (N : Nat) = true := ringB_yes (by omega) (by omega)
    have hN : N ≤ 80 := by omega
    obtain ⟨ys, hys⟩ : ∃ ys, ys = ringL a (N : Nat) := ⟨_, rfl⟩
    obtain ⟨er, her⟩ : ∃ er, er = ringErr a (N : Nat) := ⟨_, rfl⟩
    have K1 : ∀ W A, Rs W W.heap.size A (ringX N) → Calls Try.prog 35 #[.agg (agi a), .agg (agi Z8), .slice A N N] W (fun e w' => ∃ A3 c3 q, q.length = 8 ∧ e = .returned (.tuple #[.slice A3 ys.length c3, .agg (agi q), .int .i64 er]) ∧ Own w' W.heap.size A3 c3 ys ∧ Below W.heap.size W w') := fun W A h => by
      refine (synthMake_any a Z8 (ringX N) A N N W ha rfl h (ringX_len N) (by omega)).mono ?_
      rintro e w' ⟨A3, c3, h1, h2, h3⟩
      refine ⟨A3, c3, (if goodF a Z8 (ringX N) then newL Z8 (makeN a Z8 (ringX N) N) else Z8), ?_, ?_, ?_, h3⟩
      · split
        · exact newL_len _ _ rfl
        · rfl
      · rw [h1, hys, her, show ringL a (N : Nat) = (if goodF a Z8 (ringX N) then makeN a Z8 (ringX N) N else []) from by unfold ringL; rw [hb]; rfl, show ringErr a (N : Nat) = errOf (goodF a Z8 (ringX N)) from by unfold ringErr; rw [hb]; rfl]
      · rw [hys, show ringL a (N : Nat) = (if goodF a Z8 (ringX N) then makeN a Z8 (ringX N) N else []) from by unfold ringL; rw [hb]; rfl]; exact h2
    rw [← hys, ← her]
    clear hys her hb h1
    rw [z8_eq] at K1
    have K1' := hid K1
    clear K1
    have A0 := hid (IB.new w 37 a)
    have HA := hid ha
    clear ha
    have d1 : decide ((N : Int) < 0) = false := by simp <;> omega
    have d2 : decide (80 < (N : Int)) = false := by simp; omega
    by_cases h0 : N = 0
    · subst h0
      have K1 := hid (fun W A => K1'.out W A)
      clear K1'
      go_enter Try.func39, Try.ntmps39
      go_wp2_with (first
        | (at_make; refine wpList_makeI rfl _ _ rfl .i64 .i64 0 rfl rfl w.heap.size (by omega) (by simp) ?_; intro w1 hO hG; simp only [World.size_alloc] at hO; have O1 := hid (show Own w1 w.heap.size (some ⟨w.heap.size + 1, 0, none⟩) 0 (ringX 0) from hO); have A1 := hid (Blk.grown A0.out hG (by simp)); have B1 := hid (((Below.refl w.heap.size w).alloc (Nat.le_refl _) (.cells (agi a) 37)).grown hG (by simp) (by simp)); clear hO hG)
        | (refine wpList_loadI rfl 37 (.tmp 2) rfl _ 37 a 9 _ rfl A1.out Try.underlying37 rfl size9 HA.out ?_))
      refine (K1.out _ _ O1.out.reads).mono ?_
      rintro e w2 ⟨A3, c3, q, hq, rfl, hO, hB⟩
      have HQ := hid hq
      have O2 := hid hO
      have B2 := hid (B1.out.trans (hB.mono B1.out.size))
      clear hB hO hq
      go_wp2_with (refine wpList_storeI rfl 33 (.tmp 8) (.tmp 28) rfl _ 33 Z8 q 8 rfl rfl (IB.new w2 33 Z8) size8 rfl HQ.out ?_)
      go_ret2
      exact ⟨A3, c3, rfl, (O2.out.below (below_stored w2 (.cells (agi Z8) 33) _)).more B1.out.size, B2.out.trans ((below_stored w2 (.cells (agi Z8) 33) _).mono B2.out.size)⟩
    · have d3 : decide (0 < (N : Int)) = true := by simp; omega
      have i1 : (0 : Int) < N := by omega
      have i2 : 0 < N := by omega
      have KN := hid (fun W A h => K1'.out W A h)
      have HX := hid (show (List.replicate N 0).set 0 4096 = ringX N from rfl)
      clear K1' h0
      go_enter Try.func39, Try.ntmps39
      go_wp2_with (first
        | (at_make; refine wpList_makeI rfl _ _ rfl .i64 .i64 N rfl rfl w.heap.size (by omega) (by simp) ?_; intro w1 hO hG; simp only [World.size_alloc] at hO; have cc := hO.cell 0 (by simpa using i2); have ff := hO.frozen 0; have O1 := hid (show Own (w1.setCell ⟨w.heap.size + 1, 0, none⟩ (.int .i64 4096)) w.heap.size (some ⟨w.heap.size + 1, 0, none⟩) N (ringX N) from hO.set_ 0 (by simpa using i2) 4096); have A1 := hid (Blk.far (Blk.grown A0.out hG (by simp)) (p := ⟨w.heap.size + 1, 0, none⟩) (show w.heap.size ≠ w.heap.size + 1 by omega) (.int .i64 4096)); have B1 := hid ((((Below.refl w.heap.size w).alloc (Nat.le_refl _) (.cells (agi a) 37)).grown hG (by simp) (by simp)).setCell (p := ⟨w.heap.size + 1, 0, none⟩) (show w.heap.size ≤ w.heap.size + 1 by omega) (.int .i64 4096)); clear hO hG)
        | (refine wpList_loadI rfl 37 (.tmp 2) rfl _ 37 a 9 _ rfl A1.out Try.underlying37 rfl size9 HA.out ?_))
      refine (KN.out _ _ O1.out.reads).mono ?_
      rintro e w2 ⟨A3, c3, q, hq, rfl, hO, hB⟩
      have HQ := hid hq
      have O2 := hid hO
      have B2 := hid (B1.out.trans (hB.mono B1.out.size))
      clear hB hO hq
      go_wp2_with (refine wpList_storeI rfl 33 (.tmp 8) (.tmp 28) rfl _ 33 Z8 q 8 rfl rfl (IB.new w2 33 Z8) size8 rfl HQ.out ?_)
      go_ret2
      exact ⟨A3, c3, rfl, (O2.out.below (below_stored w2 (.cells (agi Z8) 33) _)).more B1.out.size, B2.out.trans ((below_stored w2 (.cells (agi Z8) 33) _).mono B2.out.size)⟩

set_option maxHeartbeats 4000000 in
theorem refRing_any (a : List Int) (n : Int) (w : World) (ha : a.length = 9) : Calls Try.prog 40 #[.agg (agi a), .int .i64 n] w (NewSE w (ringL a n) (ringErr a n)) := by
  by_cases h1 : n < 0 ∨ 80 < n
  · rw [show ringL a n = [] from by unfold ringL; rw [ringB_no h1]; rfl, show ringErr a n = 1 from by unfold ringErr; rw [ringB_no h1]; rfl]
    have FIN := hid (NewSE.none_ (er := 1) ((Below.refl _ w).alloc (Nat.le_refl _) (.cells (agi a) 37)))
    rcases h1 with h1 | h1
    · go_enter Try.func40, Try.ntmps40
      go_wp2
      go_ret2
      exact FIN.out
    · have h2 : ¬ n < 0 := by omega
      go_enter Try.func40, Try.ntmps40
      go_wp2
      go_ret2
      exact FIN.out
  · obtain ⟨N, rfl⟩ := Int.eq_ofNat_of_zero_le (show 0 ≤ n by omega)
    have hb : ringB (N : Nat) = true := ringB_yes (by omega) (by omega)
    have hN : N ≤ 80 := by omega
    obtain ⟨ys, hys⟩ : ∃ ys, ys = ringL a (N : Nat) := ⟨_, rfl⟩
    obtain ⟨er, her⟩ : ∃ er, er = ringErr a (N : Nat) := ⟨_, rfl⟩
    have K1 : ∀ W A, Rs W W.heap.size A (ringX N) → Calls Try.prog 36 #[.agg (agi a), .agg (agi Z8), .slice A N N] W (fun e w' => ∃ A3 c3 q, q.length = 8 ∧ e = .returned (.tuple #[.slice A3 ys.length c3, .agg (agi q), .int .i64 er]) ∧ Own w' W.heap.size A3 c3 ys ∧ Below W.heap.size W w') := fun W A h => by
      refine (refMake_any a Z8 (ringX N) A N N W ha rfl h (ringX_len N) (by omega) (by omega)).mono ?_
      rintro e w' ⟨A3, c3, h1, h2, h3⟩
      refine ⟨A3, c3, (if goodF a Z8 (ringX N) then newL Z8 (makeN a Z8 (ringX N) N) else Z8), ?_, ?_, ?_, h3⟩
      · split
        · exact newL_len _ _ rfl
        · rfl
      · rw [h1, hys, her, show ringL a (N : Nat) = (if goodF a Z8 (ringX N) then makeN a Z8 (ringX N) N else []) from by unfold ringL; rw [hb]; rfl, show ringErr a (N : Nat) = errOf (goodF a Z8 (ringX N)) from by unfold ringErr; rw [hb]; rfl]
      · rw [hys, show ringL a (N : Nat) = (if goodF a Z8 (ringX N) then makeN a Z8 (ringX N) N else []) from by unfold ringL; rw [hb]; rfl]; exact h2
    rw [← hys, ← her]
    clear hys her hb h1
    rw [z8_eq] at K1
    have K1' := hid K1
    clear K1
    have A0 := hid (IB.new w 37 a)
    have HA := hid ha
    clear ha
    have d1 : decide ((N : Int) < 0) = false := by simp <;> omega
    have d2 : decide (80 < (N : Int)) = false := by simp; omega
    go_enter Try.func40, Try.ntmps40
    go_wp2_with (at_make; refine wpList_makeI rfl _ _ rfl .i64 .i64 N rfl rfl w.heap.size (by omega) (by simp) ?_; intro w1 hO hG; simp only [World.size_alloc] at hO; have O1 := hid (show Own w1 w.heap.size (some ⟨w.heap.size + 1, 0, none⟩) N (ringK N 0) from hO); have A1 := hid (Blk.grown A0.out hG (by simp)); have B1 := hid (((Below.refl w.heap.size w).alloc (Nat.le_refl _) (.cells (agi a) 37)).grown hG (by simp) (by simp)); clear hO hG)
    go_loopw [21] (fun iv wr => ∃ k : Nat, k ≤ N ∧ iv = .int .i64 k ∧ Hid (Own wr w.heap.size (some ⟨w.heap.size + 1, 0, none⟩) N (ringK N k)) ∧ Hid (IB wr w.heap.size 37 a) ∧ Hid (Below w.heap.size w wr)) (fun iv _ => N - (intOf iv).toNat)
    case atStart => exact ⟨0, by omega, rfl, O1, A1, B1⟩
    case round =>
      clear O1 A1 B1
      obtain ⟨k, hk, rfl, O1, A1, B1⟩ := hrel
      by_cases hlt : k < N
      · by_cases h0 : k = 0
        · subst h0
          have cc := O1.out.cell 0 (by rw [ringK_len]; exact hlt)
          have ff := O1.out.frozen 0
          have hl : (0 : Int) < N := by omega
          have O2 := hid (show Own (wr.setCell ⟨w.heap.size + 1, 0, none⟩ (.int .i64 4096)) w.heap.size (some ⟨w.heap.size + 1, 0, none⟩) N (ringK N 1) from O1.out.set_ 0 (by rw [ringK_len]; exact hlt) 4096)
          have A2 := hid (Blk.far A1.out (p := ⟨w.heap.size + 1, 0, none⟩) (show w.heap.size ≠ w.heap.size + 1 by omega) (.int .i64 4096))
          have B2 := hid (B1.out.setCell (p := ⟨w.heap.size + 1, 0, none⟩) (show w.heap.size ≤ w.heap.size + 1 by omega) (.int .i64 4096))
          go_wp2
          go_roundw
          case rel => exact ⟨1, by omega, by go_num, O2, A2, B2⟩
          case measure => simp [intOf] <;> omega
        · have d0 : ((k : Int) == 0) = false := by simp <;> omega
          have d4 : ((k : Int) != 0) = true := by simp <;> omega
          have d5 : ¬ (k : Int) = 0 := by omega
          have O2 := hid (show Own wr w.heap.size (some ⟨w.heap.size + 1, 0, none⟩) N (ringK N (k + 1)) from by have h := O1.out; unfold ringK at h ⊢; rw [if_neg h0] at h; rw [if_neg (by omega)]; exact h)
          clear O1 h0
          go_wp2
          go_roundw
          case rel => exact ⟨k + 1, by omega, by go_num, O2, A1, B1⟩
          case measure => simp [intOf] <;> omega
      · obtain rfl : k = N := by omega
        have O2 := hid (show Own wr w.heap.size (some ⟨w.heap.size + 1, 0, none⟩) k (ringX k) from by have h := O1.out; rw [ringK_end] at h; exact h)
        go_wp2_with (refine wpList_loadI rfl 37 (.tmp 2) rfl _ 37 a 9 _ rfl A1.out Try.underlying37 rfl size9 HA.out ?_)
        refine (K1'.out _ _ O2.out.reads).mono ?_
        rintro e w2 ⟨A3, c3, q, hq, rfl, hO, hB⟩
        have HQ := hid hq
        have O3 := hid hO
        have B2 := hid (B1.out.trans (hB.mono B1.out.size))
        clear hB hO hq
        go_wp2_with (refine wpList_storeI rfl 33 (.tmp 9) (.tmp 36) rfl _ 33 Z8 q 8 rfl rfl (IB.new w2 33 Z8) size8 rfl HQ.out ?_)
        go_ret2
        exact ⟨A3, c3, rfl, (O3.out.below (below_stored w2 (.cells (agi Z8) 33) _)).more B1.out.size, B2.out.trans ((below_stored w2 (.cells (agi Z8) 33) _).mono B2.out.size)⟩
set_option maxHeartbeats 4000000 in
theorem walkSynthRings (w : World) (a : List Int) (ha : a.length = 9) (_ : W64 a) (n : Int) (_ : -9223372036854775808 ≤ n ∧ n ≤ 9223372036854775807) :
    Calls Try.prog 14 #[.agg (agi a), .int .i64 n] w fun e w' => e = .returned (.bool true) ∧ Below w.heap.size w w' := by
  have K1 := hid (fun w1 => synthRing_any a n w1 ha)
  have K2 := hid (fun w1 => refRing_any a n w1 ha)
  have K3 := hid (fun w1 => synthRing_any [4096, 0, 0, 0, 0, 0, 0, 0, 0] 1 w1 rfl)
  have A0 := hid (IB.new w 37 a)
  have L0 := hid ((Below.refl _ w).alloc (Nat.le_refl _) (.cells (agi a) 37))
  have HA := hid ha
  have h1 : (ringL [4096, 0, 0, 0, 0, 0, 0, 0, 0] 1).length = 1 := by decide
  have hle := ringL_le a n
  generalize ringL a n = ys at *
  generalize ringErr a n = er at *
  generalize ringErr [4096, 0, 0, 0, 0, 0, 0, 0, 0] 1 = er2 at *
  generalize ringL [4096, 0, 0, 0, 0, 0, 0, 0, 0] 1 = zs at *
  have H1 := hid h1
  clear ha h1
  go_enter Try.func14, Try.ntmps14
  go_wp2_with (refine wpList_loadI rfl 37 (.tmp 2) rfl _ 37 a 9 _ rfl A0.out Try.underlying37 rfl size9 HA.out ?_)
  refine (K1.out _).mono ?_
  rintro e w1 ⟨P1, c1, rfl, hO, hB⟩
  have O1 := hid hO
  have A1 := hid (Blk.below' A0.out hB)
  have L1 := hid (L0.out.trans (hB.mono L0.out.size))
  clear hO hB A0 L0
  go_wp2_with (refine wpList_loadI rfl 37 (.tmp 2) rfl _ 37 a 9 _ rfl A1.out Try.underlying37 rfl size9 HA.out ?_)
  refine (K2.out _).mono ?_
  rintro e w2 ⟨P2, c2, rfl, hO, hB⟩
  have O2 := hid hO
  have R1 := hid (O1.out.below hB)
  have L2 := hid (L1.out.trans (hB.mono L1.out.size))
  clear hO hB A1 L1 O1
  go_wp2_with fail
  refine (K3.out _).mono ?_
  rintro e w3 ⟨P3, c3, rfl, hO, hB⟩
  have R2 := hid (O2.out.below hB)
  have R3 := hid (R1.out.below hB)
  have L3 := hid (L2.out.trans (hB.mono L2.out.size))
  rw [H1.out]
  clear hO hB L2 O2 R1
  go_wp2_with fail
  refine (Same_yes P1 P2 c1 c2 ys.length _ _ ys _ R3.out.reads R2.out.reads rfl (by omega)).mono ?_
  rintro e w4 ⟨rfl, hB⟩
  have L4 := hid (L3.out.trans (hB.mono L3.out.size))
  clear hB L3
  go_wp2
  go_ret
  exact ⟨by simp, L4.out⟩
end Go.Proofs.Ythajpmilccpgeaa
