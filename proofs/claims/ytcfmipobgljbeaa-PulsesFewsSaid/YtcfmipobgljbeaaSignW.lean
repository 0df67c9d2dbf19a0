/- The walk of package pulses' signs, and of the reference's. -/
import Derived.Test.YtcfmipobgljbeaaBestM
import Derived.Test.YtcfmipobgljbeaaScoW
import Derived.Test.YtcfmipobgljbeaaBigBit
namespace Go.Proofs.Ytcfmipobgljbeaa
set_option linter.unusedVariables false
set_option linter.unusedSimpArgs false
set_option maxRecDepth 100000
open Go.RowKit

theorem or_low {s i : Nat} (h : s < 2 ^ i) : s ||| 2 ^ i = s + 2 ^ i := by
  have := Nat.two_pow_add_eq_or_of_lt h 1
  rw [Nat.mul_one] at this
  rw [Nat.or_comm, ← this, Nat.add_comm]

set_option maxHeartbeats 4000000 in
theorem signs_any (A : Option Addr) (c : Nat) (d x : List Int) (w : World) (hd : Rs w w.heap.size A d) (dl : d.length = 40) (hx : Ix x) :
    Calls Try.prog 52 #[.slice A 40 c, .agg (agi x)] w (fun e w' => e = .returned (.int .i64 (sgnB d x 4)) ∧ Below w.heap.size w w') := by
  have HIX := hid (fun (k : Nat) (hk : k < 4) (w : World) => run_index_agi Try.underlying29 x hx.1 k hk w)
  have BA := hid ((Below.refl w.heap.size w).alloc (Nat.le_refl _) (.cells (agi x) 29))
  have I0 := hid (IB.new w 29 x)
  have HD := hid ((hd.below BA.out).more BA.out.size)
  have DL := hid dl
  have OK := hid hx.2
  have X4 := hid hx.1
  clear hd dl hx
  go_enter Try.func52, Try.ntmps52
  go_wp2_with (refine wpList_loadI rfl 29 (.tmp 3) rfl _ 29 x 4 _ rfl I0.out Try.underlying29 rfl size4i X4.out ?_)
  generalize w.alloc (.cells (agi x) 29) = V at I0 HD BA ⊢
  go_loop [5, 9] (fun sv iv => ∃ i : Nat, i ≤ 4 ∧ iv = .int .i64 i ∧ sv = .int .i64 ((sgnN d x i : Nat) : Int)) (fun _ iv => 4 - (intOf iv).toNat)
  case atStart => exact ⟨0, by omega, rfl, rfl⟩
  case round =>
    obtain ⟨i, hi, rfl, rfl⟩ := hrel
    by_cases hlt : i < 4
    · have hi4 : i = 0 ∨ i = 1 ∨ i = 2 ∨ i = 3 := by omega
      clear hlt hi
      rcases hi4 with rfl | rfl | rfl | rfl
      · have hI := HIX.out 0 (by omega)
        rw [show ((0 : Nat) : Int) = (0 : Int) from rfl] at hI
        have po := okIx_at OK.out 0
        obtain ⟨q, hq⟩ := Int.eq_ofNat_of_zero_le po.1
        have pa := plc_lt OK.out (t := 0) (by omega)
        have hpl : (0 : Int) + 4 * (q : Nat) = (plc x 0 : Nat) := by unfold plc; rw [hq]; push_cast; rfl
        rw [hq] at hI po
        try simp only [Int.zero_add] at hpl
        have SG := hid (show sgnN d x (0 + 1) = if 0 ≤ d.getD (plc x 0) 0 then sgnN d x 0 + 2 ^ 0 else sgnN d x 0 from rfl)
        have SL := sgnN_lt d x 0
        obtain ⟨a, ha⟩ : ∃ a, a = plc x 0 := ⟨_, rfl⟩
        rw [← ha] at hpl pa SG
        obtain ⟨ad, rfl, hadb, c0⟩ := HD.out.at_ (k := a) (by rw [DL.out]; exact pa)
        generalize d.getD a 0 = y at *
        generalize sgnN d x 0 = s at *
        have hor : bits BinOp.or IntKind.i64 (s : Nat) 1 = ((s + 1 : Nat) : Int) := by
          have := or64 (z := s) (p := 1) (or_low (i := 0) SL) (by have : s < 1 := SL; omega)
          exact this
        have q9 : (q : Int) ≤ 9 := po.2
        have a40 : (a : Int) < 40 := by omega
        have a0 : (0 : Int) ≤ a := by omega
        have HA := hid ha
        have HQ := hid hq
        clear po ha hq SL
        by_cases hy : 0 ≤ y
        · have hd : decide (0 ≤ y) = true := by simpa using hy
          have NS := hid (show sgnN d x (0 + 1) = s + 1 by rw [SG.out, if_pos hy])
          clear hy
          go_wp2
          go_round
          case rel => exact ⟨0 + 1, by omega, by go_num, by rw [NS.out] <;> rfl⟩
          case measure => simp [intOf] <;> omega
        · have hd : decide (0 ≤ y) = false := by simp; omega
          have NS := hid (show sgnN d x (0 + 1) = s by rw [SG.out, if_neg hy])
          clear hy
          go_wp2
          go_round
          case rel => exact ⟨0 + 1, by omega, by go_num, by rw [NS.out] <;> rfl⟩
          case measure => simp [intOf] <;> omega
      · have hI := HIX.out 1 (by omega)
        rw [show ((1 : Nat) : Int) = (1 : Int) from rfl] at hI
        have po := okIx_at OK.out 1
        obtain ⟨q, hq⟩ := Int.eq_ofNat_of_zero_le po.1
        have pa := plc_lt OK.out (t := 1) (by omega)
        have hpl : (1 : Int) + 4 * (q : Nat) = (plc x 1 : Nat) := by unfold plc; rw [hq]; push_cast; rfl
        rw [hq] at hI po
        try simp only [Int.zero_add] at hpl
        have SG := hid (show sgnN d x (1 + 1) = if 0 ≤ d.getD (plc x 1) 0 then sgnN d x 1 + 2 ^ 1 else sgnN d x 1 from rfl)
        have SL := sgnN_lt d x 1
        obtain ⟨a, ha⟩ : ∃ a, a = plc x 1 := ⟨_, rfl⟩
        rw [← ha] at hpl pa SG
        obtain ⟨ad, rfl, hadb, c0⟩ := HD.out.at_ (k := a) (by rw [DL.out]; exact pa)
        generalize d.getD a 0 = y at *
        generalize sgnN d x 1 = s at *
        have hor : bits BinOp.or IntKind.i64 (s : Nat) 2 = ((s + 2 : Nat) : Int) := by
          have := or64 (z := s) (p := 2) (or_low (i := 1) SL) (by have : s < 2 := SL; omega)
          exact this
        have q9 : (q : Int) ≤ 9 := po.2
        have a40 : (a : Int) < 40 := by omega
        have a0 : (0 : Int) ≤ a := by omega
        have HA := hid ha
        have HQ := hid hq
        clear po ha hq SL
        by_cases hy : 0 ≤ y
        · have hd : decide (0 ≤ y) = true := by simpa using hy
          have NS := hid (show sgnN d x (1 + 1) = s + 2 by rw [SG.out, if_pos hy])
          clear hy
          go_wp2
          go_round
          case rel => exact ⟨1 + 1, by omega, by go_num, by rw [NS.out] <;> rfl⟩
          case measure => simp [intOf] <;> omega
        · have hd : decide (0 ≤ y) = false := by simp; omega
          have NS := hid (show sgnN d x (1 + 1) = s by rw [SG.out, if_neg hy])
          clear hy
          go_wp2
          go_round
          case rel => exact ⟨1 + 1, by omega, by go_num, by rw [NS.out] <;> rfl⟩
          case measure => simp [intOf] <;> omega
      · have hI := HIX.out 2 (by omega)
        rw [show ((2 : Nat) : Int) = (2 : Int) from rfl] at hI
        have po := okIx_at OK.out 2
        obtain ⟨q, hq⟩ := Int.eq_ofNat_of_zero_le po.1
        have pa := plc_lt OK.out (t := 2) (by omega)
        have hpl : (2 : Int) + 4 * (q : Nat) = (plc x 2 : Nat) := by unfold plc; rw [hq]; push_cast; rfl
        rw [hq] at hI po
        try simp only [Int.zero_add] at hpl
        have SG := hid (show sgnN d x (2 + 1) = if 0 ≤ d.getD (plc x 2) 0 then sgnN d x 2 + 2 ^ 2 else sgnN d x 2 from rfl)
        have SL := sgnN_lt d x 2
        obtain ⟨a, ha⟩ : ∃ a, a = plc x 2 := ⟨_, rfl⟩
        rw [← ha] at hpl pa SG
        obtain ⟨ad, rfl, hadb, c0⟩ := HD.out.at_ (k := a) (by rw [DL.out]; exact pa)
        generalize d.getD a 0 = y at *
        generalize sgnN d x 2 = s at *
        have hor : bits BinOp.or IntKind.i64 (s : Nat) 4 = ((s + 4 : Nat) : Int) := by
          have := or64 (z := s) (p := 4) (or_low (i := 2) SL) (by have : s < 4 := SL; omega)
          exact this
        have q9 : (q : Int) ≤ 9 := po.2
        have a40 : (a : Int) < 40 := by omega
        have a0 : (0 : Int) ≤ a := by omega
        have HA := hid ha
        have HQ := hid hq
        clear po ha hq SL
        by_cases hy : 0 ≤ y
        · have hd : decide (0 ≤ y) = true := by simpa using hy
          have NS := hid (show sgnN d x (2 + 1) = s + 4 by rw [SG.out, if_pos hy])
          clear hy
          go_wp2
          go_round
          case rel => exact ⟨2 + 1, by omega, by go_num, by rw [NS.out] <;> rfl⟩
          case measure => simp [intOf] <;> omega
        · have hd : decide (0 ≤ y) = false := by simp; omega
          have NS := hid (show sgnN d x (2 + 1) = s by rw [SG.out, if_neg hy])
          clear hy
          go_wp2
          go_round
          case rel => exact ⟨2 + 1, by omega, by go_num, by rw [NS.out] <;> rfl⟩
          case measure => simp [intOf] <;> omega
      · have hI := HIX.out 3 (by omega)
        rw [show ((3 : Nat) : Int) = (3 : Int) from rfl] at hI
        have po := okIx_at OK.out 3
        obtain ⟨q, hq⟩ := Int.eq_ofNat_of_zero_le po.1
        have pa := plc_lt OK.out (t := 3) (by omega)
        have hpl : (3 : Int) + 4 * (q : Nat) = (plc x 3 : Nat) := by unfold plc; rw [hq]; push_cast; rfl
        rw [hq] at hI po
        try simp only [Int.zero_add] at hpl
        have SG := hid (show sgnN d x (3 + 1) = if 0 ≤ d.getD (plc x 3) 0 then sgnN d x 3 + 2 ^ 3 else sgnN d x 3 from rfl)
        have SL := sgnN_lt d x 3
        obtain ⟨a, ha⟩ : ∃ a, a = plc x 3 := ⟨_, rfl⟩
        rw [← ha] at hpl pa SG
        obtain ⟨ad, rfl, hadb, c0⟩ := HD.out.at_ (k := a) (by rw [DL.out]; exact pa)
        generalize d.getD a 0 = y at *
        generalize sgnN d x 3 = s at *
        have hor : bits BinOp.or IntKind.i64 (s : Nat) 8 = ((s + 8 : Nat) : Int) := by
          have := or64 (z := s) (p := 8) (or_low (i := 3) SL) (by have : s < 8 := SL; omega)
          exact this
        have q9 : (q : Int) ≤ 9 := po.2
        have a40 : (a : Int) < 40 := by omega
        have a0 : (0 : Int) ≤ a := by omega
        have HA := hid ha
        have HQ := hid hq
        clear po ha hq SL
        by_cases hy : 0 ≤ y
        · have hd : decide (0 ≤ y) = true := by simpa using hy
          have NS := hid (show sgnN d x (3 + 1) = s + 8 by rw [SG.out, if_pos hy])
          clear hy
          go_wp2
          go_round
          case rel => exact ⟨3 + 1, by omega, by go_num, by rw [NS.out] <;> rfl⟩
          case measure => simp [intOf] <;> omega
        · have hd : decide (0 ≤ y) = false := by simp; omega
          have NS := hid (show sgnN d x (3 + 1) = s by rw [SG.out, if_neg hy])
          clear hy
          go_wp2
          go_round
          case rel => exact ⟨3 + 1, by omega, by go_num, by rw [NS.out] <;> rfl⟩
          case measure => simp [intOf] <;> omega
    · obtain rfl : i = 4 := by omega
      go_wp2
      go_ret
      exact ⟨rfl, BA.out⟩
end Go.Proofs.Ytcfmipobgljbeaa
