/- The walks of the reference's wrongSearch and signsOf. -/
import Derived.Test.YtcfmipobgljbeaaSearW
namespace Go.Proofs.Ytcfmipobgljbeaa
set_option linter.unusedVariables false
set_option linter.unusedSimpArgs false
set_option maxRecDepth 100000
open Go.RowKit

set_option maxHeartbeats 2000000 in
theorem wrongSearch_any (A A2 : Option Addr) (c c2 n1 n2 : Nat) (d ring : List Int) (w : World) (hd : Rs w w.heap.size A d) (l1 : d.length = n1) (l2 : ring.length = n2) :
    Calls Try.prog 53 #[.slice A n1 c, .slice A2 n2 c2] w (fun e w' => e = .returned (.int .i64 (seErr d ring)) ∧ w = w') := by
  by_cases hl : n1 = 40
  rotate_left
  · have HE := hid (seErr_len (d := d) (ring := ring) (by omega))
    have d0 : ((n1 : Int) != 40) = true := by simp; omega
    have d1 : ¬ (n1 : Int) = 40 := by omega
    clear hl hd l1 l2
    go_enter Try.func53, Try.ntmps53
    go_wp2
    go_ret
    exact ⟨by rw [HE.out]; rfl, rfl⟩
  subst hl
  by_cases hl2 : n2 = 40
  rotate_left
  · have HE := hid (seErr_len (d := d) (ring := ring) (by omega))
    have d0 : ((n2 : Int) != 40) = true := by simp; omega
    have d1 : ¬ (n2 : Int) = 40 := by omega
    clear hl2 hd l1 l2
    go_enter Try.func53, Try.ntmps53
    go_wp2
    go_ret
    exact ⟨by rw [HE.out]; rfl, rfl⟩
  subst hl2
  have HE := hid (seErr_ok l1 l2)
  have HD := hid hd
  have DL := hid l1
  clear hd l1 l2
  go_enter Try.func53, Try.ntmps53
  go_wp2
  go_loop [17] (fun iv => ∃ i : Nat, i ≤ 40 ∧ iv = .int .i64 i ∧ Hid (allTo (fun x => decide (-1099511627776 ≤ x ∧ x ≤ 1099511627776)) d i)) (fun iv => 40 - (intOf iv).toNat)
  case atStart => exact ⟨0, by omega, rfl, hid allTo.zero⟩
  case round =>
    obtain ⟨i, hi, rfl, HY⟩ := hrel
    by_cases hlt : i < 40
    · obtain ⟨ad, rfl, _, c0⟩ := HD.out.at_ (k := i) (by rw [DL.out]; exact hlt)
      obtain ⟨x, hx⟩ : ∃ x, x = d.getD i 0 := ⟨_, rfl⟩
      rw [← hx] at c0
      by_cases hb : x < -1099511627776 ∨ 1099511627776 < x
      · have HE2 := hid (show seErr d ring = 2 by rw [HE.out, show okD d = false from all_no (i := i) (by rw [DL.out]; exact hlt) (by rw [← hx]; simp; omega)]; rfl)
        clear hx
        rcases hb with hb | hb
        · have e1 : decide (x < -1099511627776) = true := by simpa using hb
          go_wp2
          go_ret
          exact ⟨by rw [HE2.out]; rfl, rfl⟩
        · have e1 : decide (x < -1099511627776) = false := by simp; omega
          have e3 : decide (1099511627776 < x) = true := by simp; omega
          go_wp2
          go_ret
          exact ⟨by rw [HE2.out]; rfl, rfl⟩
      · have HN := hid (HY.out.succ (by rw [← hx]; simp; omega))
        have e1 : decide (x < -1099511627776) = false := by simp; omega
        have e3 : decide (1099511627776 < x) = false := by simp; omega
        clear hb hx
        go_wp2
        go_round
        case rel => exact ⟨i + 1, by omega, by go_num, HN⟩
        case measure => simp [intOf] <;> omega
    · obtain rfl : i = 40 := by omega
      have OK := hid (show okD d = true from HY.out.all (by rw [DL.out]; exact Nat.le_refl _))
      have HE2 := hid (show seErr d ring = 0 by rw [HE.out, OK.out]; rfl)
      go_wp2
      go_ret
      exact ⟨by rw [HE2.out]; rfl, rfl⟩

def sgT (d x : List Int) : Nat → Nat
  | 0 => 0
  | i + 1 => if 0 ≤ d.getD (plc x (3 - i)) 0 then sgT d x i * 2 + 1 else sgT d x i * 2
theorem sgT_lt (d x : List Int) (i : Nat) : sgT d x i < 2 ^ i := by
  induction i with
  | zero => simp [sgT]
  | succ i ih =>
    unfold sgT
    rw [Nat.pow_succ]
    split <;> omega
theorem sgT_eq (d x : List Int) : ((sgT d x 4 : Nat) : Int) = sgnB d x 4 := by
  unfold sgnB
  congr 1
  simp only [sgT, sgnN, show 3 - 0 = 3 from rfl, show 3 - 1 = 2 from rfl, show 3 - 2 = 1 from rfl, show 3 - 3 = 0 from rfl]
  generalize d.getD (plc x 0) 0 = a0
  generalize d.getD (plc x 1) 0 = a1
  generalize d.getD (plc x 2) 0 = a2
  generalize d.getD (plc x 3) 0 = a3
  by_cases h0 : 0 ≤ a0 <;> by_cases h1 : 0 ≤ a1 <;> by_cases h2 : 0 ≤ a2 <;> by_cases h3 : 0 ≤ a3 <;> simp [h0, h1, h2, h3]

set_option maxHeartbeats 4000000 in
theorem signsOf_any (A : Option Addr) (c : Nat) (d x : List Int) (w : World) (hd : Rs w w.heap.size A d) (dl : d.length = 40) (hx : Ix x) :
    Calls Try.prog 55 #[.slice A 40 c, .agg (agi x)] w (fun e w' => e = .returned (.int .i64 (sgnB d x 4)) ∧ Below w.heap.size w w') := by
  have BA := hid ((Below.refl w.heap.size w).alloc (Nat.le_refl _) (.cells (agi x) 29))
  have I0 := hid (IB.new w 29 x)
  have HD := hid ((hd.below BA.out).more BA.out.size)
  have DL := hid dl
  have OK := hid hx.2
  have X4 := hid hx.1
  have FIN := hid (sgT_eq d x)
  clear hd dl hx
  go_enter Try.func55, Try.ntmps55
  go_wp2
  generalize w.alloc (.cells (agi x) 29) = V at I0 HD BA ⊢
  go_loop [5, 6] (fun sv iv => ∃ i : Nat, i ≤ 4 ∧ iv = .int .i64 (3 - (i : Int)) ∧ sv = .int .i64 ((sgT d x i : Nat) : Int)) (fun _ iv => (intOf iv + 1).toNat)
  case atStart => exact ⟨0, by omega, rfl, rfl⟩
  case round =>
    obtain ⟨i, hi, rfl, rfl⟩ := hrel
    by_cases hlt : i < 4
    · have hi4 : i = 0 ∨ i = 1 ∨ i = 2 ∨ i = 3 := by omega
      clear hlt hi
      rcases hi4 with rfl | rfl | rfl | rfl
      · have po := okIx_at OK.out 3
        obtain ⟨q, hq⟩ := Int.eq_ofNat_of_zero_le po.1
        have pa := plc_lt OK.out (t := 3) (by omega)
        have hpl : (3 : Int) + 4 * (q : Nat) = (plc x 3 : Nat) := by unfold plc; rw [hq]; push_cast; rfl
        have cx := IB.cell I0.out 3 (by rw [X4.out]; omega)
        rw [hq] at po cx
        try simp only [Int.zero_add] at hpl
        have SG := hid (show sgT d x (0 + 1) = if 0 ≤ d.getD (plc x 3) 0 then sgT d x 0 * 2 + 1 else sgT d x 0 * 2 from rfl)
        have SL := sgT_lt d x 0
        obtain ⟨a, ha⟩ : ∃ a, a = plc x 3 := ⟨_, rfl⟩
        rw [← ha] at hpl pa SG
        obtain ⟨ad, rfl, hadb, c0⟩ := HD.out.at_ (k := a) (by rw [DL.out]; exact pa)
        generalize d.getD a 0 = y at *
        generalize sgT d x 0 = s at *
        have q9 : (q : Int) ≤ 9 := po.2
        have a40 : (a : Int) < 40 := by omega
        have a0 : (0 : Int) ≤ a := by omega
        have s16 : (s : Int) < 16 := by have : s < 1 := SL; omega
        have HA := hid ha
        have HQ := hid hq
        clear po ha hq SL
        by_cases hy : 0 ≤ y
        · have hd : decide (0 ≤ y) = true := by simpa using hy
          have NS := hid (show sgT d x (0 + 1) = s * 2 + 1 by rw [SG.out, if_pos hy])
          clear hy
          go_wp2
          go_round
          case rel => exact ⟨0 + 1, by omega, by rfl, by rw [NS.out] <;> rfl⟩
          case measure => simp [intOf] <;> omega
        · have hd : decide (0 ≤ y) = false := by simp; omega
          have NS := hid (show sgT d x (0 + 1) = s * 2 by rw [SG.out, if_neg hy])
          clear hy
          go_wp2
          go_round
          case rel => exact ⟨0 + 1, by omega, by rfl, by rw [NS.out] <;> rfl⟩
          case measure => simp [intOf] <;> omega
      · have po := okIx_at OK.out 2
        obtain ⟨q, hq⟩ := Int.eq_ofNat_of_zero_le po.1
        have pa := plc_lt OK.out (t := 2) (by omega)
        have hpl : (2 : Int) + 4 * (q : Nat) = (plc x 2 : Nat) := by unfold plc; rw [hq]; push_cast; rfl
        have cx := IB.cell I0.out 2 (by rw [X4.out]; omega)
        rw [hq] at po cx
        try simp only [Int.zero_add] at hpl
        have SG := hid (show sgT d x (1 + 1) = if 0 ≤ d.getD (plc x 2) 0 then sgT d x 1 * 2 + 1 else sgT d x 1 * 2 from rfl)
        have SL := sgT_lt d x 1
        obtain ⟨a, ha⟩ : ∃ a, a = plc x 2 := ⟨_, rfl⟩
        rw [← ha] at hpl pa SG
        obtain ⟨ad, rfl, hadb, c0⟩ := HD.out.at_ (k := a) (by rw [DL.out]; exact pa)
        generalize d.getD a 0 = y at *
        generalize sgT d x 1 = s at *
        have q9 : (q : Int) ≤ 9 := po.2
        have a40 : (a : Int) < 40 := by omega
        have a0 : (0 : Int) ≤ a := by omega
        have s16 : (s : Int) < 16 := by have : s < 2 := SL; omega
        have HA := hid ha
        have HQ := hid hq
        clear po ha hq SL
        by_cases hy : 0 ≤ y
        · have hd : decide (0 ≤ y) = true := by simpa using hy
          have NS := hid (show sgT d x (1 + 1) = s * 2 + 1 by rw [SG.out, if_pos hy])
          clear hy
          go_wp2
          go_round
          case rel => exact ⟨1 + 1, by omega, by rfl, by rw [NS.out] <;> rfl⟩
          case measure => simp [intOf] <;> omega
        · have hd : decide (0 ≤ y) = false := by simp; omega
          have NS := hid (show sgT d x (1 + 1) = s * 2 by rw [SG.out, if_neg hy])
          clear hy
          go_wp2
          go_round
          case rel => exact ⟨1 + 1, by omega, by rfl, by rw [NS.out] <;> rfl⟩
          case measure => simp [intOf] <;> omega
      · have po := okIx_at OK.out 1
        obtain ⟨q, hq⟩ := Int.eq_ofNat_of_zero_le po.1
        have pa := plc_lt OK.out (t := 1) (by omega)
        have hpl : (1 : Int) + 4 * (q : Nat) = (plc x 1 : Nat) := by unfold plc; rw [hq]; push_cast; rfl
        have cx := IB.cell I0.out 1 (by rw [X4.out]; omega)
        rw [hq] at po cx
        try simp only [Int.zero_add] at hpl
        have SG := hid (show sgT d x (2 + 1) = if 0 ≤ d.getD (plc x 1) 0 then sgT d x 2 * 2 + 1 else sgT d x 2 * 2 from rfl)
        have SL := sgT_lt d x 2
        obtain ⟨a, ha⟩ : ∃ a, a = plc x 1 := ⟨_, rfl⟩
        rw [← ha] at hpl pa SG
        obtain ⟨ad, rfl, hadb, c0⟩ := HD.out.at_ (k := a) (by rw [DL.out]; exact pa)
        generalize d.getD a 0 = y at *
        generalize sgT d x 2 = s at *
        have q9 : (q : Int) ≤ 9 := po.2
        have a40 : (a : Int) < 40 := by omega
        have a0 : (0 : Int) ≤ a := by omega
        have s16 : (s : Int) < 16 := by have : s < 4 := SL; omega
        have HA := hid ha
        have HQ := hid hq
        clear po ha hq SL
        by_cases hy : 0 ≤ y
        · have hd : decide (0 ≤ y) = true := by simpa using hy
          have NS := hid (show sgT d x (2 + 1) = s * 2 + 1 by rw [SG.out, if_pos hy])
          clear hy
          go_wp2
          go_round
          case rel => exact ⟨2 + 1, by omega, by rfl, by rw [NS.out] <;> rfl⟩
          case measure => simp [intOf] <;> omega
        · have hd : decide (0 ≤ y) = false := by simp; omega
          have NS := hid (show sgT d x (2 + 1) = s * 2 by rw [SG.out, if_neg hy])
          clear hy
          go_wp2
          go_round
          case rel => exact ⟨2 + 1, by omega, by rfl, by rw [NS.out] <;> rfl⟩
          case measure => simp [intOf] <;> omega
      · have po := okIx_at OK.out 0
        obtain ⟨q, hq⟩ := Int.eq_ofNat_of_zero_le po.1
        have pa := plc_lt OK.out (t := 0) (by omega)
        have hpl : (0 : Int) + 4 * (q : Nat) = (plc x 0 : Nat) := by unfold plc; rw [hq]; push_cast; rfl
        have cx := IB.cell I0.out 0 (by rw [X4.out]; omega)
        rw [hq] at po cx
        try simp only [Int.zero_add] at hpl
        have SG := hid (show sgT d x (3 + 1) = if 0 ≤ d.getD (plc x 0) 0 then sgT d x 3 * 2 + 1 else sgT d x 3 * 2 from rfl)
        have SL := sgT_lt d x 3
        obtain ⟨a, ha⟩ : ∃ a, a = plc x 0 := ⟨_, rfl⟩
        rw [← ha] at hpl pa SG
        obtain ⟨ad, rfl, hadb, c0⟩ := HD.out.at_ (k := a) (by rw [DL.out]; exact pa)
        generalize d.getD a 0 = y at *
        generalize sgT d x 3 = s at *
        have q9 : (q : Int) ≤ 9 := po.2
        have a40 : (a : Int) < 40 := by omega
        have a0 : (0 : Int) ≤ a := by omega
        have s16 : (s : Int) < 16 := by have : s < 8 := SL; omega
        have HA := hid ha
        have HQ := hid hq
        clear po ha hq SL
        by_cases hy : 0 ≤ y
        · have hd : decide (0 ≤ y) = true := by simpa using hy
          have NS := hid (show sgT d x (3 + 1) = s * 2 + 1 by rw [SG.out, if_pos hy])
          clear hy
          go_wp2
          go_round
          case rel => exact ⟨3 + 1, by omega, by rfl, by rw [NS.out] <;> rfl⟩
          case measure => simp [intOf] <;> omega
        · have hd : decide (0 ≤ y) = false := by simp; omega
          have NS := hid (show sgT d x (3 + 1) = s * 2 by rw [SG.out, if_neg hy])
          clear hy
          go_wp2
          go_round
          case rel => exact ⟨3 + 1, by omega, by rfl, by rw [NS.out] <;> rfl⟩
          case measure => simp [intOf] <;> omega
    · obtain rfl : i = 4 := by omega
      go_wp2
      go_ret
      exact ⟨by rw [← FIN.out]; rfl, BA.out⟩
end Go.Proofs.Ytcfmipobgljbeaa
