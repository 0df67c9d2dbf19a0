/- The walks of the program's Nearest and the reference's, and of the law PitchNearests. -/
import Derived.Test.YtnielfleokbloaaDoorNearR
import Derived.Test.YtnielfleokbloaaDoorGainW
import Derived.BigQuiet
import Derived.Deep.QuietTactic
namespace Go.Proofs.YtnielfleokbloaaDoor
set_option linter.unusedVariables false
set_option linter.unusedSimpArgs false
set_option maxRecDepth 100000
open Go.RowKit

def cap40 (x : Int) : Int := if x ≤ 1099511627776 then x else 1099511627776
def nearestV (c e : Int) : Int := if c ≤ 0 ∨ e ≤ 0 then 0 else nearB gainsL 16384 (cap40 c) (cap40 e) 8
theorem gainsL_at (i : Nat) : 0 ≤ gainsL.getD i 0 ∧ gainsL.getD i 0 ≤ 65536 := by
  by_cases h : i < 8
  · have : ∀ j, j < 8 → 0 ≤ gainsL.getD j 0 ∧ gainsL.getD j 0 ≤ 65536 := by decide
    exact this i h
  · rw [List.getD_eq_getElem?_getD, List.getElem?_eq_none (by simp [gainsL]; omega)]; simp


set_option maxHeartbeats 4000000 in
theorem pitchNearest_any (c e : Int) (w : World) (T : TabA w 2 gainsL) (c1 : -9223372036854775808 ≤ c) (c2 : c ≤ 9223372036854775807) (e1 : -9223372036854775808 ≤ e) (e2 : e ≤ 9223372036854775807) :
    Calls Tryd.prog 20 #[.int .i64 c, .int .i64 e] w fun e' w' => e' = .returned (.int .i64 (nearestV c e)) ∧ Below w.heap.size w w' := by
  by_cases h1 : c ≤ 0
  · have FIN := hid (show nearestV c e = 0 by unfold nearestV; rw [if_pos (.inl h1)])
    clear T
    go_enter Tryd.func20, Tryd.ntmps20
    go_wp2
    go_ret
    exact ⟨by rw [FIN.out]; rfl, Below.refl _ _⟩
  by_cases h2 : e ≤ 0
  · have FIN := hid (show nearestV c e = 0 by unfold nearestV; rw [if_pos (.inr h2)])
    clear T
    go_enter Tryd.func20, Tryd.ntmps20
    go_wp2
    go_ret
    exact ⟨by rw [FIN.out]; rfl, Below.refl _ _⟩
  have FIN := hid (show nearestV c e = nearB gainsL 16384 (cap40 c) (cap40 e) 8 by unfold nearestV; rw [if_neg (by omega)])
  have TT := hid T
  clear T
  have p1 : 0 < c := by omega
  have p2 : 0 < e := by omega
  clear h1 h2
  by_cases b1 : c ≤ 1099511627776
  · by_cases b2 : e ≤ 1099511627776
    · have FIN := hid (show nearestV c e = nearB gainsL 16384 c e 8 by rw [FIN.out]; unfold cap40; rw [if_pos b1, if_pos b2])
      go_enter Tryd.func20, Tryd.ntmps20
      go_wp2
      go_loopw [5, 6] (fun bv iv wr => ∃ (k : Nat), 1 ≤ k ∧ k ≤ 8 ∧ iv = .int .i64 k ∧ bv = .int .i64 (nearB gainsL 16384 (c) (e) k) ∧ Hid (Below w.heap.size w wr)) (fun _ iv _ => 8 - (intOf iv).toNat)
      case atStart => exact ⟨1, by omega, by omega, rfl, by simp [nearB], hid (Below.refl _ _)⟩
      case round =>
        obtain ⟨k, hk1, hk, rfl, rfl, HB⟩ := hrel
        have nb := nearB_range gainsL 16384 (c) (e) k
        have ST := hid (nearB_step gainsL 16384 (c) (e) (k := k) (by omega))
        by_cases hlt : k < 8
        · generalize nearB gainsL 16384 (c) (e) k = bst at *
          have TW := TT.out.below HB.out
          have q0 := TW.cell k hlt
          have q1 := TW.cell (k - 1) (by show k - 1 < 8; omega)
          have v0 := gainsL_at k
          have v1 := gainsL_at (k - 1)
          generalize gainsL.getD k 0 = y at *
          generalize gainsL.getD (k - 1) 0 = x at *
          obtain ⟨m, hm⟩ : ∃ m, m = k - 1 := ⟨_, rfl⟩
          rw [← hm] at q1
          have mb := mul_small (x := y + x) (X := 131072) (y := (e)) (Y := 1099511627776) (by omega) (by omega) (by omega) (by omega)
          have hw0 : IntKind.i64.wrap ((k : Int) - 1) = (m : Nat) := by rw [IntKind.wrap_i64]; omega
          have hw1 : IntKind.i64.wrap (y + x) = y + x := by rw [IntKind.wrap_i64]; omega
          have hw2 : IntKind.i64.wrap (32768 * (c)) = 32768 * (c) := by rw [IntKind.wrap_i64]; omega
          have hw3 : IntKind.i64.wrap ((y + x) * (e)) = (y + x) * (e) := by rw [IntKind.wrap_i64]; omega
          have i1 : (k : Int) < 8 := by omega
          have i2 : (m : Int) < 8 := by omega
          have i3 : (0 : Int) ≤ m := by omega
          have i4 : (0 : Int) ≤ k := by omega
          have HM := hid hm
          clear hm TW
          by_cases hgt : (y + x) * (e) < 32768 * (c)
          · have HS2 := hid (show nearB gainsL 16384 (c) (e) (k + 1) = k by rw [ST.out, if_pos (by omega)])
            have dd : decide ((y + x) * (e) < 32768 * (c)) = true := by simpa using hgt
            clear ST
            go_wp2
            go_quiet (fail)
            clear hw0 hw1 hw2 hw3
            go_wp2
            go_roundw
            case rel => exact ⟨k + 1, by omega, by omega, by go_num, by rw [HS2.out], hid (HB.out.trans ((below_drN _ _).mono HB.out.size))⟩
            case measure => simp [intOf] <;> omega
          · have HS2 := hid (show nearB gainsL 16384 (c) (e) (k + 1) = bst by rw [ST.out, if_neg (by omega)])
            have dd : decide ((y + x) * (e) < 32768 * (c)) = false := by simpa using hgt
            clear ST
            go_wp2
            go_quiet (fail)
            clear hw0 hw1 hw2 hw3
            go_wp2
            go_roundw
            case rel => exact ⟨k + 1, by omega, by omega, by go_num, by rw [HS2.out], hid (HB.out.trans ((below_drN _ _).mono HB.out.size))⟩
            case measure => simp [intOf] <;> omega
        · obtain rfl : k = 8 := by omega
          go_wp2
          go_ret
          exact ⟨by rw [FIN.out]; rfl, HB.out⟩
    · have b3 : 1099511627776 < e := by omega
      have FIN := hid (show nearestV c e = nearB gainsL 16384 c 1099511627776 8 by rw [FIN.out]; unfold cap40; rw [if_pos b1, if_neg b2])
      go_enter Tryd.func20, Tryd.ntmps20
      go_wp2
      go_loopw [5, 6] (fun bv iv wr => ∃ (k : Nat), 1 ≤ k ∧ k ≤ 8 ∧ iv = .int .i64 k ∧ bv = .int .i64 (nearB gainsL 16384 (c) (1099511627776) k) ∧ Hid (Below w.heap.size w wr)) (fun _ iv _ => 8 - (intOf iv).toNat)
      case atStart => exact ⟨1, by omega, by omega, rfl, by simp [nearB], hid (Below.refl _ _)⟩
      case round =>
        obtain ⟨k, hk1, hk, rfl, rfl, HB⟩ := hrel
        have nb := nearB_range gainsL 16384 (c) (1099511627776) k
        have ST := hid (nearB_step gainsL 16384 (c) (1099511627776) (k := k) (by omega))
        by_cases hlt : k < 8
        · generalize nearB gainsL 16384 (c) (1099511627776) k = bst at *
          have TW := TT.out.below HB.out
          have q0 := TW.cell k hlt
          have q1 := TW.cell (k - 1) (by show k - 1 < 8; omega)
          have v0 := gainsL_at k
          have v1 := gainsL_at (k - 1)
          generalize gainsL.getD k 0 = y at *
          generalize gainsL.getD (k - 1) 0 = x at *
          obtain ⟨m, hm⟩ : ∃ m, m = k - 1 := ⟨_, rfl⟩
          rw [← hm] at q1
          have mb := mul_small (x := y + x) (X := 131072) (y := (1099511627776)) (Y := 1099511627776) (by omega) (by omega) (by omega) (by omega)
          have hw0 : IntKind.i64.wrap ((k : Int) - 1) = (m : Nat) := by rw [IntKind.wrap_i64]; omega
          have hw1 : IntKind.i64.wrap (y + x) = y + x := by rw [IntKind.wrap_i64]; omega
          have hw2 : IntKind.i64.wrap (32768 * (c)) = 32768 * (c) := by rw [IntKind.wrap_i64]; omega
          have hw3 : IntKind.i64.wrap ((y + x) * (1099511627776)) = (y + x) * (1099511627776) := by rw [IntKind.wrap_i64]; omega
          have i1 : (k : Int) < 8 := by omega
          have i2 : (m : Int) < 8 := by omega
          have i3 : (0 : Int) ≤ m := by omega
          have i4 : (0 : Int) ≤ k := by omega
          have HM := hid hm
          clear hm TW
          by_cases hgt : (y + x) * (1099511627776) < 32768 * (c)
          · have HS2 := hid (show nearB gainsL 16384 (c) (1099511627776) (k + 1) = k by rw [ST.out, if_pos (by omega)])
            have dd : decide ((y + x) * (1099511627776) < 32768 * (c)) = true := by simpa using hgt
            clear ST
            go_wp2
            go_quiet (fail)
            clear hw0 hw1 hw2 hw3
            go_wp2
            go_roundw
            case rel => exact ⟨k + 1, by omega, by omega, by go_num, by rw [HS2.out], hid (HB.out.trans ((below_drN _ _).mono HB.out.size))⟩
            case measure => simp [intOf] <;> omega
          · have HS2 := hid (show nearB gainsL 16384 (c) (1099511627776) (k + 1) = bst by rw [ST.out, if_neg (by omega)])
            have dd : decide ((y + x) * (1099511627776) < 32768 * (c)) = false := by simpa using hgt
            clear ST
            go_wp2
            go_quiet (fail)
            clear hw0 hw1 hw2 hw3
            go_wp2
            go_roundw
            case rel => exact ⟨k + 1, by omega, by omega, by go_num, by rw [HS2.out], hid (HB.out.trans ((below_drN _ _).mono HB.out.size))⟩
            case measure => simp [intOf] <;> omega
        · obtain rfl : k = 8 := by omega
          go_wp2
          go_ret
          exact ⟨by rw [FIN.out]; rfl, HB.out⟩
  · have b4 : 1099511627776 < c := by omega
    by_cases b2 : e ≤ 1099511627776
    · have FIN := hid (show nearestV c e = nearB gainsL 16384 1099511627776 e 8 by rw [FIN.out]; unfold cap40; rw [if_neg b1, if_pos b2])
      go_enter Tryd.func20, Tryd.ntmps20
      go_wp2
      go_loopw [5, 6] (fun bv iv wr => ∃ (k : Nat), 1 ≤ k ∧ k ≤ 8 ∧ iv = .int .i64 k ∧ bv = .int .i64 (nearB gainsL 16384 (1099511627776) (e) k) ∧ Hid (Below w.heap.size w wr)) (fun _ iv _ => 8 - (intOf iv).toNat)
      case atStart => exact ⟨1, by omega, by omega, rfl, by simp [nearB], hid (Below.refl _ _)⟩
      case round =>
        obtain ⟨k, hk1, hk, rfl, rfl, HB⟩ := hrel
        have nb := nearB_range gainsL 16384 (1099511627776) (e) k
        have ST := hid (nearB_step gainsL 16384 (1099511627776) (e) (k := k) (by omega))
        by_cases hlt : k < 8
        · generalize nearB gainsL 16384 (1099511627776) (e) k = bst at *
          have TW := TT.out.below HB.out
          have q0 := TW.cell k hlt
          have q1 := TW.cell (k - 1) (by show k - 1 < 8; omega)
          have v0 := gainsL_at k
          have v1 := gainsL_at (k - 1)
          generalize gainsL.getD k 0 = y at *
          generalize gainsL.getD (k - 1) 0 = x at *
          obtain ⟨m, hm⟩ : ∃ m, m = k - 1 := ⟨_, rfl⟩
          rw [← hm] at q1
          have mb := mul_small (x := y + x) (X := 131072) (y := (e)) (Y := 1099511627776) (by omega) (by omega) (by omega) (by omega)
          have hw0 : IntKind.i64.wrap ((k : Int) - 1) = (m : Nat) := by rw [IntKind.wrap_i64]; omega
          have hw1 : IntKind.i64.wrap (y + x) = y + x := by rw [IntKind.wrap_i64]; omega
          have hw2 : IntKind.i64.wrap (32768 * (1099511627776)) = 32768 * (1099511627776) := by rw [IntKind.wrap_i64]; omega
          have hw3 : IntKind.i64.wrap ((y + x) * (e)) = (y + x) * (e) := by rw [IntKind.wrap_i64]; omega
          have i1 : (k : Int) < 8 := by omega
          have i2 : (m : Int) < 8 := by omega
          have i3 : (0 : Int) ≤ m := by omega
          have i4 : (0 : Int) ≤ k := by omega
          have HM := hid hm
          clear hm TW
          by_cases hgt : (y + x) * (e) < 32768 * (1099511627776)
          · have HS2 := hid (show nearB gainsL 16384 (1099511627776) (e) (k + 1) = k by rw [ST.out, if_pos (by omega)])
            have dd : decide ((y + x) * (e) < 32768 * (1099511627776)) = true := by simpa using hgt
            clear ST
            go_wp2
            go_quiet (fail)
            clear hw0 hw1 hw2 hw3
            go_wp2
            go_roundw
            case rel => exact ⟨k + 1, by omega, by omega, by go_num, by rw [HS2.out], hid (HB.out.trans ((below_drN _ _).mono HB.out.size))⟩
            case measure => simp [intOf] <;> omega
          · have HS2 := hid (show nearB gainsL 16384 (1099511627776) (e) (k + 1) = bst by rw [ST.out, if_neg (by omega)])
            have dd : decide ((y + x) * (e) < 32768 * (1099511627776)) = false := by simpa using hgt
            clear ST
            go_wp2
            go_quiet (fail)
            clear hw0 hw1 hw2 hw3
            go_wp2
            go_roundw
            case rel => exact ⟨k + 1, by omega, by omega, by go_num, by rw [HS2.out], hid (HB.out.trans ((below_drN _ _).mono HB.out.size))⟩
            case measure => simp [intOf] <;> omega
        · obtain rfl : k = 8 := by omega
          go_wp2
          go_ret
          exact ⟨by rw [FIN.out]; rfl, HB.out⟩
    · have b3 : 1099511627776 < e := by omega
      have FIN := hid (show nearestV c e = nearB gainsL 16384 1099511627776 1099511627776 8 by rw [FIN.out]; unfold cap40; rw [if_neg b1, if_neg b2])
      go_enter Tryd.func20, Tryd.ntmps20
      go_wp2
      go_loopw [5, 6] (fun bv iv wr => ∃ (k : Nat), 1 ≤ k ∧ k ≤ 8 ∧ iv = .int .i64 k ∧ bv = .int .i64 (nearB gainsL 16384 (1099511627776) (1099511627776) k) ∧ Hid (Below w.heap.size w wr)) (fun _ iv _ => 8 - (intOf iv).toNat)
      case atStart => exact ⟨1, by omega, by omega, rfl, by simp [nearB], hid (Below.refl _ _)⟩
      case round =>
        obtain ⟨k, hk1, hk, rfl, rfl, HB⟩ := hrel
        have nb := nearB_range gainsL 16384 (1099511627776) (1099511627776) k
        have ST := hid (nearB_step gainsL 16384 (1099511627776) (1099511627776) (k := k) (by omega))
        by_cases hlt : k < 8
        · generalize nearB gainsL 16384 (1099511627776) (1099511627776) k = bst at *
          have TW := TT.out.below HB.out
          have q0 := TW.cell k hlt
          have q1 := TW.cell (k - 1) (by show k - 1 < 8; omega)
          have v0 := gainsL_at k
          have v1 := gainsL_at (k - 1)
          generalize gainsL.getD k 0 = y at *
          generalize gainsL.getD (k - 1) 0 = x at *
          obtain ⟨m, hm⟩ : ∃ m, m = k - 1 := ⟨_, rfl⟩
          rw [← hm] at q1
          have mb := mul_small (x := y + x) (X := 131072) (y := (1099511627776)) (Y := 1099511627776) (by omega) (by omega) (by omega) (by omega)
          have hw0 : IntKind.i64.wrap ((k : Int) - 1) = (m : Nat) := by rw [IntKind.wrap_i64]; omega
          have hw1 : IntKind.i64.wrap (y + x) = y + x := by rw [IntKind.wrap_i64]; omega
          have hw2 : IntKind.i64.wrap (32768 * (1099511627776)) = 32768 * (1099511627776) := by rw [IntKind.wrap_i64]; omega
          have hw3 : IntKind.i64.wrap ((y + x) * (1099511627776)) = (y + x) * (1099511627776) := by rw [IntKind.wrap_i64]; omega
          have i1 : (k : Int) < 8 := by omega
          have i2 : (m : Int) < 8 := by omega
          have i3 : (0 : Int) ≤ m := by omega
          have i4 : (0 : Int) ≤ k := by omega
          have HM := hid hm
          clear hm TW
          by_cases hgt : (y + x) * (1099511627776) < 32768 * (1099511627776)
          · have HS2 := hid (show nearB gainsL 16384 (1099511627776) (1099511627776) (k + 1) = k by rw [ST.out, if_pos (by omega)])
            have dd : decide ((y + x) * (1099511627776) < 32768 * (1099511627776)) = true := by simpa using hgt
            clear ST
            go_wp2
            go_quiet (fail)
            clear hw0 hw1 hw2 hw3
            go_wp2
            go_roundw
            case rel => exact ⟨k + 1, by omega, by omega, by go_num, by rw [HS2.out], hid (HB.out.trans ((below_drN _ _).mono HB.out.size))⟩
            case measure => simp [intOf] <;> omega
          · have HS2 := hid (show nearB gainsL 16384 (1099511627776) (1099511627776) (k + 1) = bst by rw [ST.out, if_neg (by omega)])
            have dd : decide ((y + x) * (1099511627776) < 32768 * (1099511627776)) = false := by simpa using hgt
            clear ST
            go_wp2
            go_quiet (fail)
            clear hw0 hw1 hw2 hw3
            go_wp2
            go_roundw
            case rel => exact ⟨k + 1, by omega, by omega, by go_num, by rw [HS2.out], hid (HB.out.trans ((below_drN _ _).mono HB.out.size))⟩
            case measure => simp [intOf] <;> omega
        · obtain rfl : k = 8 := by omega
          go_wp2
          go_ret
          exact ⟨by rw [FIN.out]; rfl, HB.out⟩

set_option maxHeartbeats 4000000 in
theorem refNearest_any (c e : Int) (w : World) (T : TabS w 3 gainsL) (c1 : -9223372036854775808 ≤ c) (c2 : c ≤ 9223372036854775807) (e1 : -9223372036854775808 ≤ e) (e2 : e ≤ 9223372036854775807) :
    Calls Tryd.prog 21 #[.int .i64 c, .int .i64 e] w fun e' w' => e' = .returned (.int .i64 (nearestV c e)) ∧ Below w.heap.size w w' := by
  by_cases h1 : c ≤ 0
  · have FIN := hid (show nearestV c e = 0 by unfold nearestV; rw [if_pos (.inl h1)])
    clear T
    go_enter Tryd.func21, Tryd.ntmps21
    go_wp2
    go_ret
    exact ⟨by rw [FIN.out]; rfl, Below.refl _ _⟩
  by_cases h2 : e ≤ 0
  · have FIN := hid (show nearestV c e = 0 by unfold nearestV; rw [if_pos (.inr h2)])
    clear T
    go_enter Tryd.func21, Tryd.ntmps21
    go_wp2
    go_ret
    exact ⟨by rw [FIN.out]; rfl, Below.refl _ _⟩
  have FIN := hid (show nearestV c e = nearB gainsL 16384 (cap40 c) (cap40 e) 8 by unfold nearestV; rw [if_neg (by omega)])
  obtain ⟨A, cp, _, h0, hR, _⟩ := T
  have h0 : w.cell? ⟨3, 0, none⟩ = some (.slice A 8 cp) := h0
  have p1 : 0 < c := by omega
  have p2 : 0 < e := by omega
  clear h1 h2
  have k1 : 0 < cap40 c ∧ cap40 c ≤ 1099511627776 := by unfold cap40; split <;> omega
  have k2 : 0 < cap40 e ∧ cap40 e ≤ 1099511627776 := by unfold cap40; split <;> omega
  have K := hid (nearer_any A cp 8 gainsL 16384 (cap40 c) (cap40 e) w hR rfl (by omega) (by omega) gainsL_at (by omega) (by omega) (by omega) (by omega) (by omega) (by omega))
  clear hR k1 k2
  by_cases b1 : c ≤ 1099511627776
  · have e1 : cap40 c = c := by unfold cap40; rw [if_pos b1]
    by_cases b2 : e ≤ 1099511627776
    · have e2 : cap40 e = e := by unfold cap40; rw [if_pos b2]
      rw [e1, e2] at K FIN
      clear e1 e2
      go_enter Tryd.func21, Tryd.ntmps21
      go_wp2_with fail
      all_goals refine K.out.mono ?_
      all_goals rintro e' w' ⟨rfl, hB⟩
      all_goals have B1 := hid hB
      all_goals clear hB
      all_goals go_wp2
      all_goals
        go_ret
        exact ⟨by rw [FIN.out]; rfl, B1.out⟩
    · have e2 : cap40 e = 1099511627776 := by unfold cap40; rw [if_neg b2]
      have b3 : 1099511627776 < e := by omega
      rw [e1, e2] at K FIN
      clear e1 e2
      go_enter Tryd.func21, Tryd.ntmps21
      go_wp2_with fail
      all_goals refine K.out.mono ?_
      all_goals rintro e' w' ⟨rfl, hB⟩
      all_goals have B1 := hid hB
      all_goals clear hB
      all_goals go_wp2
      all_goals
        go_ret
        exact ⟨by rw [FIN.out]; rfl, B1.out⟩
  · have e1 : cap40 c = 1099511627776 := by unfold cap40; rw [if_neg b1]
    have b4 : 1099511627776 < c := by omega
    by_cases b2 : e ≤ 1099511627776
    · have e2 : cap40 e = e := by unfold cap40; rw [if_pos b2]
      rw [e1, e2] at K FIN
      clear e1 e2
      go_enter Tryd.func21, Tryd.ntmps21
      go_wp2_with fail
      all_goals refine K.out.mono ?_
      all_goals rintro e' w' ⟨rfl, hB⟩
      all_goals have B1 := hid hB
      all_goals clear hB
      all_goals go_wp2
      all_goals
        go_ret
        exact ⟨by rw [FIN.out]; rfl, B1.out⟩
    · have e2 : cap40 e = 1099511627776 := by unfold cap40; rw [if_neg b2]
      have b3 : 1099511627776 < e := by omega
      rw [e1, e2] at K FIN
      clear e1 e2
      go_enter Tryd.func21, Tryd.ntmps21
      go_wp2_with fail
      all_goals refine K.out.mono ?_
      all_goals rintro e' w' ⟨rfl, hB⟩
      all_goals have B1 := hid hB
      all_goals clear hB
      all_goals go_wp2
      all_goals
        go_ret
        exact ⟨by rw [FIN.out]; rfl, B1.out⟩

set_option maxHeartbeats 1000000 in
theorem walkPitchNearests (w : World) (T0 : TabA w 2 gainsL) (T1 : TabS w 3 gainsL) (c : Int) (hc : -9223372036854775808 ≤ c ∧ c ≤ 9223372036854775807) (e : Int) (he : -9223372036854775808 ≤ e ∧ e ≤ 9223372036854775807) :
    Calls Tryd.prog 7 #[.int .i64 c, .int .i64 e] w fun e' w' => e' = .returned (.bool true) ∧ Below w.heap.size w w' := by
  have K1 := hid (pitchNearest_any c e w T0 hc.1 hc.2 he.1 he.2)
  have K2 := hid (fun w' (h : Below w.heap.size w w') => refNearest_any c e w' (T1.below' h (Nat.le_refl _)) hc.1 hc.2 he.1 he.2)
  have K3 := hid (fun w' (h : Below w.heap.size w w') => pitchNearest_any 1 1 w' (T0.below' h (Nat.le_refl _)) (by omega) (by omega) (by omega) (by omega))
  have h6 : nearestV 1 1 = 6 := by decide
  rw [h6] at K3
  clear h6 T0 T1 hc he
  generalize nearestV c e = v at *
  go_enter Tryd.func7, Tryd.ntmps7
  go_wp2_with fail
  refine K1.out.mono ?_
  rintro e1 w1 ⟨rfl, hB⟩
  have B1 := hid hB
  clear hB
  go_wp2_with fail
  refine (K2.out w1 B1.out).mono ?_
  rintro e1 w2 ⟨rfl, hB⟩
  have B2 := hid (B1.out.trans (hB.mono B1.out.size))
  clear hB
  go_wp2_with fail
  refine (K3.out w2 B2.out).mono ?_
  rintro e1 w3 ⟨rfl, hB⟩
  have B3 := hid (B2.out.trans (hB.mono B2.out.size))
  clear hB
  go_wp2
  go_ret
  exact ⟨rfl, B3.out⟩
end Go.Proofs.YtnielfleokbloaaDoor
