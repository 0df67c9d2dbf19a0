/- The walks of the program's gain.One and the reference's GainOne, and of the law GainOnes. -/
import Derived.Test.YtnielfleokbloaaDoorNearR
import Derived.Test.YtnielfleokbloaaDoorPushN
import Derived.Test.YtnielfleokbloaaDoorPastM
import Derived.BigQuiet
import Derived.Deep.QuietTactic
namespace Go.Proofs.YtnielfleokbloaaDoor
set_option linter.unusedVariables false
set_option linter.unusedSimpArgs false
set_option maxRecDepth 100000
open Go.RowKit

def glF (k : Nat) : Int := glV (k : Nat)
def glL : List Int := (List.range 32).map glF
theorem glL_len : glL.length = 32 := by simp [glL]
theorem glL_get {k : Nat} (h : k < 32) : glL.getD k 0 = glV (k : Nat) := range_get glF h
theorem glL_at (i : Nat) : 0 ≤ glL.getD i 0 ∧ glL.getD i 0 ≤ 32767 := by
  by_cases h : i < 32
  · rw [glL_get h]; exact glV_range _
  · rw [List.getD_eq_getElem?_getD, List.getElem?_eq_none (by rw [glL_len]; omega)]; simp
def cap60 (x : Int) : Int := if x ≤ 1152921504606846976 then x else 1152921504606846976
def cap44 (x : Int) : Int := if x ≤ 17592186044416 then x else 17592186044416
def gainOneV (c e : Int) : Int := if c ≤ 0 ∨ e ≤ 0 then 0 else nearB glL 1 (cap60 c) (cap44 e) 32


set_option maxHeartbeats 4000000 in
theorem gainOne_any (c e : Int) (w : World) (T : TabA w 0 rootsL) (c1 : -9223372036854775808 ≤ c) (c2 : c ≤ 9223372036854775807) (e1 : -9223372036854775808 ≤ e) (e2 : e ≤ 9223372036854775807) :
    Calls Tryd.prog 16 #[.int .i64 c, .int .i64 e] w fun e' w' => e' = .returned (.int .i64 (gainOneV c e)) ∧ w = w' := by
  by_cases h1 : c ≤ 0
  · have FIN := hid (show gainOneV c e = 0 by unfold gainOneV; rw [if_pos (.inl h1)])
    clear T
    go_enter Tryd.func16, Tryd.ntmps16
    go_wp2
    go_ret
    exact ⟨by rw [FIN.out]; rfl, rfl⟩
  by_cases h2 : e ≤ 0
  · have FIN := hid (show gainOneV c e = 0 by unfold gainOneV; rw [if_pos (.inr h2)])
    clear T
    go_enter Tryd.func16, Tryd.ntmps16
    go_wp2
    go_ret
    exact ⟨by rw [FIN.out]; rfl, rfl⟩
  have FIN := hid (show gainOneV c e = nearB glL 1 (cap60 c) (cap44 e) 32 by unfold gainOneV; rw [if_neg (by omega)])
  have KL := hid (fun n => gainLevel_any n w T)
  clear T
  have p1 : 0 < c := by omega
  have p2 : 0 < e := by omega
  clear h1 h2
  by_cases b1 : c ≤ 1152921504606846976
  · by_cases b2 : e ≤ 17592186044416
    · have FIN := hid (show gainOneV c e = nearB glL 1 c e 32 by rw [FIN.out]; unfold cap60 cap44; rw [if_pos b1, if_pos b2])
      go_enter Tryd.func16, Tryd.ntmps16
      go_wp2
      go_loop [5, 6] (fun bv iv => ∃ (k : Nat), 1 ≤ k ∧ k ≤ 32 ∧ iv = .int .i64 k ∧ bv = .int .i64 (nearB glL 1 (c) (e) k)) (fun _ iv => 32 - (intOf iv).toNat)
      case atStart => exact ⟨1, by omega, by omega, rfl, by simp [nearB]⟩
      case round =>
        obtain ⟨k, hk1, hk, rfl, rfl⟩ := hrel
        have nb := nearB_range glL 1 (c) (e) k
        have ST := hid (nearB_step glL 1 (c) (e) (k := k) (by omega))
        by_cases hlt : k < 32
        · generalize nearB glL 1 (c) (e) k = bst at *
          have K1 := KL.out ((k : Int) - 1)
          have K2 := KL.out (k : Nat)
          rw [show glV ((k : Int) - 1) = glL.getD (k - 1) 0 by rw [glL_get (by omega)]; congr 1; omega] at K1
          rw [← glL_get hlt] at K2
          have v0 := glL_at k
          have v1 := glL_at (k - 1)
          generalize glL.getD k 0 = y at *
          generalize glL.getD (k - 1) 0 = x at *
          have mb := mul_small (x := x + y) (X := 65534) (y := (e)) (Y := 17592186044416) (by omega) (by omega) (by omega) (by omega)
          have hcomm : (y + x) * (e) = (x + y) * (e) := by rw [Int.add_comm]
          obtain ⟨mb1, mb2⟩ := mb
          have K1' := hid K1
          have K2' := hid K2
          clear K1 K2
          have l1 : (k : Int) ≤ 31 := by omega
          by_cases hgt : (x + y) * (e) < 2 * (c)
          · have HS2 := hid (show nearB glL 1 (c) (e) (k + 1) = k by rw [ST.out, if_pos (by rw [hcomm]; omega)])
            clear ST hcomm
            go_wp2_with (first
              | (go_at_call 14; (with_reducible refine K1'.out.mono ?_); rintro e1 w' ⟨rfl, rfl⟩)
              | (go_at_call 14; (with_reducible refine K2'.out.mono ?_); rintro e1 w' ⟨rfl, rfl⟩))
            all_goals
              go_round
              case rel => exact ⟨k + 1, by omega, by omega, by go_num, by rw [HS2.out]⟩
              case measure => simp [intOf] <;> omega
          · have HS2 := hid (show nearB glL 1 (c) (e) (k + 1) = bst by rw [ST.out, if_neg (by rw [hcomm]; omega)])
            clear ST hcomm
            go_wp2_with (first
              | (go_at_call 14; (with_reducible refine K1'.out.mono ?_); rintro e1 w' ⟨rfl, rfl⟩)
              | (go_at_call 14; (with_reducible refine K2'.out.mono ?_); rintro e1 w' ⟨rfl, rfl⟩))
            all_goals
              go_round
              case rel => exact ⟨k + 1, by omega, by omega, by go_num, by rw [HS2.out]⟩
              case measure => simp [intOf] <;> omega
        · obtain rfl : k = 32 := by omega
          go_wp2
          go_ret
          exact ⟨by rw [FIN.out]; rfl, rfl⟩
    · have b3 : 17592186044416 < e := by omega
      have FIN := hid (show gainOneV c e = nearB glL 1 c 17592186044416 32 by rw [FIN.out]; unfold cap60 cap44; rw [if_pos b1, if_neg b2])
      go_enter Tryd.func16, Tryd.ntmps16
      go_wp2
      go_loop [5, 6] (fun bv iv => ∃ (k : Nat), 1 ≤ k ∧ k ≤ 32 ∧ iv = .int .i64 k ∧ bv = .int .i64 (nearB glL 1 (c) (17592186044416) k)) (fun _ iv => 32 - (intOf iv).toNat)
      case atStart => exact ⟨1, by omega, by omega, rfl, by simp [nearB]⟩
      case round =>
        obtain ⟨k, hk1, hk, rfl, rfl⟩ := hrel
        have nb := nearB_range glL 1 (c) (17592186044416) k
        have ST := hid (nearB_step glL 1 (c) (17592186044416) (k := k) (by omega))
        by_cases hlt : k < 32
        · generalize nearB glL 1 (c) (17592186044416) k = bst at *
          have K1 := KL.out ((k : Int) - 1)
          have K2 := KL.out (k : Nat)
          rw [show glV ((k : Int) - 1) = glL.getD (k - 1) 0 by rw [glL_get (by omega)]; congr 1; omega] at K1
          rw [← glL_get hlt] at K2
          have v0 := glL_at k
          have v1 := glL_at (k - 1)
          generalize glL.getD k 0 = y at *
          generalize glL.getD (k - 1) 0 = x at *
          have mb := mul_small (x := x + y) (X := 65534) (y := (17592186044416)) (Y := 17592186044416) (by omega) (by omega) (by omega) (by omega)
          have hcomm : (y + x) * (17592186044416) = (x + y) * (17592186044416) := by rw [Int.add_comm]
          obtain ⟨mb1, mb2⟩ := mb
          have K1' := hid K1
          have K2' := hid K2
          clear K1 K2
          have l1 : (k : Int) ≤ 31 := by omega
          by_cases hgt : (x + y) * (17592186044416) < 2 * (c)
          · have HS2 := hid (show nearB glL 1 (c) (17592186044416) (k + 1) = k by rw [ST.out, if_pos (by rw [hcomm]; omega)])
            clear ST hcomm
            go_wp2_with (first
              | (go_at_call 14; (with_reducible refine K1'.out.mono ?_); rintro e1 w' ⟨rfl, rfl⟩)
              | (go_at_call 14; (with_reducible refine K2'.out.mono ?_); rintro e1 w' ⟨rfl, rfl⟩))
            all_goals
              go_round
              case rel => exact ⟨k + 1, by omega, by omega, by go_num, by rw [HS2.out]⟩
              case measure => simp [intOf] <;> omega
          · have HS2 := hid (show nearB glL 1 (c) (17592186044416) (k + 1) = bst by rw [ST.out, if_neg (by rw [hcomm]; omega)])
            clear ST hcomm
            go_wp2_with (first
              | (go_at_call 14; (with_reducible refine K1'.out.mono ?_); rintro e1 w' ⟨rfl, rfl⟩)
              | (go_at_call 14; (with_reducible refine K2'.out.mono ?_); rintro e1 w' ⟨rfl, rfl⟩))
            all_goals
              go_round
              case rel => exact ⟨k + 1, by omega, by omega, by go_num, by rw [HS2.out]⟩
              case measure => simp [intOf] <;> omega
        · obtain rfl : k = 32 := by omega
          go_wp2
          go_ret
          exact ⟨by rw [FIN.out]; rfl, rfl⟩
  · have b4 : 1152921504606846976 < c := by omega
    by_cases b2 : e ≤ 17592186044416
    · have FIN := hid (show gainOneV c e = nearB glL 1 1152921504606846976 e 32 by rw [FIN.out]; unfold cap60 cap44; rw [if_neg b1, if_pos b2])
      go_enter Tryd.func16, Tryd.ntmps16
      go_wp2
      go_loop [5, 6] (fun bv iv => ∃ (k : Nat), 1 ≤ k ∧ k ≤ 32 ∧ iv = .int .i64 k ∧ bv = .int .i64 (nearB glL 1 (1152921504606846976) (e) k)) (fun _ iv => 32 - (intOf iv).toNat)
      case atStart => exact ⟨1, by omega, by omega, rfl, by simp [nearB]⟩
      case round =>
        obtain ⟨k, hk1, hk, rfl, rfl⟩ := hrel
        have nb := nearB_range glL 1 (1152921504606846976) (e) k
        have ST := hid (nearB_step glL 1 (1152921504606846976) (e) (k := k) (by omega))
        by_cases hlt : k < 32
        · generalize nearB glL 1 (1152921504606846976) (e) k = bst at *
          have K1 := KL.out ((k : Int) - 1)
          have K2 := KL.out (k : Nat)
          rw [show glV ((k : Int) - 1) = glL.getD (k - 1) 0 by rw [glL_get (by omega)]; congr 1; omega] at K1
          rw [← glL_get hlt] at K2
          have v0 := glL_at k
          have v1 := glL_at (k - 1)
          generalize glL.getD k 0 = y at *
          generalize glL.getD (k - 1) 0 = x at *
          have mb := mul_small (x := x + y) (X := 65534) (y := (e)) (Y := 17592186044416) (by omega) (by omega) (by omega) (by omega)
          have hcomm : (y + x) * (e) = (x + y) * (e) := by rw [Int.add_comm]
          obtain ⟨mb1, mb2⟩ := mb
          have K1' := hid K1
          have K2' := hid K2
          clear K1 K2
          have l1 : (k : Int) ≤ 31 := by omega
          by_cases hgt : (x + y) * (e) < 2 * (1152921504606846976)
          · have HS2 := hid (show nearB glL 1 (1152921504606846976) (e) (k + 1) = k by rw [ST.out, if_pos (by rw [hcomm]; omega)])
            clear ST hcomm
            go_wp2_with (first
              | (go_at_call 14; (with_reducible refine K1'.out.mono ?_); rintro e1 w' ⟨rfl, rfl⟩)
              | (go_at_call 14; (with_reducible refine K2'.out.mono ?_); rintro e1 w' ⟨rfl, rfl⟩))
            all_goals
              go_round
              case rel => exact ⟨k + 1, by omega, by omega, by go_num, by rw [HS2.out]⟩
              case measure => simp [intOf] <;> omega
          · have HS2 := hid (show nearB glL 1 (1152921504606846976) (e) (k + 1) = bst by rw [ST.out, if_neg (by rw [hcomm]; omega)])
            clear ST hcomm
            go_wp2_with (first
              | (go_at_call 14; (with_reducible refine K1'.out.mono ?_); rintro e1 w' ⟨rfl, rfl⟩)
              | (go_at_call 14; (with_reducible refine K2'.out.mono ?_); rintro e1 w' ⟨rfl, rfl⟩))
            all_goals
              go_round
              case rel => exact ⟨k + 1, by omega, by omega, by go_num, by rw [HS2.out]⟩
              case measure => simp [intOf] <;> omega
        · obtain rfl : k = 32 := by omega
          go_wp2
          go_ret
          exact ⟨by rw [FIN.out]; rfl, rfl⟩
    · have b3 : 17592186044416 < e := by omega
      have FIN := hid (show gainOneV c e = nearB glL 1 1152921504606846976 17592186044416 32 by rw [FIN.out]; unfold cap60 cap44; rw [if_neg b1, if_neg b2])
      go_enter Tryd.func16, Tryd.ntmps16
      go_wp2
      go_loop [5, 6] (fun bv iv => ∃ (k : Nat), 1 ≤ k ∧ k ≤ 32 ∧ iv = .int .i64 k ∧ bv = .int .i64 (nearB glL 1 (1152921504606846976) (17592186044416) k)) (fun _ iv => 32 - (intOf iv).toNat)
      case atStart => exact ⟨1, by omega, by omega, rfl, by simp [nearB]⟩
      case round =>
        obtain ⟨k, hk1, hk, rfl, rfl⟩ := hrel
        have nb := nearB_range glL 1 (1152921504606846976) (17592186044416) k
        have ST := hid (nearB_step glL 1 (1152921504606846976) (17592186044416) (k := k) (by omega))
        by_cases hlt : k < 32
        · generalize nearB glL 1 (1152921504606846976) (17592186044416) k = bst at *
          have K1 := KL.out ((k : Int) - 1)
          have K2 := KL.out (k : Nat)
          rw [show glV ((k : Int) - 1) = glL.getD (k - 1) 0 by rw [glL_get (by omega)]; congr 1; omega] at K1
          rw [← glL_get hlt] at K2
          have v0 := glL_at k
          have v1 := glL_at (k - 1)
          generalize glL.getD k 0 = y at *
          generalize glL.getD (k - 1) 0 = x at *
          have mb := mul_small (x := x + y) (X := 65534) (y := (17592186044416)) (Y := 17592186044416) (by omega) (by omega) (by omega) (by omega)
          have hcomm : (y + x) * (17592186044416) = (x + y) * (17592186044416) := by rw [Int.add_comm]
          obtain ⟨mb1, mb2⟩ := mb
          have K1' := hid K1
          have K2' := hid K2
          clear K1 K2
          have l1 : (k : Int) ≤ 31 := by omega
          by_cases hgt : (x + y) * (17592186044416) < 2 * (1152921504606846976)
          · have HS2 := hid (show nearB glL 1 (1152921504606846976) (17592186044416) (k + 1) = k by rw [ST.out, if_pos (by rw [hcomm]; omega)])
            clear ST hcomm
            go_wp2_with (first
              | (go_at_call 14; (with_reducible refine K1'.out.mono ?_); rintro e1 w' ⟨rfl, rfl⟩)
              | (go_at_call 14; (with_reducible refine K2'.out.mono ?_); rintro e1 w' ⟨rfl, rfl⟩))
            all_goals
              go_round
              case rel => exact ⟨k + 1, by omega, by omega, by go_num, by rw [HS2.out]⟩
              case measure => simp [intOf] <;> omega
          · have HS2 := hid (show nearB glL 1 (1152921504606846976) (17592186044416) (k + 1) = bst by rw [ST.out, if_neg (by rw [hcomm]; omega)])
            clear ST hcomm
            go_wp2_with (first
              | (go_at_call 14; (with_reducible refine K1'.out.mono ?_); rintro e1 w' ⟨rfl, rfl⟩)
              | (go_at_call 14; (with_reducible refine K2'.out.mono ?_); rintro e1 w' ⟨rfl, rfl⟩))
            all_goals
              go_round
              case rel => exact ⟨k + 1, by omega, by omega, by go_num, by rw [HS2.out]⟩
              case measure => simp [intOf] <;> omega
        · obtain rfl : k = 32 := by omega
          go_wp2
          go_ret
          exact ⟨by rw [FIN.out]; rfl, rfl⟩

set_option maxHeartbeats 4000000 in
theorem refGainOne_any (c e : Int) (w : World) (T : TabS w 1 rootsL) (c1 : -9223372036854775808 ≤ c) (c2 : c ≤ 9223372036854775807) (e1 : -9223372036854775808 ≤ e) (e2 : e ≤ 9223372036854775807) :
    Calls Tryd.prog 17 #[.int .i64 c, .int .i64 e] w fun e' w' => e' = .returned (.int .i64 (gainOneV c e)) ∧ Below w.heap.size w w' := by
  by_cases h1 : c ≤ 0
  · have FIN := hid (show gainOneV c e = 0 by unfold gainOneV; rw [if_pos (.inl h1)])
    clear T
    go_enter Tryd.func17, Tryd.ntmps17
    go_wp2
    go_ret
    exact ⟨by rw [FIN.out]; rfl, Below.refl _ _⟩
  by_cases h2 : e ≤ 0
  · have FIN := hid (show gainOneV c e = 0 by unfold gainOneV; rw [if_pos (.inr h2)])
    clear T
    go_enter Tryd.func17, Tryd.ntmps17
    go_wp2
    go_ret
    exact ⟨by rw [FIN.out]; rfl, Below.refl _ _⟩
  have FIN := hid (show gainOneV c e = nearB glL 1 (cap60 c) (cap44 e) 32 by unfold gainOneV; rw [if_neg (by omega)])
  have KL := hid (fun n w' (h : Below w.heap.size w w') => refGainLevel_any n w' (T.below' h (Nat.le_refl _)))
  clear T
  have p1 : 0 < c := by omega
  have p2 : 0 < e := by omega
  clear h1 h2
  have k1 : 0 < cap60 c ∧ cap60 c ≤ 1152921504606846976 := by unfold cap60; split <;> omega
  have k2 : 0 < cap44 e ∧ cap44 e ≤ 17592186044416 := by unfold cap44; split <;> omega
  have K := hid (fun W A cp (hR : Rs W W.heap.size A glL) => nearer_any A cp 32 glL 1 (cap60 c) (cap44 e) W hR glL_len (by omega) (by omega) (fun i => by have := glL_at i; omega) (by omega) (by omega) (by omega) (by omega) (by omega) (by omega))
  clear k1 k2
  go_enter Tryd.func17, Tryd.ntmps17
  go_wp2
  go_loopw [5, 6] (fun ov iv wr => ∃ (k : Nat) (A : Option Addr) (cp : Nat), k ≤ 32 ∧ iv = .int .i64 k ∧ ov = .slice A k cp ∧ Hid (Own wr w.heap.size A cp ((List.range k).map glF)) ∧ Hid (Below w.heap.size w wr)) (fun _ iv _ => 32 - (intOf iv).toNat)
  case atStart => exact ⟨0, none, 0, by omega, rfl, rfl, hid Own.nil, hid (Below.refl _ _)⟩
  case round =>
    obtain ⟨k, A, cp, hk, rfl, rfl, HO, HB⟩ := hrel
    by_cases hlt : k < 32
    · have KK := KL.out (k : Nat) wr HB.out
      unfold GlAns at KK
      rw [show glV (k : Nat) = glF k from rfl] at KK
      generalize hx : glF k = x at *
      have HX := hid hx
      have KK' := hid KK
      clear hx KK
      go_wp2_with fail
      refine KK'.out.mono ?_
      rintro e' w1 ⟨rfl, hB⟩
      have O1 := hid (HO.out.below hB)
      have B1 := hid (HB.out.trans (hB.mono HB.out.size))
      clear hB HO
      go_wp2_with (at_builtin; refine wpList_pushN rfl (.tmp 24) (.tmp 26) rfl w.heap.size A cp k ((List.range k).map glF) rfl (by simp) (O1.out.alloc _) ⟨w1.heap.size, 0, none⟩ x rfl (cell_new w1 _ _) (by omega) (Nat.le_trans B1.out.size (by simp)) ?_; intro A2 c2 w2 hO hG hA; have O2 := hid hO; have G2 := hid hG; clear hO hG hA)
      have N1 := hid (show Own w2 w.heap.size A2 c2 ((List.range (k + 1)).map glF) by rw [← snoc_range, HX.out]; exact O2.out)
      have N4 := hid (below_grown (B1.out.alloc B1.out.size _) (O1.out.alloc _) G2.out (Nat.le_trans B1.out.size (by simp)))
      go_wp2
      go_roundw
      case rel => exact ⟨k + 1, A2, c2, by omega, by go_num, rfl, N1, N4⟩
      case measure => simp [intOf] <;> omega
    · obtain rfl : k = 32 := by omega
      rw [show (List.range 32).map glF = glL from rfl] at HO
      clear hlt KL
      by_cases b1 : c ≤ 1152921504606846976
      · have q1 : cap60 c = c := by unfold cap60; rw [if_pos b1]
        by_cases b2 : e ≤ 17592186044416
        · have q2 : cap44 e = e := by unfold cap44; rw [if_pos b2]
          rw [q1, q2] at K FIN
          clear q1 q2
          go_wp2_with fail
          all_goals refine (K.out wr A cp HO.out.reads).mono ?_
          all_goals rintro e' w' ⟨rfl, hB⟩
          all_goals have B1 := hid (HB.out.trans (hB.mono HB.out.size))
          all_goals clear hB
          all_goals go_wp2
          all_goals
            go_ret
            exact ⟨by rw [FIN.out]; rfl, B1.out⟩
        · have q2 : cap44 e = 17592186044416 := by unfold cap44; rw [if_neg b2]
          have b3 : 17592186044416 < e := by omega
          rw [q1, q2] at K FIN
          clear q1 q2
          go_wp2_with fail
          all_goals refine (K.out wr A cp HO.out.reads).mono ?_
          all_goals rintro e' w' ⟨rfl, hB⟩
          all_goals have B1 := hid (HB.out.trans (hB.mono HB.out.size))
          all_goals clear hB
          all_goals go_wp2
          all_goals
            go_ret
            exact ⟨by rw [FIN.out]; rfl, B1.out⟩
      · have q1 : cap60 c = 1152921504606846976 := by unfold cap60; rw [if_neg b1]
        have b4 : 1152921504606846976 < c := by omega
        by_cases b2 : e ≤ 17592186044416
        · have q2 : cap44 e = e := by unfold cap44; rw [if_pos b2]
          rw [q1, q2] at K FIN
          clear q1 q2
          go_wp2_with fail
          all_goals refine (K.out wr A cp HO.out.reads).mono ?_
          all_goals rintro e' w' ⟨rfl, hB⟩
          all_goals have B1 := hid (HB.out.trans (hB.mono HB.out.size))
          all_goals clear hB
          all_goals go_wp2
          all_goals
            go_ret
            exact ⟨by rw [FIN.out]; rfl, B1.out⟩
        · have q2 : cap44 e = 17592186044416 := by unfold cap44; rw [if_neg b2]
          have b3 : 17592186044416 < e := by omega
          rw [q1, q2] at K FIN
          clear q1 q2
          go_wp2_with fail
          all_goals refine (K.out wr A cp HO.out.reads).mono ?_
          all_goals rintro e' w' ⟨rfl, hB⟩
          all_goals have B1 := hid (HB.out.trans (hB.mono HB.out.size))
          all_goals clear hB
          all_goals go_wp2
          all_goals
            go_ret
            exact ⟨by rw [FIN.out]; rfl, B1.out⟩

set_option maxHeartbeats 1000000 in
theorem walkGainOnes (w : World) (T0 : TabA w 0 rootsL) (T1 : TabS w 1 rootsL) (c : Int) (hc : -9223372036854775808 ≤ c ∧ c ≤ 9223372036854775807) (e : Int) (he : -9223372036854775808 ≤ e ∧ e ≤ 9223372036854775807) :
    Calls Tryd.prog 5 #[.int .i64 c, .int .i64 e] w fun e' w' => e' = .returned (.bool true) ∧ Below w.heap.size w w' := by
  have K1 := hid (gainOne_any c e w T0 hc.1 hc.2 he.1 he.2)
  have K2 := hid (refGainOne_any c e w T1 hc.1 hc.2 he.1 he.2)
  have K3 := hid (fun w' (h : Below w.heap.size w w') => gainOne_any 1073741824 1 w' (T0.below' h (Nat.le_refl _)) (by omega) (by omega) (by omega) (by omega))
  have h6 : gainOneV 1073741824 1 = 31 := by decide +kernel
  rw [h6] at K3
  clear h6 T0 T1 hc he
  generalize gainOneV c e = v at *
  go_enter Tryd.func5, Tryd.ntmps5
  go_wp2_with fail
  refine K1.out.mono ?_
  rintro e1 w1 ⟨rfl, rfl⟩
  go_wp2_with fail
  refine K2.out.mono ?_
  rintro e1 w2 ⟨rfl, hB⟩
  have B2 := hid hB
  clear hB
  go_wp2_with fail
  refine (K3.out w2 B2.out).mono ?_
  rintro e1 w3 ⟨rfl, rfl⟩
  go_wp2
  go_ret
  exact ⟨rfl, B2.out⟩
end Go.Proofs.YtnielfleokbloaaDoor
