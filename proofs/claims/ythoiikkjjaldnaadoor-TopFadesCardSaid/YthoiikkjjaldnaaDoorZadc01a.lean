/- Texts that the law rests on, laid together: PowW, EnerW, BetterM, PowR. -/
import Derived.Test.YthoiikkjjaldnaaDoorZ6b4648
import Derived.Test.YthoiikkjjaldnaaDoorZ9fe276
import Derived.Test.YthoiikkjjaldnaaDoorZ7a1a29
import Derived.Test.YthoiikkjjaldnaaDoorZ7f3e4a
import Derived.Test.YthoiikkjjaldnaaDoorZe90ea5
import Derived.BigQuiet
import Derived.Deep.QuietTactic
import Derived.WalkKit
import Derived.Test.YthoiikkjjaldnaaDoorZ104825
import Derived.Test.YthoiikkjjaldnaaDoorZ753720
/- The walks of a power of two and of a gain's level. -/
namespace Go.Proofs.YthoiikkjjaldnaaDoor
set_option linter.unusedVariables false
set_option linter.unusedSimpArgs false
set_option maxRecDepth 100000
open Go.RowKit

def powR (k : Nat) : Int := rootsL.getD k 0
def powBit (f : Int) (k : Nat) : Bool := decide (f / 2 ^ (14 - k) % 2 = 1)
def powX (f : Int) : Nat → Int
  | 0 => 1073741824
  | k + 1 => if powBit f k then powX f k + powX f k * powR k / 1073741824 else powX f k
def powU : Nat → Int
  | 0 => 1073741824
  | k + 1 => powU k + powU k * powR k / 1073741824
def powB (n f : Int) : Bool := decide ((0 ≤ n ∧ n ≤ 30) ∧ 0 ≤ f ∧ f ≤ 32767)
def powV (n f : Int) : Int := if powB n f then (if 2147483647 ≤ powX f 15 / 2 ^ (30 - n).toNat then 2147483647 else powX f 15 / 2 ^ (30 - n).toNat) else 0
theorem powR_nn (k : Nat) : 0 ≤ powR k := by
  unfold powR
  by_cases h : k < 15
  · have : ∀ j, j < 15 → 0 ≤ rootsL.getD j 0 := by decide
    exact this k h
  · rw [List.getD_eq_getElem?_getD, List.getElem?_eq_none (by simp [rootsL]; omega)]; simp
theorem powR_le (k : Nat) : powR k ≤ 444758425 := by
  unfold powR
  by_cases h : k < 15
  · have : ∀ j, j < 15 → rootsL.getD j 0 ≤ 444758425 := by decide
    exact this k h
  · rw [List.getD_eq_getElem?_getD, List.getElem?_eq_none (by simp [rootsL]; omega)]; simp
theorem powU_le : ∀ k, k < 16 → powU k ≤ 2147483648 := by decide
theorem powX_lo (f : Int) (k : Nat) : 1073741824 ≤ powX f k := by
  induction k with
  | zero => simp [powX]
  | succ k ih =>
    unfold powX
    split
    · have h1 : 0 ≤ powX f k * powR k := Int.mul_nonneg (by omega) (powR_nn k)
      have h2 : 0 ≤ powX f k * powR k / 1073741824 := Int.ediv_nonneg h1 (by omega)
      omega
    · exact ih
theorem powX_U (f : Int) (k : Nat) : powX f k ≤ powU k := by
  induction k with
  | zero => simp [powX, powU]
  | succ k ih =>
    have h0 := powX_lo f k
    have h1 : powX f k * powR k ≤ powU k * powR k := Int.mul_le_mul_of_nonneg_right ih (powR_nn k)
    have h2 : powX f k * powR k / 1073741824 ≤ powU k * powR k / 1073741824 := Int.ediv_le_ediv (by omega) h1
    have h3 : 0 ≤ powU k * powR k / 1073741824 := Int.ediv_nonneg (Int.mul_nonneg (by omega) (powR_nn k)) (by omega)
    unfold powX powU
    split <;> omega
theorem powX_hi (f : Int) {k : Nat} (h : k < 16) : powX f k ≤ 2147483648 := Int.le_trans (powX_U f k) (powU_le k h)
/-- One round's product. -/
theorem pow_step {x r : Int} (h1 : 1073741824 ≤ x) (h2 : x ≤ 2147483648) (h3 : 0 ≤ r) (h4 : r ≤ 444758425) : 0 ≤ x * r ∧ x * r ≤ 955124478797414400 ∧ 0 ≤ x * r / 1073741824 ∧ x * r / 1073741824 ≤ 889516850 := by
  have h5 : x * r ≤ 2147483648 * 444758425 := Int.mul_le_mul h2 h4 h3 (by omega)
  have h6 : 0 ≤ x * r := Int.mul_nonneg (by omega) h3
  omega

theorem ret2i {a b c : Int} (h : a = b) : Ending.returned (.tuple #[.int .i64 a, .int .i64 c]) = .returned (.tuple #[.int .i64 b, .int .i64 c]) := by rw [h]

set_option maxHeartbeats 2000000 in
theorem dualPow_in (n f : Int) (w : World) (T : TabA w 2 rootsL) (n1 : 0 ≤ n) (n2 : n ≤ 30) (f1 : 0 ≤ f) (f2 : f ≤ 32767) :
    Calls Tryd.prog 90 #[.int .i64 n, .int .i64 f] w fun e w' => e = .returned (.tuple #[.int .i64 (powV n f), .int .i64 0]) ∧ w = w' := by
  have d1 : ¬ n < 0 := by omega
  have d2 : ¬ 30 < n := by omega
  have d3 : ¬ f < 0 := by omega
  have d4 : ¬ 32767 < f := by omega
  have size15 : (Tryd.prog.info? 162).map (·.size) = some 15 := by kernel_rfl
  have HIX := hid (fun (k : Nat) (hk : k < 15) (w : World) => run_index_agi Tryd.underlying162 rootsL rfl k hk w)
  have TT := hid T
  have S15 := hid size15
  clear T size15
  go_enter Tryd.func90, Tryd.ntmps90
  go_wp2_with (refine wpList_loadT rfl 162 (.global 2) rfl _ rootsL 15 _ rfl TT.out Tryd.underlying162 rfl S15.out rfl ?_)
  go_loop [6, 24] (fun xv iv => ∃ (k : Nat) (x : Int), k ≤ 15 ∧ iv = .int .i64 k ∧ xv = .int .i64 x ∧ Hid (x = powX f k)) (fun _ iv => 15 - (intOf iv).toNat)
  case atStart => exact ⟨0, 1073741824, by omega, rfl, rfl, hid rfl⟩
  case round =>
    obtain ⟨k, x, hk, rfl, rfl, HX⟩ := hrel
    by_cases hlt : k < 15
    · have hix := HIX.out k hlt
      have x1 : 1073741824 ≤ x := by rw [HX.out]; exact powX_lo f k
      have x2 : x ≤ 2147483648 := by rw [HX.out]; exact powX_hi f (by omega)
      have r1 := powR_nn k
      have r2 := powR_le k
      have HR := hid (show powX f (k + 1) = if powBit f k then x + x * powR k / 1073741824 else x by rw [powX, ← HX.out])
      unfold powR at r1 r2 HR
      generalize rootsL.getD k 0 = r at *
      obtain ⟨q1, q2, q3, q4⟩ := pow_step x1 x2 r1 r2
      have HA := and1 (f / 2 ^ (14 - k))
      by_cases hb : f / 2 ^ (14 - k) % 2 = 1
      · have e1 : (bits BinOp.and IntKind.i64 (f / 2 ^ (14 - k)) 1 == 1) = true := by rw [HA, hb]; rfl
        have HR2 := hid (show powX f (k + 1) = x + x * r / 1073741824 by rw [HR.out, if_pos (by unfold powBit; simpa using hb)])
        clear HA hb HR
        go_wp2
        go_round
        case rel => exact ⟨k + 1, _, by omega, by go_num, rfl, hid HR2.out.symm⟩
        case measure => simp [intOf] <;> omega
      · have e1 : (bits BinOp.and IntKind.i64 (f / 2 ^ (14 - k)) 1 == 1) = false := by rw [HA]; simpa using hb
        have HR2 := hid (show powX f (k + 1) = x by rw [HR.out, if_neg (by unfold powBit; simpa using hb)])
        clear HA hb HR
        go_wp2
        go_round
        case rel => exact ⟨k + 1, _, by omega, by go_num, rfl, hid HR2.out.symm⟩
        case measure => simp [intOf] <;> omega
    · obtain rfl : k = 15 := by omega
      obtain ⟨m, rfl⟩ := Int.eq_ofNat_of_zero_le n1
      have x1 : 1073741824 ≤ x := by rw [HX.out]; exact powX_lo f 15
      have x2 : x ≤ 2147483648 := by rw [HX.out]; exact powX_hi f (by omega)
      have HV := hid (show powV (m : Nat) f = (if 2147483647 ≤ x / 2 ^ (30 - m) then 2147483647 else x / 2 ^ (30 - m)) by
        unfold powV
        rw [if_pos (by unfold powB; simp; omega), ← HX.out, show ((30 : Int) - (m : Nat)).toNat = 30 - m by omega])
      clear HX hlt
      obtain ⟨p, hp⟩ : ∃ p, p = x / 2 ^ (30 - m) := ⟨_, rfl⟩
      rw [← hp] at HV
      by_cases hc : 2147483647 ≤ p
      · have HV2 := hid (show powV (m : Nat) f = 2147483647 by rw [HV.out, if_pos hc])
        have g1 : 2147483647 ≤ x / 2 ^ (30 - m) := by rw [← hp]; exact hc
        clear hp HV hc
        go_wp2
        all_goals
          go_ret2
          exact ⟨by rw [HV2.out]; first | rfl | exact ret2i (a := x / 2 ^ (30 - m)) (by omega), rfl⟩
      · have HV2 := hid (show powV (m : Nat) f = x / 2 ^ (30 - m) by rw [HV.out, if_neg hc, hp])
        have g1 : x / 2 ^ (30 - m) < 2147483647 := by omega
        clear hp HV hc
        go_wp2
        all_goals
          go_ret2
          exact ⟨by rw [HV2.out]; first | rfl | exact ret2i (a := x / 2 ^ (30 - m)) (by omega), rfl⟩

set_option maxHeartbeats 1000000 in
theorem dualPow_any (n f : Int) (w : World) (T : TabA w 2 rootsL) :
    Calls Tryd.prog 90 #[.int .i64 n, .int .i64 f] w fun e w' => e = .returned (.tuple #[.int .i64 (powV n f), .int .i64 (errOf (powB n f))]) ∧ w = w' := by
  by_cases h : (0 ≤ n ∧ n ≤ 30) ∧ 0 ≤ f ∧ f ≤ 32767
  · have hb : powB n f = true := by unfold powB; simpa using h
    rw [hb]
    exact dualPow_in n f w T h.1.1 h.1.2 h.2.1 h.2.2
  · have hb : powB n f = false := by unfold powB; simpa using h
    have hv : powV n f = 0 := by unfold powV; rw [hb]; rfl
    rw [hb, hv]
    clear hb hv T
    by_cases h1 : n < 0
    · clear h
      go_enter Tryd.func90, Tryd.ntmps90
      go_wp2
      go_ret2
      exact ⟨rfl, rfl⟩
    by_cases h2 : 30 < n
    · clear h
      go_enter Tryd.func90, Tryd.ntmps90
      go_wp2
      go_ret2
      exact ⟨rfl, rfl⟩
    by_cases h3 : f < 0
    · clear h
      go_enter Tryd.func90, Tryd.ntmps90
      go_wp2
      go_ret2
      exact ⟨rfl, rfl⟩
    have h4 : 32767 < f := by omega
    clear h
    go_enter Tryd.func90, Tryd.ntmps90
    go_wp2
    go_ret2
    exact ⟨rfl, rfl⟩

/-! The level of a gain. -/
def glB (n : Int) : Bool := decide (0 ≤ n ∧ n ≤ 31)
def glV (n : Int) : Int := if glB n then powV ((24 + 3 * n) / 8) ((24 + 3 * n) % 8 * 4096) else 0
theorem powB_gl {n : Int} (h1 : 0 ≤ n) (h2 : n ≤ 31) : powB ((24 + 3 * n) / 8) ((24 + 3 * n) % 8 * 4096) = true := by
  unfold powB
  simp
  omega
theorem glB_yes {n : Int} (h1 : 0 ≤ n) (h2 : n ≤ 31) : glB n = true := by unfold glB; simp; omega
theorem glB_no {n : Int} (h : n < 0 ∨ 31 < n) : glB n = false := by unfold glB; simp; omega
theorem glV_range (n : Int) : 0 ≤ glV n ∧ glV n ≤ 32767 := by
  by_cases h : 0 ≤ n ∧ n ≤ 31
  · obtain ⟨k, rfl⟩ := Int.eq_ofNat_of_zero_le h.1
    have : ∀ k : Nat, k < 32 → 0 ≤ glV (k : Nat) ∧ glV (k : Nat) ≤ 32767 := by decide +kernel
    exact this k (by omega)
  · unfold glV
    rw [glB_no (by omega)]
    simp

set_option maxHeartbeats 1000000 in
theorem gainLevel_any (n : Int) (w : World) (T : TabA w 2 rootsL) :
    Calls Tryd.prog 63 #[.int .i64 n] w fun e w' => e = .returned (.tuple #[.int .i64 (glV n), .int .i64 (errOf (glB n))]) ∧ w = w' := by
  by_cases h : n < 0 ∨ 31 < n
  · rw [show glV n = 0 by unfold glV; rw [glB_no h]; rfl, glB_no h]
    clear T
    rcases h with h | h
    · go_enter Tryd.func63, Tryd.ntmps63
      go_wp2
      go_ret2
      exact ⟨rfl, rfl⟩
    · have h2 : ¬ n < 0 := by omega
      go_enter Tryd.func63, Tryd.ntmps63
      go_wp2
      go_ret2
      exact ⟨rfl, rfl⟩
  · have l1 : 0 ≤ n := by omega
    have l2 : n ≤ 31 := by omega
    have l3 : ¬ n < 0 := by omega
    have l4 : ¬ 31 < n := by omega
    have K := dualPow_any (3 + 3 * n / 8) (3 * n % 8 * 4096) w T
    rw [show (3 : Int) + 3 * n / 8 = (24 + 3 * n) / 8 by omega, show (3 : Int) * n % 8 * 4096 = (24 + 3 * n) % 8 * 4096 by omega, powB_gl l1 l2] at K
    have hv : powV ((24 + 3 * n) / 8) ((24 + 3 * n) % 8 * 4096) = glV n := by unfold glV; rw [glB_yes l1 l2]; rfl
    rw [hv, show (24 + 3 * n) / 8 = 3 + 3 * n / 8 by omega, show (24 + 3 * n) % 8 * 4096 = 3 * n % 8 * 4096 by omega] at K
    rw [glB_yes l1 l2]
    have K := hid K
    clear hv T h
    go_enter Tryd.func63, Tryd.ntmps63
    go_wp2_with (go_at_call 90; (with_reducible refine K.out.mono ?_); rintro e w' ⟨rfl, rfl⟩)
    go_ret2
    exact ⟨rfl, rfl⟩
end Go.Proofs.YthoiikkjjaldnaaDoor

/- The walks of the reference's late and Energy, of the program's Energy, and of the law PulsesEnergies. -/
namespace Go.Proofs.YthoiikkjjaldnaaDoor
set_option linter.unusedVariables false
set_option linter.unusedSimpArgs false
set_option maxRecDepth 100000
open Go.RowKit

theorem repl_get (n k : Nat) : (List.replicate n (0 : Int)).getD k 0 = 0 := by
  rw [List.getD_eq_getElem?_getD, List.getElem?_replicate]
  split <;> rfl
def lateE (ring : List Int) (a i : Nat) : Int := if a ≤ i then s16 (ring.getD (i - a) 0) else 0
def lateL (ring : List Int) (a : Nat) : List Int := (List.range 40).map (lateE ring a)
theorem lateE_range (ring : List Int) (a i : Nat) : -32768 ≤ lateE ring a i ∧ lateE ring a i ≤ 32767 := by
  unfold lateE
  split
  · exact s16_range _
  · omega
def inH (a : Int) : Bool := decide (0 ≤ a ∧ a ≤ 39)
def enErr (n : Nat) (a b : Int) : Int := if n = 40 then (if inH a && inH b then 0 else 2) else 1
def enV (ring : List Int) (a b : Int) : Int := if enErr ring.length a b = 0 then dotL (lateL ring a.toNat) (lateL ring b.toNat) 40 else 0
def EnAns (ring : List Int) (a b : Int) (w : World) (e : Ending) (w' : World) : Prop := e = .returned (.tuple #[.int .i64 (enV ring a b), .int .i64 (enErr ring.length a b)]) ∧ Below w.heap.size w w'
theorem EnAns.bad {ring : List Int} {a b : Int} {w w' : World} {er : Int} (h : enErr ring.length a b = er) (h0 : er ≠ 0) (hB : Below w.heap.size w w') : EnAns ring a b w (.returned (.tuple #[.int .i64 0, .int .i64 er])) w' :=
  ⟨by unfold enV; rw [h, if_neg h0], hB⟩



/-- The terms of the program's sum. -/
def enT (ring : List Int) (a b i : Nat) : Int := lateE ring a i * lateE ring b i
theorem enT_sum (ring : List Int) (a b : Nat) : dotL (lateL ring a) (lateL ring b) 40 = sumN (enT ring a b) 40 :=
  sumN_congr 40 fun i hi => by unfold dterm lateL enT; rw [range_get _ hi, range_get _ hi]
theorem enT_low (ring : List Int) (a b : Nat) : ∀ k, k ≤ a ∨ k ≤ b → sumN (enT ring a b) k = 0
  | 0, _ => rfl
  | k + 1, h => by
    have h0 : lateE ring a k = 0 ∨ lateE ring b k = 0 := by
      rcases h with h | h
      · left; unfold lateE; rw [if_neg (by omega)]
      · right; unfold lateE; rw [if_neg (by omega)]
    have h1 := enT_low ring a b k (by omega)
    simp only [sumN]
    rw [h1]
    unfold enT
    rcases h0 with h0 | h0 <;> rw [h0] <;> simp
theorem enT_range (ring : List Int) (a b k : Nat) : -(1073741824 * (k : Int)) ≤ sumN (enT ring a b) k ∧ sumN (enT ring a b) k ≤ 1073741824 * (k : Int) := by
  induction k with
  | zero => simp [sumN]
  | succ k ih =>
    have h := prod16 (lateE_range ring a k).1 (lateE_range ring a k).2 (lateE_range ring b k).1 (lateE_range ring b k).2
    simp only [sumN]
    unfold enT at *
    push_cast
    omega

set_option maxHeartbeats 4000000 in
theorem pulsesEnergy_any (A : Option Addr) (c n : Nat) (ring : List Int) (a b : Int) (w : World) (hr : Rs w w.heap.size A ring) (hrn : ring.length = n) (hw : W64 ring) :
    Calls Tryd.prog 100 #[.slice A n c, .int .i64 a, .int .i64 b] w (EnAns ring a b w) := by
  by_cases hn : n = 40
  rotate_left
  · have FIN := hid (fun w' (hB : Below w.heap.size w w') => EnAns.bad (ring := ring) (a := a) (b := b) (er := 1) (by rw [hrn]; unfold enErr; rw [if_neg hn]) (by decide) hB)
    have d0 : ((n : Int) != 40) = true := by simp; omega
    have d00 : ¬ (n : Int) = 40 := by omega
    clear hn hrn hr hw
    go_enter Tryd.func100, Tryd.ntmps100
    go_wp2
    go_ret2
    exact FIN.out _ (Below.refl _ _)
  subst hn
  by_cases hab : inH a = true ∧ inH b = true
  rotate_left
  · have FIN := hid (fun w' (hB : Below w.heap.size w w') => EnAns.bad (ring := ring) (a := a) (b := b) (er := 2) (by rw [hrn]; unfold enErr; rw [if_pos rfl, if_neg (by simpa using hab)]) (by decide) hB)
    unfold inH at hab
    simp only [decide_eq_true_eq] at hab
    clear hrn hr hw
    by_cases a1 : a < 0
    · clear hab
      go_enter Tryd.func100, Tryd.ntmps100
      go_wp2
      go_ret2
      exact FIN.out _ (Below.refl _ _)
    by_cases a2 : 39 < a
    · have a3 : 40 ≤ a := by omega
      clear hab
      go_enter Tryd.func100, Tryd.ntmps100
      go_wp2
      go_ret2
      exact FIN.out _ (Below.refl _ _)
    have a3 : ¬ 40 ≤ a := by omega
    by_cases b1 : b < 0
    · clear hab
      go_enter Tryd.func100, Tryd.ntmps100
      go_wp2
      go_ret2
      exact FIN.out _ (Below.refl _ _)
    have b2 : 39 < b := by omega
    have b3 : 40 ≤ b := by omega
    clear hab
    go_enter Tryd.func100, Tryd.ntmps100
    go_wp2
    go_ret2
    exact FIN.out _ (Below.refl _ _)
  have HV := hid (show enErr ring.length a b = 0 by rw [hrn]; unfold enErr; rw [if_pos rfl, if_pos (by simpa using hab)])
  have HV2 := hid (show enV ring a b = dotL (lateL ring a.toNat) (lateL ring b.toNat) 40 by unfold enV; rw [if_pos HV.out])
  unfold inH at hab
  simp only [decide_eq_true_eq] at hab
  obtain ⟨⟨a1, a2⟩, b1, b2⟩ := hab
  obtain ⟨p, rfl⟩ := Int.eq_ofNat_of_zero_le a1
  obtain ⟨q, rfl⟩ := Int.eq_ofNat_of_zero_le b1
  rw [show ((p : Nat) : Int).toNat = p from rfl, show ((q : Nat) : Int).toNat = q from rfl] at HV2
  have HRN := hid hrn
  have HR := hid hr
  have HW := hid hw
  clear hr hrn hw
  have a3 : ¬ ((p : Nat) : Int) < 0 := by omega
  have a4 : ¬ 40 ≤ ((p : Nat) : Int) := by omega
  have b3 : ¬ ((q : Nat) : Int) < 0 := by omega
  have b4 : ¬ 40 ≤ ((q : Nat) : Int) := by omega
  by_cases hpq : (p : Int) < q
  · have H0 := hid (show (0 : Int) = sumN (enT ring p q) q from (enT_low ring p q q (.inr (Nat.le_refl _))).symm)
    go_enter Tryd.func100, Tryd.ntmps100
    go_wp2
    go_loopw [8, 9] (fun sv iv wr => ∃ (k : Nat) (s : Int), q ≤ k ∧ k ≤ 40 ∧ iv = .int .i64 k ∧ sv = .int .i64 s ∧ Hid (s = sumN (enT ring p q) k) ∧ Hid (Below w.heap.size w wr)) (fun _ iv _ => 40 - (intOf iv).toNat)
    case atStart => exact ⟨q, 0, Nat.le_refl _, by omega, rfl, rfl, H0, hid (Below.refl _ _)⟩
    case round =>
      obtain ⟨k, s, hk0, hk, rfl, rfl, HS, HB⟩ := hrel
      by_cases hlt : k < 40
      · have sb := enT_range ring p q k
        have ST := hid (show sumN (enT ring p q) (k + 1) = s + s16 (ring.getD (k - p) 0) * s16 (ring.getD (k - q) 0) by
          rw [HS.out]; simp only [sumN]; unfold enT lateE; rw [if_pos (by omega), if_pos (by omega)])
        have hs := HS.out
        rw [← hs] at sb
        have s1 : -1073741824000 ≤ s := by omega
        have s2 : s ≤ 1073741824000 := by omega
        clear hs sb
        obtain ⟨ad, rfl, hadb, c0⟩ := (HR.out.below HB.out).at_ (k := k - p) (by rw [HRN.out]; omega)
        obtain ⟨ad2, had2, _, c1⟩ := (HR.out.below HB.out).at_ (k := k - q) (by rw [HRN.out]; omega)
        injection had2 with had2
        subst had2
        generalize ring.getD (k - p) 0 = x at *
        generalize ring.getD (k - q) 0 = y at *
        obtain ⟨m, hm⟩ : ∃ m, m = k - p := ⟨_, rfl⟩
        obtain ⟨m2, hm2⟩ : ∃ m2, m2 = k - q := ⟨_, rfl⟩
        rw [← hm] at c0
        rw [← hm2] at c1
        have hw0 : IntKind.i64.wrap ((k : Int) - (p : Nat)) = (m : Nat) := by rw [IntKind.wrap_i64]; omega
        have hw1 : IntKind.i64.wrap ((k : Int) - (q : Nat)) = (m2 : Nat) := by rw [IntKind.wrap_i64]; omega
        have xr := s16_range x
        have yr := s16_range y
        have KX : Hid (∀ W, Calls Tryd.prog 85 #[.int .i64 x] W fun e w' => e = .returned (.int .i64 (s16 x)) ∧ w' = W) := hid (fun W => (pulsessat_any x W).mono fun _ _ h => ⟨h.1, h.2.symm⟩)
        have KY : Hid (∀ W, Calls Tryd.prog 85 #[.int .i64 y] W fun e w' => e = .returned (.int .i64 (s16 y)) ∧ w' = W) := hid (fun W => (pulsessat_any y W).mono fun _ _ h => ⟨h.1, h.2.symm⟩)
        generalize s16 x = x' at *
        generalize s16 y = y' at *
        obtain ⟨p1, p2⟩ := prod16 xr.1 xr.2 yr.1 yr.2
        have hw2 : IntKind.i64.wrap (x' * y') = x' * y' := by rw [IntKind.wrap_i64]; omega
        have hw3 : IntKind.i64.wrap (s + x' * y') = s + x' * y' := by rw [IntKind.wrap_i64]; omega
        have i1 : (m : Int) < 40 := by omega
        have i2 : (0 : Int) ≤ m := by omega
        have i3 : (m2 : Int) < 40 := by omega
        have i4 : (0 : Int) ≤ m2 := by omega
        have HM := hid hm
        have HM2 := hid hm2
        clear hm hm2 xr yr
        go_wp2
        go_quiet ((go_at_call 85; first | (with_reducible exact Calls.quiet_of_same (KX.out _)) | (with_reducible exact Calls.quiet_of_same (KY.out _))))
        clear hw0 hw1 hw2 hw3
        go_wp2
        go_roundw
        case rel => exact ⟨k + 1, _, by omega, by omega, by go_num, rfl, hid ST.out.symm, hid (HB.out.trans ((below_drN _ _).mono HB.out.size))⟩
        case measure => simp [intOf] <;> omega
      · obtain rfl : k = 40 := by omega
        go_wp2
        go_ret2
        exact ⟨by rw [HV.out, HV2.out, enT_sum, ← HS.out]; rfl, HB.out⟩
  · have H0 := hid (show (0 : Int) = sumN (enT ring p q) p from (enT_low ring p q p (.inl (Nat.le_refl _))).symm)
    have hpq2 : (q : Int) ≤ p := by omega
    go_enter Tryd.func100, Tryd.ntmps100
    go_wp2
    go_loopw [8, 9] (fun sv iv wr => ∃ (k : Nat) (s : Int), p ≤ k ∧ k ≤ 40 ∧ iv = .int .i64 k ∧ sv = .int .i64 s ∧ Hid (s = sumN (enT ring p q) k) ∧ Hid (Below w.heap.size w wr)) (fun _ iv _ => 40 - (intOf iv).toNat)
    case atStart => exact ⟨p, 0, Nat.le_refl _, by omega, rfl, rfl, H0, hid (Below.refl _ _)⟩
    case round =>
      obtain ⟨k, s, hk0, hk, rfl, rfl, HS, HB⟩ := hrel
      by_cases hlt : k < 40
      · have sb := enT_range ring p q k
        have ST := hid (show sumN (enT ring p q) (k + 1) = s + s16 (ring.getD (k - p) 0) * s16 (ring.getD (k - q) 0) by
          rw [HS.out]; simp only [sumN]; unfold enT lateE; rw [if_pos (by omega), if_pos (by omega)])
        have hs := HS.out
        rw [← hs] at sb
        have s1 : -1073741824000 ≤ s := by omega
        have s2 : s ≤ 1073741824000 := by omega
        clear hs sb
        obtain ⟨ad, rfl, hadb, c0⟩ := (HR.out.below HB.out).at_ (k := k - p) (by rw [HRN.out]; omega)
        obtain ⟨ad2, had2, _, c1⟩ := (HR.out.below HB.out).at_ (k := k - q) (by rw [HRN.out]; omega)
        injection had2 with had2
        subst had2
        generalize ring.getD (k - p) 0 = x at *
        generalize ring.getD (k - q) 0 = y at *
        obtain ⟨m, hm⟩ : ∃ m, m = k - p := ⟨_, rfl⟩
        obtain ⟨m2, hm2⟩ : ∃ m2, m2 = k - q := ⟨_, rfl⟩
        rw [← hm] at c0
        rw [← hm2] at c1
        have hw0 : IntKind.i64.wrap ((k : Int) - (p : Nat)) = (m : Nat) := by rw [IntKind.wrap_i64]; omega
        have hw1 : IntKind.i64.wrap ((k : Int) - (q : Nat)) = (m2 : Nat) := by rw [IntKind.wrap_i64]; omega
        have xr := s16_range x
        have yr := s16_range y
        have KX : Hid (∀ W, Calls Tryd.prog 85 #[.int .i64 x] W fun e w' => e = .returned (.int .i64 (s16 x)) ∧ w' = W) := hid (fun W => (pulsessat_any x W).mono fun _ _ h => ⟨h.1, h.2.symm⟩)
        have KY : Hid (∀ W, Calls Tryd.prog 85 #[.int .i64 y] W fun e w' => e = .returned (.int .i64 (s16 y)) ∧ w' = W) := hid (fun W => (pulsessat_any y W).mono fun _ _ h => ⟨h.1, h.2.symm⟩)
        generalize s16 x = x' at *
        generalize s16 y = y' at *
        obtain ⟨p1, p2⟩ := prod16 xr.1 xr.2 yr.1 yr.2
        have hw2 : IntKind.i64.wrap (x' * y') = x' * y' := by rw [IntKind.wrap_i64]; omega
        have hw3 : IntKind.i64.wrap (s + x' * y') = s + x' * y' := by rw [IntKind.wrap_i64]; omega
        have i1 : (m : Int) < 40 := by omega
        have i2 : (0 : Int) ≤ m := by omega
        have i3 : (m2 : Int) < 40 := by omega
        have i4 : (0 : Int) ≤ m2 := by omega
        have HM := hid hm
        have HM2 := hid hm2
        clear hm hm2 xr yr
        go_wp2
        go_quiet ((go_at_call 85; first | (with_reducible exact Calls.quiet_of_same (KX.out _)) | (with_reducible exact Calls.quiet_of_same (KY.out _))))
        clear hw0 hw1 hw2 hw3
        go_wp2
        go_roundw
        case rel => exact ⟨k + 1, _, by omega, by omega, by go_num, rfl, hid ST.out.symm, hid (HB.out.trans ((below_drN _ _).mono HB.out.size))⟩
        case measure => simp [intOf] <;> omega
      · obtain rfl : k = 40 := by omega
        go_wp2
        go_ret2
        exact ⟨by rw [HV.out, HV2.out, enT_sum, ← HS.out]; rfl, HB.out⟩

end Go.Proofs.YthoiikkjjaldnaaDoor

/- Plain facts on c * c / e against d * d / f. No program in sight. -/
namespace Go.Proofs.YthoiikkjjaldnaaDoor
set_option linter.unusedVariables false
set_option linter.unusedSimpArgs false
set_option maxRecDepth 100000

/-- Is c * c / e greater than d * d / f? -/
def betterB (c e d f : Int) : Bool := if e ≤ 0 then false else if f ≤ 0 then true else decide (max d 0 * max d 0 * e < max c 0 * max c 0 * f)

theorem better_no {c e d f : Int} (h : e ≤ 0) : betterB c e d f = false := by unfold betterB; rw [if_pos h]
theorem better_yes {c e d f : Int} (h : 0 < e) (h2 : f ≤ 0) : betterB c e d f = true := by unfold betterB; rw [if_neg (by omega), if_pos h2]
theorem better_cmp {c e d f : Int} (h : 0 < e) (h2 : 0 < f) : betterB c e d f = decide (max d 0 * max d 0 * e < max c 0 * max c 0 * f) := by unfold betterB; rw [if_neg (by omega), if_neg (by omega)]

/-- Digit k (the highest first) of three to base 2^64. -/
def dg (n k : Nat) : Nat := if k = 0 then n / 340282366920938463463374607431768211456 else if k = 1 then n / 18446744073709551616 % 18446744073709551616 else n % 18446744073709551616
theorem dg0 (n : Nat) : dg n 0 = n / 340282366920938463463374607431768211456 := rfl
theorem dg1 (n : Nat) : dg n 1 = n / 18446744073709551616 % 18446744073709551616 := rfl
theorem dg2 (n : Nat) : dg n 2 = n % 18446744073709551616 := rfl
/-- The highest digits that part decide. -/
theorem dg_cmp (x y : Nat) :
    (dg x 0 ≠ dg y 0 → (dg y 0 < dg x 0 ↔ y < x)) ∧ (dg x 0 = dg y 0 → dg x 1 ≠ dg y 1 → (dg y 1 < dg x 1 ↔ y < x)) ∧
    (dg x 0 = dg y 0 → dg x 1 = dg y 1 → dg x 2 ≠ dg y 2 → (dg y 2 < dg x 2 ↔ y < x)) ∧ (dg x 0 = dg y 0 → dg x 1 = dg y 1 → dg x 2 = dg y 2 → x = y) := by
  simp only [dg0, dg1, dg2]
  refine ⟨?_, ?_, ?_, ?_⟩ <;> omega
end Go.Proofs.YthoiikkjjaldnaaDoor

/- The walks of the reference's power of two, of its gain level, and of the laws DualPows and GainLevels. -/
namespace Go.Proofs.YthoiikkjjaldnaaDoor
set_option linter.unusedVariables false
set_option linter.unusedSimpArgs false
set_option maxRecDepth 100000
open Go.RowKit

end Go.Proofs.YthoiikkjjaldnaaDoor
