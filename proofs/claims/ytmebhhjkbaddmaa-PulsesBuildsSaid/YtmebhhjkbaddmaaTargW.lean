/- The walks of the program's Target and the reference's, and of the law PulsesTargets. -/
import Derived.Test.YtmebhhjkbaddmaaEnerW
import Derived.Test.YtmebhhjkbaddmaaPushN
import Derived.Test.YtmebhhjkbaddmaaPastW
import Derived.BigRegion
import Derived.Deep.RegionHeld3
namespace Go.Proofs.Ytmebhhjkbaddmaa
set_option linter.unusedVariables false
set_option linter.unusedSimpArgs false
set_option maxRecDepth 100000
open Go.RowKit

def tgB (t r : List Int) : Bool := all16 t && all16 r
def tgErr (t r : List Int) : Int := if t.length = 40 ∧ r.length = 40 then errOf (tgB t r) else 1
def tgT (t r : List Int) (n i : Nat) : Int := t.getD i 0 * lateE r n i
def tgE (t r : List Int) (n : Nat) : Int := sumN (tgT t r n) 40
def tgL (t r : List Int) : List Int := if tgErr t r = 0 then (List.range 40).map (tgE t r) else []
theorem all16_in {xs : List Int} (h : all16 xs = true) : In16 xs := all16_at h
theorem tg_dot (t r : List Int) (n : Nat) : dotL t (lateL r n) 40 = tgE t r n :=
  sumN_congr 40 fun i hi => by unfold dterm lateL tgT; rw [range_get _ hi]
theorem tgT_range {t : List Int} (h : In16 t) (r : List Int) (n k : Nat) : -(1073741824 * (k : Int)) ≤ sumN (tgT t r n) k ∧ sumN (tgT t r n) k ≤ 1073741824 * (k : Int) := by
  induction k with
  | zero => simp [sumN]
  | succ k ih =>
    have hp := prod16 (h k).1 (h k).2 (lateE_range r n k).1 (lateE_range r n k).2
    simp only [sumN]
    unfold tgT at *
    push_cast
    omega
theorem tgT_low (t r : List Int) (n : Nat) : ∀ k, k ≤ n → sumN (tgT t r n) k = 0
  | 0, _ => rfl
  | k + 1, h => by
    simp only [sumN]
    rw [tgT_low t r n k (by omega)]
    unfold tgT lateE
    rw [if_neg (by omega)]
    simp
/-- The answer's row while the sample n is summed up to k. -/
def tgN (t r : List Int) (n k : Nat) : List Int := (List.range 40).map (fun j => if j < n then tgE t r j else if j = n then sumN (tgT t r n) k else 0)
theorem tgN_len (t r : List Int) (n k : Nat) : (tgN t r n k).length = 40 := by simp [tgN]
theorem tgN_at (t r : List Int) {n k : Nat} (hn : n < 40) : (tgN t r n k).getD n 0 = sumN (tgT t r n) k := by
  unfold tgN; rw [range_get _ hn, if_neg (by omega), if_pos rfl]
theorem tgN_set (t r : List Int) {n k : Nat} (hn : n < 40) : (tgN t r n k).set n (sumN (tgT t r n) (k + 1)) = tgN t r n (k + 1) := by
  refine list_ext (by simp [tgN_len]) fun j hj => ?_
  rw [List.length_set, tgN_len] at hj
  by_cases e : n = j
  · subst e; rw [get_set_same _ _ _ (by rw [tgN_len]; exact hj), tgN_at t r hn]
  · rw [get_set_other _ _ e]
    unfold tgN
    rw [range_get _ hj, range_get _ hj]
    by_cases h2 : j < n
    · rw [if_pos h2, if_pos h2]
    · rw [if_neg h2, if_neg h2, if_neg (by omega), if_neg (by omega)]
theorem tgN_next (t r : List Int) (n : Nat) : tgN t r n 40 = tgN t r (n + 1) (n + 1) := by
  refine list_ext (by rw [tgN_len, tgN_len]) fun j hj => ?_
  rw [tgN_len] at hj
  unfold tgN
  rw [range_get _ hj, range_get _ hj]
  by_cases h2 : j < n
  · rw [if_pos h2, if_pos (by omega)]
  · by_cases h3 : j = n
    · subst h3; rw [if_neg (by omega), if_pos rfl, if_pos (by omega)]; rfl
    · rw [if_neg h2, if_neg h3, if_neg (by omega)]
      by_cases h4 : j = n + 1
      · rw [if_pos h4, tgT_low t r (n + 1) (n + 1) (Nat.le_refl _)]
      · rw [if_neg h4]
theorem tgN_zero (t r : List Int) : tgN t r 0 0 = List.replicate 40 0 := by
  refine list_ext (by rw [tgN_len]; simp) fun j hj => ?_
  rw [tgN_len] at hj
  rw [repl_get]
  unfold tgN
  rw [range_get _ hj, if_neg (by omega)]
  split <;> rfl
theorem tgN_end (t r : List Int) : tgN t r 40 40 = (List.range 40).map (tgE t r) := by
  refine list_ext (by rw [tgN_len]; simp) fun j hj => ?_
  rw [tgN_len] at hj
  unfold tgN
  rw [range_get _ hj, range_get _ hj, if_pos hj]

set_option maxHeartbeats 4000000 in
theorem pulsesTarget_good (A A2 : Option Addr) (c c2 : Nat) (t r : List Int) (w : World) (ht : Rs w w.heap.size A t) (hr : Rs w w.heap.size A2 r) (lt : t.length = 40) (lr : r.length = 40) (gt : all16 t = true) (gr : all16 r = true) :
    Calls Try.prog 28 #[.slice A 40 c, .slice A2 40 c2] w (NewSE w ((List.range 40).map (tgE t r)) 0) := by
  have HT := hid ht
  have HR := hid hr
  have LT := hid lt
  have LR := hid lr
  have GT := hid (all16_in gt)
  have GR := hid (all16_in gr)
  clear ht hr lt lr gt gr
  go_enter Try.func28, Try.ntmps28
  go_wp2_with (at_make; refine wpList_makeI rfl _ _ rfl .i64 .i64 40 rfl rfl w.heap.size (by omega) (Nat.le_refl _) ?_; intro w1 hO hG; have O1 := hid (show Own w1 w.heap.size (some ⟨w.heap.size, 0, none⟩) 40 (tgN t r 0 0) by rw [tgN_zero]; exact hO); have B1 := hid ((Below.refl w.heap.size w).grown hG (Nat.le_refl _) (by simp)); clear hO hG)
  go_loopw [20] (fun iv wr => ∃ n : Nat, n ≤ 40 ∧ iv = .int .i64 n ∧ Hid (Own wr w.heap.size (some ⟨w.heap.size, 0, none⟩) 40 (tgN t r n n)) ∧ Hid (Below w.heap.size w wr)) (fun iv _ => 40 - (intOf iv).toNat)
  case atStart => exact ⟨0, by omega, rfl, O1, B1⟩
  case round =>
    clear O1 B1
    obtain ⟨n, hn, rfl, HO, HB⟩ := hrel
    obtain ⟨wo, rfl⟩ : ∃ wo : World, wo = wr := ⟨_, rfl⟩
    by_cases hlt : n < 40
    · go_wp2
      go_loopw [8] (fun iv wr => ∃ k : Nat, n ≤ k ∧ k ≤ 40 ∧ iv = .int .i64 k ∧ Hid (Own wr w.heap.size (some ⟨w.heap.size, 0, none⟩) 40 (tgN t r n k)) ∧ Hid (Below w.heap.size w wr)) (fun iv _ => 40 - (intOf iv).toNat)
      case atStart => exact ⟨n, Nat.le_refl _, hn, rfl, HO, HB⟩
      case round =>
        clear HO HB
        obtain ⟨k, hnk, hk, rfl, HO, HB⟩ := hrel
        by_cases hlk : k < 40
        · obtain ⟨ad, rfl, hadb, c0⟩ := (HT.out.below HB.out).at_ (k := k) (by rw [LT.out]; exact hlk)
          obtain ⟨ae, rfl, haeb, c1⟩ := (HR.out.below HB.out).at_ (k := k - n) (by rw [LR.out]; omega)
          have co := HO.out.cell n (by rw [tgN_len]; exact hlt)
          rw [tgN_at t r hlt] at co
          have fo := HO.out.frozen n
          have sr := tgT_range GT.out r n k
          have HSet := hid (tgN_set t r (n := n) (k := k) hlt)
          have ST := hid (show sumN (tgT t r n) (k + 1) = sumN (tgT t r n) k + t.getD k 0 * r.getD (k - n) 0 by
            simp only [sumN]; unfold tgT lateE; rw [if_pos hnk, s16_id (GR.out _).1 (GR.out _).2])
          have x16 := GT.out k
          have y16 := GR.out (k - n)
          generalize t.getD k 0 = x at *
          generalize r.getD (k - n) 0 = y at *
          obtain ⟨m, hm⟩ : ∃ m, m = k - n := ⟨_, rfl⟩
          rw [← hm] at c1
          obtain ⟨s, hs⟩ : ∃ s, s = sumN (tgT t r n) k := ⟨_, rfl⟩
          rw [← hs] at co sr ST
          obtain ⟨p1, p2⟩ := prod16 x16.1 x16.2 y16.1 y16.2
          have s1 : -1073741824000 ≤ s := by omega
          have s2 : s ≤ 1073741824000 := by omega
          have hw0 : IntKind.i64.wrap ((k : Int) - (n : Nat)) = (m : Nat) := by rw [IntKind.wrap_i64]; omega
          have hw2 : IntKind.i64.wrap (x * y) = x * y := by rw [IntKind.wrap_i64]; omega
          have hw3 : IntKind.i64.wrap (s + x * y) = s + x * y := by rw [IntKind.wrap_i64]; omega
          have KX : Hid (∀ W, Calls Try.prog 62 #[.int .i64 x] W fun e w' => e = .returned (.int .i64 x) ∧ w' = W) := hid (fun W => (pulsessat_any x W).mono fun _ _ h => ⟨by rw [h.1, s16_id x16.1 x16.2], h.2.symm⟩)
          have KY : Hid (∀ W, Calls Try.prog 62 #[.int .i64 y] W fun e w' => e = .returned (.int .i64 y) ∧ w' = W) := hid (fun W => (pulsessat_any y W).mono fun _ _ h => ⟨by rw [h.1, s16_id y16.1 y16.2], h.2.symm⟩)
          have i1 : (m : Int) < 40 := by omega
          have i2 : (0 : Int) ≤ m := by omega
          have i3 : (k : Int) < 40 := by omega
          have i4 : (0 : Int) ≤ k := by omega
          have i5 : (n : Int) < 40 := by omega
          have i6 : (0 : Int) ≤ n := by omega
          have NO := hid (fun N => show Own ((wr.drewN N).setCell ⟨w.heap.size, n, none⟩ (.int .i64 (s + x * y))) w.heap.size (some ⟨w.heap.size, 0, none⟩) 40 (tgN t r n (k + 1)) from by rw [← HSet.out, ST.out]; exact (HO.out.drewN N).set_ n (by rw [tgN_len]; exact hlt) (s + x * y))
          have NB := hid (fun N => (HB.out.trans ((below_drN wr N).mono HB.out.size)).setCell (p := ⟨w.heap.size, n, none⟩) (Nat.le_refl _) (.int .i64 (s + x * y)))
          have HM := hid hm
          have HSS := hid hs
          have hadn : ad.block ≠ w.heap.size := by omega
          have haen : ae.block ≠ w.heap.size := by omega
          clear hm hs x16 y16 sr
          go_wp2
          go_quiet ((go_at_call 62; first | (with_reducible exact Calls.quiet_of_same (KX.out _)) | (with_reducible exact Calls.quiet_of_same (KY.out _))))
          go_wp2
          go_region
          clear hw0 hw2 hw3
          go_wp2
          go_roundw
          case rel => exact ⟨k + 1, by omega, by omega, by go_num, hid (NO.out _), hid (NB.out _)⟩
          case measure => simp [intOf] <;> omega
        · obtain rfl : k = 40 := by omega
          have NO := hid (show Own wr w.heap.size (some ⟨w.heap.size, 0, none⟩) 40 (tgN t r (n + 1) (n + 1)) by rw [← tgN_next]; exact HO.out)
          go_wp2
          go_roundw
          case rel => exact ⟨n + 1, by omega, by go_num, NO, HB⟩
          case measure => simp [intOf] <;> omega
    · obtain rfl : n = 40 := by omega
      have NO := hid (show Own wo w.heap.size (some ⟨w.heap.size, 0, none⟩) 40 ((List.range 40).map (tgE t r)) by rw [← tgN_end]; exact HO.out)
      go_wp2
      go_ret2
      exact ⟨_, _, by simp, NO.out, HB.out⟩

theorem tgErr_len {t r : List Int} (h : ¬ (t.length = 40 ∧ r.length = 40)) : tgErr t r = 1 := by unfold tgErr; rw [if_neg h]
theorem tgErr_all {t r : List Int} (h1 : t.length = 40) (h2 : r.length = 40) : tgErr t r = errOf (tgB t r) := by unfold tgErr; rw [if_pos ⟨h1, h2⟩]
theorem tgL_bad {t r : List Int} (h : tgErr t r ≠ 0) : tgL t r = [] := by unfold tgL; rw [if_neg h]
theorem tgL_good {t r : List Int} (h : tgErr t r = 0) : tgL t r = (List.range 40).map (tgE t r) := by unfold tgL; rw [if_pos h]
theorem tgL_le (t r : List Int) : (tgL t r).length ≤ 40 := by unfold tgL; split <;> simp

/-- A row of forty that the call made, its first number bounded. -/
def TBad (w wr : World) (k : Nat) : Prop := ∃ xs : List Int, xs.length = 40 ∧ (-(1073741824 * (k : Int)) ≤ xs.getD 0 0 ∧ xs.getD 0 0 ≤ 1073741824 * (k : Int)) ∧ Own wr w.heap.size (some ⟨w.heap.size, 0, none⟩) 40 xs

set_option maxHeartbeats 4000000 in
theorem pulsesTarget_bad (A A2 : Option Addr) (c c2 : Nat) (t r : List Int) (w : World) (ht : Rs w w.heap.size A t) (hr : Rs w w.heap.size A2 r) (lt : t.length = 40) (lr : r.length = 40) (hb : ¬ (all16 t = true ∧ all16 r = true)) (wt : W64 t) (wr' : W64 r) :
    Calls Try.prog 28 #[.slice A 40 c, .slice A2 40 c2] w (NewSE w [] 2) := by
  have HT := hid ht
  have HR := hid hr
  have LT := hid lt
  have LR := hid lr
  have HB0 := hid hb
  have WT := hid wt
  have WR := hid wr'
  clear ht hr lt lr hb wt wr'
  go_enter Try.func28, Try.ntmps28
  go_wp2_with (at_make; refine wpList_makeI rfl _ _ rfl .i64 .i64 40 rfl rfl w.heap.size (by omega) (Nat.le_refl _) ?_; intro w1 hO hG; have O1 := hid (show TBad w w1 0 from ⟨List.replicate 40 0, by simp, by simp, hO⟩); have B1 := hid ((Below.refl w.heap.size w).grown hG (Nat.le_refl _) (by simp)); clear hO hG)
  go_loopw [20] (fun iv wr => iv = .int .i64 0 ∧ Hid (TBad w wr 0) ∧ Hid (Below w.heap.size w wr)) (fun _ _ => 0)
  case atStart => exact ⟨rfl, O1, B1⟩
  case round =>
    clear O1 B1
    obtain ⟨rfl, HO, HB⟩ := hrel
    obtain ⟨wo, rfl⟩ : ∃ wo : World, wo = wr := ⟨_, rfl⟩
    go_wp2
    go_loopw [8] (fun iv wr => ∃ k : Nat, k ≤ 40 ∧ iv = .int .i64 k ∧ Hid (allTo ok16 t k ∧ allTo ok16 r k) ∧ Hid (TBad w wr k) ∧ Hid (Below w.heap.size w wr)) (fun iv _ => 40 - (intOf iv).toNat)
    case atStart => exact ⟨0, by omega, rfl, hid ⟨allTo.zero, allTo.zero⟩, HO, HB⟩
    case round =>
      clear HO HB
      obtain ⟨k, hk, rfl, HA, HO, HB⟩ := hrel
      by_cases hlk : k < 40
      · obtain ⟨ad, rfl, hadb, c0⟩ := (HT.out.below HB.out).at_ (k := k) (by rw [LT.out]; exact hlk)
        obtain ⟨ae, rfl, haeb, c1⟩ := (HR.out.below HB.out).at_ (k := k) (by rw [LR.out]; exact hlk)
        have x64 := WT.out.at_ k
        have y64 := WR.out.at_ k
        have HA1 := hid (fun h1 h2 => And.intro (HA.out.1.succ h1) (HA.out.2.succ h2))
        generalize t.getD k 0 = x at *
        generalize r.getD k 0 = y at *
        have i3 : (k : Int) < 40 := by omega
        have i4 : (0 : Int) ≤ k := by omega
        have KX : Hid (∀ W, Calls Try.prog 62 #[.int .i64 x] W fun e w' => e = .returned (.int .i64 (s16 x)) ∧ w' = W) := hid (fun W => (pulsessat_any x W).mono fun _ _ h => ⟨h.1, h.2.symm⟩)
        have KY : Hid (∀ W, Calls Try.prog 62 #[.int .i64 y] W fun e w' => e = .returned (.int .i64 (s16 y)) ∧ w' = W) := hid (fun W => (pulsessat_any y W).mono fun _ _ h => ⟨h.1, h.2.symm⟩)
        by_cases hx : x < -32768 ∨ 32767 < x
        · have e1 : (x == s16 x) = false := by rw [beq_eq_false_iff_ne]; exact fun h => s16_ne hx h.symm
          have e2 : (x != s16 x) = true := by rw [bne_iff_ne]; exact fun h => s16_ne hx h.symm
          clear hx x64 y64
          go_wp2
          go_quiet ((go_at_call 62; first | (with_reducible exact Calls.quiet_of_same (KX.out _)) | (with_reducible exact Calls.quiet_of_same (KY.out _))))
          go_wp2
          go_ret2
          exact NewSE.none_ (HB.out.trans ((below_drN _ _).mono HB.out.size))
        by_cases hy : y < -32768 ∨ 32767 < y
        · have e1 : (y == s16 y) = false := by rw [beq_eq_false_iff_ne]; exact fun h => s16_ne hy h.symm
          have e2 : (y != s16 y) = true := by rw [bne_iff_ne]; exact fun h => s16_ne hy h.symm
          have e3 := s16_id (x := x) (by omega) (by omega)
          rw [e3] at KX
          clear hx hy x64 y64 e3
          go_wp2
          go_quiet ((go_at_call 62; first | (with_reducible exact Calls.quiet_of_same (KX.out _)) | (with_reducible exact Calls.quiet_of_same (KY.out _))))
          go_wp2
          go_ret2
          exact NewSE.none_ (HB.out.trans ((below_drN _ _).mono HB.out.size))
        have e3 := s16_id (x := x) (by omega) (by omega)
        have e4 := s16_id (x := y) (by omega) (by omega)
        rw [e3] at KX
        rw [e4] at KY
        have HA2 := hid (HA1.out (ok16_yes (by omega) (by omega)) (ok16_yes (by omega) (by omega)))
        obtain ⟨p1, p2⟩ := prod16 (x := x) (y := y) (by omega) (by omega) (by omega) (by omega)
        obtain ⟨xs, hxl, hxb, hO⟩ := HO.out
        have co := hO.cell 0 (by omega)
        have fo := hO.frozen 0
        obtain ⟨s, hs⟩ : ∃ s, s = xs.getD 0 0 := ⟨_, rfl⟩
        rw [← hs] at co hxb
        have s1 : -1073741824000 ≤ s := by omega
        have s2 : s ≤ 1073741824000 := by omega
        have hw2 : IntKind.i64.wrap (x * y) = x * y := by rw [IntKind.wrap_i64]; omega
        have hw3 : IntKind.i64.wrap (s + x * y) = s + x * y := by rw [IntKind.wrap_i64]; omega
        have hw4 : IntKind.i64.wrap ((k : Int)) = k := by rw [IntKind.wrap_i64]; omega
        have NO := hid (fun N => show TBad w ((wr.drewN N).setCell ⟨w.heap.size, 0, none⟩ (.int .i64 (s + x * y))) (k + 1) from ⟨_, by rw [List.length_set]; exact hxl, by rw [get_set_same _ _ _ (by omega)]; omega, (hO.drewN N).set_ 0 (by omega) (s + x * y)⟩)
        have NB := hid (fun N => (HB.out.trans ((below_drN wr N).mono HB.out.size)).setCell (p := ⟨w.heap.size, 0, none⟩) (Nat.le_refl _) (.int .i64 (s + x * y)))
        have hadn : ad.block ≠ w.heap.size := by omega
        have haen : ae.block ≠ w.heap.size := by omega
        have HSS := hid hs
        clear hx hy x64 y64 e3 e4 hs hxl hxb hO
        go_wp2
        go_quiet ((go_at_call 62; first | (with_reducible exact Calls.quiet_of_same (KX.out _)) | (with_reducible exact Calls.quiet_of_same (KY.out _))))
        go_wp2
        go_region
        clear hw2 hw3 hw4
        go_wp2
        go_roundw
        case rel => exact ⟨k + 1, by omega, by go_num, HA2, hid (NO.out _), hid (NB.out _)⟩
        case measure => simp [intOf] <;> omega
      · exfalso
        obtain rfl : k = 40 := by omega
        exact HB0.out ⟨HA.out.1.all (by rw [LT.out]; exact Nat.le_refl _), HA.out.2.all (by rw [LR.out]; exact Nat.le_refl _)⟩

set_option maxHeartbeats 1000000 in
theorem pulsesTarget_any (A A2 : Option Addr) (c c2 n1 n2 : Nat) (t r : List Int) (w : World) (ht : Rs w w.heap.size A t) (hr : Rs w w.heap.size A2 r) (lt : t.length = n1) (lr : r.length = n2) (wt : W64 t) (wr' : W64 r) :
    Calls Try.prog 28 #[.slice A n1 c, .slice A2 n2 c2] w (NewSE w (tgL t r) (tgErr t r)) := by
  by_cases hn1 : n1 = 40
  rotate_left
  · have FIN := hid (fun w' (hB : Below w.heap.size w w') => show NewSE w (tgL t r) (tgErr t r) (.returned (.tuple #[.slice none 0 0, .int .i64 1])) w' from by rw [tgL_bad (by rw [tgErr_len (by omega)]; decide), tgErr_len (by omega)]; exact NewSE.none_ hB)
    have d0 : ((n1 : Int) != 40) = true := by simp; omega
    have d1 : ¬ (n1 : Int) = 40 := by omega
    clear hn1 ht hr lt lr wt wr'
    go_enter Try.func28, Try.ntmps28
    go_wp2
    go_ret2
    exact FIN.out _ (Below.refl _ _)
  by_cases hn2 : n2 = 40
  rotate_left
  · have FIN := hid (fun w' (hB : Below w.heap.size w w') => show NewSE w (tgL t r) (tgErr t r) (.returned (.tuple #[.slice none 0 0, .int .i64 1])) w' from by rw [tgL_bad (by rw [tgErr_len (by omega)]; decide), tgErr_len (by omega)]; exact NewSE.none_ hB)
    subst hn1
    have d0 : ((n2 : Int) != 40) = true := by simp; omega
    have d1 : ¬ (n2 : Int) = 40 := by omega
    clear hn2 ht hr lt lr wt wr'
    go_enter Try.func28, Try.ntmps28
    go_wp2
    go_ret2
    exact FIN.out _ (Below.refl _ _)
  subst hn1
  subst hn2
  have hE := tgErr_all lt lr
  by_cases hg : all16 t = true ∧ all16 r = true
  · have hb : tgB t r = true := by unfold tgB; rw [hg.1, hg.2]; rfl
    have h0 : tgErr t r = 0 := by rw [hE, hb]; rfl
    rw [h0, tgL_good h0]
    exact pulsesTarget_good A A2 c c2 t r w ht hr lt lr hg.1 hg.2
  · have hb : tgB t r = false := by unfold tgB; simpa using hg
    have h0 : tgErr t r = 2 := by rw [hE, hb]; rfl
    rw [h0, tgL_bad (by rw [h0]; decide)]
    exact pulsesTarget_bad A A2 c c2 t r w ht hr lt lr hg wt wr'

set_option maxHeartbeats 4000000 in
theorem refTarget_any (A A2 : Option Addr) (c c2 n1 n2 : Nat) (t r : List Int) (w : World) (ht : Rs w w.heap.size A t) (hr : Rs w w.heap.size A2 r) (lt : t.length = n1) (lr : r.length = n2) (l1 : n1 ≤ 17592186044416) (l2 : n2 ≤ 17592186044416) (wr' : W64 r) :
    Calls Try.prog 29 #[.slice A n1 c, .slice A2 n2 c2] w (NewSE w (tgL t r) (tgErr t r)) := by
  have K1 := hid (fun W (h : Rs W w.heap.size A t) => Right_any A c n1 w.heap.size t W h lt l1)
  have K2 := hid (fun W (h : Rs W w.heap.size A2 r) => Right_any A2 c2 n2 w.heap.size r W h lr l2)
  have HT := hid ht
  have HR := hid hr
  by_cases hn1 : n1 = 40
  rotate_left
  · have FIN := hid (fun w' (hB : Below w.heap.size w w') => show NewSE w (tgL t r) (tgErr t r) (.returned (.tuple #[.slice none 0 0, .int .i64 1])) w' from by rw [tgL_bad (by rw [tgErr_len (by omega)]; decide), tgErr_len (by omega)]; exact NewSE.none_ hB)
    have d0 : ((n1 : Int) != 40) = true := by simp; omega
    have d1 : ¬ (n1 : Int) = 40 := by omega
    clear hn1 ht hr lt lr
    go_enter Try.func29, Try.ntmps29
    go_wp2
    go_ret2
    exact FIN.out _ (Below.refl _ _)
  by_cases hn2 : n2 = 40
  rotate_left
  · have FIN := hid (fun w' (hB : Below w.heap.size w w') => show NewSE w (tgL t r) (tgErr t r) (.returned (.tuple #[.slice none 0 0, .int .i64 1])) w' from by rw [tgL_bad (by rw [tgErr_len (by omega)]; decide), tgErr_len (by omega)]; exact NewSE.none_ hB)
    subst hn1
    have d0 : ((n2 : Int) != 40) = true := by simp; omega
    have d1 : ¬ (n2 : Int) = 40 := by omega
    clear hn2 ht hr lt lr
    go_enter Try.func29, Try.ntmps29
    go_wp2
    go_ret2
    exact FIN.out _ (Below.refl _ _)
  subst hn1
  subst hn2
  have hE := tgErr_all lt lr
  by_cases gt : all16 t = true
  rotate_left
  · have hb : tgB t r = false := by unfold tgB; simp [gt]
    have FIN := hid (fun w' (hB : Below w.heap.size w w') => show NewSE w (tgL t r) (tgErr t r) (.returned (.tuple #[.slice none 0 0, .int .i64 2])) w' from by rw [tgL_bad (by rw [hE, hb]; decide), hE, hb]; exact NewSE.none_ hB)
    have gf : all16 t = false := by simpa using gt
    rw [gf] at K1
    clear gt gf hb hE ht hr lt lr
    go_enter Try.func29, Try.ntmps29
    go_wp2_with fail
    refine (K1.out _ HT.out).mono ?_
    rintro e w1 ⟨rfl, rfl⟩
    go_wp2
    go_ret2
    exact FIN.out _ (Below.refl _ _)
  by_cases gr : all16 r = true
  rotate_left
  · have hb : tgB t r = false := by unfold tgB; simp [gr]
    have FIN := hid (fun w' (hB : Below w.heap.size w w') => show NewSE w (tgL t r) (tgErr t r) (.returned (.tuple #[.slice none 0 0, .int .i64 2])) w' from by rw [tgL_bad (by rw [hE, hb]; decide), hE, hb]; exact NewSE.none_ hB)
    have gf : all16 r = false := by simpa using gr
    rw [gt] at K1
    rw [gf] at K2
    clear gt gr gf hb hE ht hr lt lr
    go_enter Try.func29, Try.ntmps29
    go_wp2_with fail
    refine (K1.out _ HT.out).mono ?_
    rintro e w1 ⟨rfl, rfl⟩
    go_wp2_with fail
    refine (K2.out _ HR.out).mono ?_
    rintro e w2 ⟨rfl, rfl⟩
    go_wp2
    go_ret2
    exact FIN.out _ (Below.refl _ _)
  have hb : tgB t r = true := by unfold tgB; rw [gt, gr]; rfl
  have HE := hid (show tgErr t r = 0 by rw [hE, hb]; rfl)
  have HL := hid (show tgL t r = (List.range 40).map (tgE t r) from tgL_good HE.out)
  have GT := hid (all16_in gt)
  have KL := hid (fun n W (h : Rs W W.heap.size A2 r) (hn : n ≤ 40) => late_any A2 c2 r n W h lr hn wr')
  have KD := hid (fun n W Aq cq (h1 : Rs W W.heap.size A t) (h2 : Rs W W.heap.size Aq (lateL r n)) => dot_any A Aq c cq 40 40 t (lateL r n) W h1 h2 lt (lateL_len _ _) (Nat.le_refl _) (by omega) (all16_in gt) (lateL_in _ _))
  rw [gt] at K1
  rw [gr] at K2
  clear gt gr hb hE ht hr lt lr wr'
  go_enter Try.func29, Try.ntmps29
  go_wp2_with fail
  refine (K1.out _ HT.out).mono ?_
  rintro e w1 ⟨rfl, rfl⟩
  go_wp2_with fail
  refine (K2.out _ HR.out).mono ?_
  rintro e w2 ⟨rfl, rfl⟩
  have B2 := hid (Below.refl w.heap.size w)
  go_wp2
  go_loopw [6, 7] (fun ov iv wr => ∃ (k : Nat) (Ao : Option Addr) (co : Nat), k ≤ 40 ∧ iv = .int .i64 k ∧ ov = .slice Ao k co ∧ Hid (Own wr w.heap.size Ao co ((List.range k).map (tgE t r))) ∧ Hid (Below w.heap.size w wr)) (fun _ iv _ => 40 - (intOf iv).toNat)
  case atStart => exact ⟨0, none, 0, by omega, rfl, rfl, hid Own.nil, B2⟩
  case round =>
    clear B2
    obtain ⟨k, Ao, co, hk, rfl, rfl, HO, HB⟩ := hrel
    by_cases hlt : k < 40
    · have hk40 : k ≤ 40 := hk
      go_wp2_with fail
      refine (KL.out k wr ((HR.out.below HB.out).more HB.out.size) hk40).mono ?_
      rintro e w3 ⟨A3, c3, rfl, hO, hB⟩
      have L3 := hid hO
      have O3 := hid (HO.out.below hB)
      have B3 := hid (HB.out.trans (hB.mono HB.out.size))
      clear hO hB HO HB
      go_wp2_with fail
      refine (KD.out k w3 A3 c3 ((HT.out.below B3.out).more B3.out.size) L3.out.reads).mono ?_
      rintro e w4 ⟨rfl, hB⟩
      have O4 := hid (O3.out.below hB)
      have B4 := hid (B3.out.trans (hB.mono B3.out.size))
      have HD := hid (tg_dot t r k)
      generalize dotL t (lateL r k) 40 = x at *
      clear hB O3 B3 L3
      go_wp2_with (at_builtin; refine wpList_pushN rfl (.tmp 28) (.tmp 34) rfl w.heap.size Ao co k ((List.range k).map (tgE t r)) rfl (by simp) (O4.out.alloc _) ⟨w4.heap.size, 0, none⟩ x rfl (cell_new w4 _ _) (by omega) (Nat.le_trans B4.out.size (by simp)) ?_; intro A5 c5 w5 hO hG hA; have O5 := hid hO; have G5 := hid hG; clear hO hG hA)
      have N1 := hid (show Own w5 w.heap.size A5 c5 ((List.range (k + 1)).map (tgE t r)) by rw [← snoc_range, ← HD.out]; exact O5.out)
      have N4 := hid (below_grown (B4.out.alloc B4.out.size _) (O4.out.alloc _) G5.out (Nat.le_trans B4.out.size (by simp)))
      go_wp2
      go_roundw
      case rel => exact ⟨k + 1, A5, c5, by omega, by go_num, rfl, N1, N4⟩
      case measure => simp [intOf] <;> omega
    · obtain rfl : k = 40 := by omega
      go_wp2
      go_ret2
      exact ⟨Ao, co, by rw [HL.out, HE.out]; simp, by rw [HL.out]; exact HO.out, HB.out⟩

theorem rs_block' {w : World} {g : Nat} {t : TypeId} {xs : List Int} (h : IB w g t xs) : Rs w w.heap.size (some ⟨g, 0, none⟩) xs :=
  ⟨by simp [ints], fun _ => ⟨_, rfl, Blk.lt h, fun j u hu => by
    have hj : j < xs.length := by
      have := (List.getElem?_eq_some_iff.mp hu).1
      rwa [ints_len] at this
    rw [ints_get xs j hj] at hu
    rw [add_zero', ← hu]
    exact IB.cell h j hj⟩⟩
def Z40 : List Int := List.replicate 40 0
theorem z40_len : Z40.length = 40 := by simp [Z40]
theorem z40_16 : all16 Z40 = true := by decide
theorem z40_w : W64 Z40 := fun x hx => by
  have := (List.mem_replicate.1 hx).2
  omega
theorem tg_z40 : (tgL Z40 Z40).length = 40 := by
  rw [tgL_good (by rw [tgErr_all z40_len z40_len]; unfold tgB; rw [z40_16]; rfl)]
  simp

set_option maxHeartbeats 4000000 in
theorem walkPulsesTargets (w : World) (A : Option Addr) (c : Nat) (xs : List Int) (hr : Rs w w.heap.size A xs) (hw : W64 xs) (hl : xs.length ≤ c) (hc : c * 8 ≤ 140737488351232) (A' : Option Addr) (c' : Nat) (ys : List Int) (hr' : Rs w w.heap.size A' ys) (hw' : W64 ys) (hl' : ys.length ≤ c') (hc' : c' * 8 ≤ 140737488351232) :
    Calls Try.prog 7 #[.slice A xs.length c, .slice A' ys.length c'] w fun e w' => e = .returned (.bool true) ∧ Below w.heap.size w w' := by
  have KI := hid (ints_any A c xs w hr (by omega))
  have KJ := hid (fun W (h : Rs W W.heap.size A' ys) => ints_any A' c' ys W h (by omega))
  have K1 := hid (fun W A1 c1 A2 c2 (h : Rs W W.heap.size A1 xs) (h' : Rs W W.heap.size A2 ys) => pulsesTarget_any A1 A2 c1 c2 xs.length ys.length xs ys W h h' rfl rfl hw hw')
  have K2 := hid (fun W (h : Rs W W.heap.size A xs) (h' : Rs W W.heap.size A' ys) => refTarget_any A A' c c' xs.length ys.length xs ys W h h' rfl rfl (by omega) (by omega) hw')
  have K3 := fun W g1 g2 (h : IB W g1 3 Z40) (h' : IB W g2 3 Z40) => pulsesTarget_any (some ⟨g1, 0, none⟩) (some ⟨g2, 0, none⟩) 40 40 40 40 Z40 Z40 W (rs_block' h) (rs_block' h') z40_len z40_len z40_w z40_w
  unfold NewSE at K3
  rw [tg_z40] at K3
  have K3' := hid K3
  have hle := tgL_le xs ys
  have HR := hid hr
  have HR' := hid hr'
  clear K3 hr hr' hw hw' hl hl' hc hc'
  generalize tgL xs ys = zs at *
  generalize tgErr xs ys = er at *
  generalize tgErr Z40 Z40 = er3 at *
  go_enter Try.func7, Try.ntmps7
  go_wp2_with fail
  refine KI.out.mono ?_
  rintro e w1 ⟨A1, c1, rfl, hO, hB⟩
  have O1 := hid hO
  have B1 := hid hB
  clear hO hB
  go_wp2_with fail
  refine (KJ.out w1 ((HR'.out.below B1.out).more B1.out.size)).mono ?_
  rintro e w2 ⟨A2, c2, rfl, hO, hB⟩
  have O2 := hid hO
  have R1 := hid (O1.out.below hB)
  have B2 := hid (B1.out.trans (hB.mono B1.out.size))
  clear hO hB O1
  go_wp2_with fail
  refine (K1.out w2 A1 c1 A2 c2 R1.out.reads O2.out.reads).mono ?_
  rintro e w3 ⟨A3, c3, rfl, hO, hB⟩
  have O3 := hid hO
  have B3 := hid (B2.out.trans (hB.mono B2.out.size))
  clear hO hB R1 O2
  go_wp2_with fail
  refine (K2.out w3 ((HR.out.below B3.out).more B3.out.size) ((HR'.out.below B3.out).more B3.out.size)).mono ?_
  rintro e W ⟨A4, c4, rfl, hO, hB⟩
  have O4 := hid hO
  have R3 := hid (O3.out.below hB)
  have B4 := hid (B3.out.trans (hB.mono B3.out.size))
  clear hO hB O3
  have hmk : ∀ w : World, (Instr.makeSlice 22 (.int .i64 40) (.int .i64 40)).run Try.prog w = .ok (.slice (some ⟨w.heap.size, 0, none⟩) 40 40) (w.alloc (.cells (agi Z40) 3)) := fun _ => by kernel_rfl
  have J1 := hid (show IB (World.drew ((W.alloc (.cells (agi Z40) 3)).alloc (.cells (agi Z40) 3))) W.heap.size 3 Z40 from Blk.drew (Blk.alloc (IB.new W 3 Z40) _))
  have J2 := hid (show IB (World.drew ((W.alloc (.cells (agi Z40) 3)).alloc (.cells (agi Z40) 3))) (W.heap.size + 1) 3 Z40 from by have h := IB.new (W.alloc (.cells (agi Z40) 3)) 3 Z40; simp only [World.size_alloc] at h; exact Blk.drew h)
  have BXW := hid ((((Below.refl W.heap.size W).alloc (Nat.le_refl _) (.cells (agi Z40) 3)).alloc (by simp) (.cells (agi Z40) 3)).drew)
  have BX := hid (B4.out.trans (BXW.out.mono B4.out.size))
  go_wp2
  go_region_held3 (fun _ => True) (trivial) (first
    | (go_at_call 28; (with_reducible refine (K3'.out (World.drew ((W.alloc (.cells (agi Z40) 3)).alloc (.cells (agi Z40) 3))) W.heap.size (W.heap.size + 1) J1.out J2.out).mono ?_); rintro e wT ⟨A5, c5, rfl, hO, hB⟩; have BT := hid (BX.out.trans (hB.mono BX.out.size)); have RT3 := hid ((R3.out.below BXW.out).below hB); have RT4 := hid ((O4.out.below BXW.out).below hB); clear hO hB)
    | (go_at_call 28; (with_reducible refine (K3'.out (World.drew ((W.alloc (.cells (agi Z40) 3)).alloc (.cells (agi Z40) 3))) (W.heap.size + 1) W.heap.size J2.out J1.out).mono ?_); rintro e wT ⟨A5, c5, rfl, hO, hB⟩; have BT := hid (BX.out.trans (hB.mono BX.out.size)); have RT3 := hid ((R3.out.below BXW.out).below hB); have RT4 := hid ((O4.out.below BXW.out).below hB); clear hO hB))
  all_goals
    rename_i hHeldZ
    clear hHeldZ hmk
    try simp only [Exit.then]
    go_wp2_with fail
    refine (Same_yes A3 A4 c3 c4 zs.length _ _ zs _ RT3.out.reads RT4.out.reads rfl (by omega)).mono ?_
    rintro e w8 ⟨rfl, hB⟩
    have B8 := hid (BT.out.trans (hB.mono BT.out.size))
    clear hB
    go_wp2
    go_ret
    exact ⟨by simp, B8.out⟩
end Go.Proofs.Ytmebhhjkbaddmaa
