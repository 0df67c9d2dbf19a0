/- Texts that the law rests on, laid together: TargW, FoldW. -/
import Derived.Test.YthoiikkjjaldnaaDoorZadc01a
import Derived.Test.YthoiikkjjaldnaaDoorZ10bfcc
import Derived.Test.YthoiikkjjaldnaaDoorZ7f3e4a
import Derived.BigRegion
import Derived.Deep.RegionHeld3
import Derived.Test.YthoiikkjjaldnaaDoorZ104825
/- The walks of the program's Target and the reference's, and of the law PulsesTargets. -/
namespace Go.Proofs.YthoiikkjjaldnaaDoor
set_option linter.unusedVariables false
set_option linter.unusedSimpArgs false
set_option maxRecDepth 100000
open Go.RowKit

def tgB (t r : List Int) : Bool := all16 t && all16 r
def tgErr (t r : List Int) : Int := if t.length = 40 ∧ r.length = 40 then errOf (tgB t r) else 1
def tgT (t r : List Int) (n i : Nat) : Int := t.getD i 0 * lateE r n i
def tgE (t r : List Int) (n : Nat) : Int := sumN (tgT t r n) 40
def tgL (t r : List Int) : List Int := if tgErr t r = 0 then (List.range 40).map (tgE t r) else []
theorem all16_in {xs : List Int} (h : all16 xs = true) : In16 xs := all16_at h
theorem tgT_range {t : List Int} (h : In16 t) (r : List Int) (n k : Nat) : -(1073741824 * (k : Int)) ≤ sumN (tgT t r n) k ∧ sumN (tgT t r n) k ≤ 1073741824 * (k : Int) := by
  induction k with
  | zero => simp [sumN]
  | succ k ih =>
    have hp := prod16 (h k).1 (h k).2 (lateE_range r n k).1 (lateE_range r n k).2
    simp only [sumN]
    unfold tgT at *
    push_cast
    omega
theorem tgT_low (t r : List Int) (n : Nat) : ∀ k, k ≤ n → sumN (tgT t r n) k = 0
  | 0, _ => rfl
  | k + 1, h => by
    simp only [sumN]
    rw [tgT_low t r n k (by omega)]
    unfold tgT lateE
    rw [if_neg (by omega)]
    simp
/-- The answer's row while the sample n is summed up to k. -/
def tgN (t r : List Int) (n k : Nat) : List Int := (List.range 40).map (fun j => if j < n then tgE t r j else if j = n then sumN (tgT t r n) k else 0)
theorem tgN_len (t r : List Int) (n k : Nat) : (tgN t r n k).length = 40 := by simp [tgN]
theorem tgN_at (t r : List Int) {n k : Nat} (hn : n < 40) : (tgN t r n k).getD n 0 = sumN (tgT t r n) k := by
  unfold tgN; rw [range_get _ hn, if_neg (by omega), if_pos rfl]
theorem tgN_set (t r : List Int) {n k : Nat} (hn : n < 40) : (tgN t r n k).set n (sumN (tgT t r n) (k + 1)) = tgN t r n (k + 1) := by
  refine list_ext (by simp [tgN_len]) fun j hj => ?_
  rw [List.length_set, tgN_len] at hj
  by_cases e : n = j
  · subst e; rw [get_set_same _ _ _ (by rw [tgN_len]; exact hj), tgN_at t r hn]
  · rw [get_set_other _ _ e]
    unfold tgN
    rw [range_get _ hj, range_get _ hj]
    by_cases h2 : j < n
    · rw [if_pos h2, if_pos h2]
    · rw [if_neg h2, if_neg h2, if_neg (by omega), if_neg (by omega)]
theorem tgN_next (t r : List Int) (n : Nat) : tgN t r n 40 = tgN t r (n + 1) (n + 1) := by
  refine list_ext (by rw [tgN_len, tgN_len]) fun j hj => ?_
  rw [tgN_len] at hj
  unfold tgN
  rw [range_get _ hj, range_get _ hj]
  by_cases h2 : j < n
  · rw [if_pos h2, if_pos (by omega)]
  · by_cases h3 : j = n
    · subst h3; rw [if_neg (by omega), if_pos rfl, if_pos (by omega)]; rfl
    · rw [if_neg h2, if_neg h3, if_neg (by omega)]
      by_cases h4 : j = n + 1
      · rw [if_pos h4, tgT_low t r (n + 1) (n + 1) (Nat.le_refl _)]
      · rw [if_neg h4]
theorem tgN_zero (t r : List Int) : tgN t r 0 0 = List.replicate 40 0 := by
  refine list_ext (by rw [tgN_len]; simp) fun j hj => ?_
  rw [tgN_len] at hj
  rw [repl_get]
  unfold tgN
  rw [range_get _ hj, if_neg (by omega)]
  split <;> rfl
theorem tgN_end (t r : List Int) : tgN t r 40 40 = (List.range 40).map (tgE t r) := by
  refine list_ext (by rw [tgN_len]; simp) fun j hj => ?_
  rw [tgN_len] at hj
  unfold tgN
  rw [range_get _ hj, range_get _ hj, if_pos hj]

theorem tgErr_len {t r : List Int} (h : ¬ (t.length = 40 ∧ r.length = 40)) : tgErr t r = 1 := by unfold tgErr; rw [if_neg h]
theorem tgErr_all {t r : List Int} (h1 : t.length = 40) (h2 : r.length = 40) : tgErr t r = errOf (tgB t r) := by unfold tgErr; rw [if_pos ⟨h1, h2⟩]
theorem tgL_bad {t r : List Int} (h : tgErr t r ≠ 0) : tgL t r = [] := by unfold tgL; rw [if_neg h]
theorem tgL_good {t r : List Int} (h : tgErr t r = 0) : tgL t r = (List.range 40).map (tgE t r) := by unfold tgL; rw [if_pos h]
set_option maxHeartbeats 4000000 in
theorem pulsesTarget_good (A A2 : Option Addr) (c c2 : Nat) (t r : List Int) (w : World) (ht : Rs w w.heap.size A t) (hr : Rs w w.heap.size A2 r) (lt : t.length = 40) (lr : r.length = 40) (gt : all16 t = true) (gr : all16 r = true) :
    Calls Tryd.prog 58 #[.slice A 40 c, .slice A2 40 c2] w (NewSE w ((List.range 40).map (tgE t r)) 0) := by
  have HT := hid ht
  have HR := hid hr
  have LT := hid lt
  have LR := hid lr
  have GT := hid (all16_in gt)
  have GR := hid (all16_in gr)
  clear ht hr lt lr gt gr
  go_enter Tryd.func58, Tryd.ntmps58
  go_wp2_with (at_make; refine wpList_makeI rfl _ _ rfl .i64 .i64 40 rfl rfl w.heap.size (by omega) (Nat.le_refl _) ?_; intro w1 hO hG; have O1 := hid (show Own w1 w.heap.size (some ⟨w.heap.size, 0, none⟩) 40 (tgN t r 0 0) by rw [tgN_zero]; exact hO); have B1 := hid ((Below.refl w.heap.size w).grown hG (Nat.le_refl _) (by simp)); clear hO hG)
  go_loopw [20] (fun iv wr => ∃ n : Nat, n ≤ 40 ∧ iv = .int .i64 n ∧ Hid (Own wr w.heap.size (some ⟨w.heap.size, 0, none⟩) 40 (tgN t r n n)) ∧ Hid (Below w.heap.size w wr)) (fun iv _ => 40 - (intOf iv).toNat)
  case atStart => exact ⟨0, by omega, rfl, O1, B1⟩
  case round =>
    clear O1 B1
    obtain ⟨n, hn, rfl, HO, HB⟩ := hrel
    obtain ⟨wo, rfl⟩ : ∃ wo : World, wo = wr := ⟨_, rfl⟩
    by_cases hlt : n < 40
    · go_wp2
      go_loopw [8] (fun iv wr => ∃ k : Nat, n ≤ k ∧ k ≤ 40 ∧ iv = .int .i64 k ∧ Hid (Own wr w.heap.size (some ⟨w.heap.size, 0, none⟩) 40 (tgN t r n k)) ∧ Hid (Below w.heap.size w wr)) (fun iv _ => 40 - (intOf iv).toNat)
      case atStart => exact ⟨n, Nat.le_refl _, hn, rfl, HO, HB⟩
      case round =>
        clear HO HB
        obtain ⟨k, hnk, hk, rfl, HO, HB⟩ := hrel
        by_cases hlk : k < 40
        · obtain ⟨ad, rfl, hadb, c0⟩ := (HT.out.below HB.out).at_ (k := k) (by rw [LT.out]; exact hlk)
          obtain ⟨ae, rfl, haeb, c1⟩ := (HR.out.below HB.out).at_ (k := k - n) (by rw [LR.out]; omega)
          have co := HO.out.cell n (by rw [tgN_len]; exact hlt)
          rw [tgN_at t r hlt] at co
          have fo := HO.out.frozen n
          have sr := tgT_range GT.out r n k
          have HSet := hid (tgN_set t r (n := n) (k := k) hlt)
          have ST := hid (show sumN (tgT t r n) (k + 1) = sumN (tgT t r n) k + t.getD k 0 * r.getD (k - n) 0 by
            simp only [sumN]; unfold tgT lateE; rw [if_pos hnk, s16_id (GR.out _).1 (GR.out _).2])
          have x16 := GT.out k
          have y16 := GR.out (k - n)
          generalize t.getD k 0 = x at *
          generalize r.getD (k - n) 0 = y at *
          obtain ⟨m, hm⟩ : ∃ m, m = k - n := ⟨_, rfl⟩
          rw [← hm] at c1
          obtain ⟨s, hs⟩ : ∃ s, s = sumN (tgT t r n) k := ⟨_, rfl⟩
          rw [← hs] at co sr ST
          obtain ⟨p1, p2⟩ := prod16 x16.1 x16.2 y16.1 y16.2
          have s1 : -1073741824000 ≤ s := by omega
          have s2 : s ≤ 1073741824000 := by omega
          have hw0 : IntKind.i64.wrap ((k : Int) - (n : Nat)) = (m : Nat) := by rw [IntKind.wrap_i64]; omega
          have hw2 : IntKind.i64.wrap (x * y) = x * y := by rw [IntKind.wrap_i64]; omega
          have hw3 : IntKind.i64.wrap (s + x * y) = s + x * y := by rw [IntKind.wrap_i64]; omega
          have KX : Hid (∀ W, Calls Tryd.prog 85 #[.int .i64 x] W fun e w' => e = .returned (.int .i64 x) ∧ w' = W) := hid (fun W => (pulsessat_any x W).mono fun _ _ h => ⟨by rw [h.1, s16_id x16.1 x16.2], h.2.symm⟩)
          have KY : Hid (∀ W, Calls Tryd.prog 85 #[.int .i64 y] W fun e w' => e = .returned (.int .i64 y) ∧ w' = W) := hid (fun W => (pulsessat_any y W).mono fun _ _ h => ⟨by rw [h.1, s16_id y16.1 y16.2], h.2.symm⟩)
          have i1 : (m : Int) < 40 := by omega
          have i2 : (0 : Int) ≤ m := by omega
          have i3 : (k : Int) < 40 := by omega
          have i4 : (0 : Int) ≤ k := by omega
          have i5 : (n : Int) < 40 := by omega
          have i6 : (0 : Int) ≤ n := by omega
          have NO := hid (fun N => show Own ((wr.drewN N).setCell ⟨w.heap.size, n, none⟩ (.int .i64 (s + x * y))) w.heap.size (some ⟨w.heap.size, 0, none⟩) 40 (tgN t r n (k + 1)) from by rw [← HSet.out, ST.out]; exact (HO.out.drewN N).set_ n (by rw [tgN_len]; exact hlt) (s + x * y))
          have NB := hid (fun N => (HB.out.trans ((below_drN wr N).mono HB.out.size)).setCell (p := ⟨w.heap.size, n, none⟩) (Nat.le_refl _) (.int .i64 (s + x * y)))
          have HM := hid hm
          have HSS := hid hs
          have hadn : ad.block ≠ w.heap.size := by omega
          have haen : ae.block ≠ w.heap.size := by omega
          clear hm hs x16 y16 sr
          go_wp2
          go_quiet ((go_at_call 85; first | (with_reducible exact Calls.quiet_of_same (KX.out _)) | (with_reducible exact Calls.quiet_of_same (KY.out _))))
          go_wp2
          go_region
          clear hw0 hw2 hw3
          go_wp2
          go_roundw
          case rel => exact ⟨k + 1, by omega, by omega, by go_num, hid (NO.out _), hid (NB.out _)⟩
          case measure => simp [intOf] <;> omega
        · obtain rfl : k = 40 := by omega
          have NO := hid (show Own wr w.heap.size (some ⟨w.heap.size, 0, none⟩) 40 (tgN t r (n + 1) (n + 1)) by rw [← tgN_next]; exact HO.out)
          go_wp2
          go_roundw
          case rel => exact ⟨n + 1, by omega, by go_num, NO, HB⟩
          case measure => simp [intOf] <;> omega
    · obtain rfl : n = 40 := by omega
      have NO := hid (show Own wo w.heap.size (some ⟨w.heap.size, 0, none⟩) 40 ((List.range 40).map (tgE t r)) by rw [← tgN_end]; exact HO.out)
      go_wp2
      go_ret2
      exact ⟨_, _, by simp, NO.out, HB.out⟩


/-- A row of forty that the call made, its first number bounded. -/
def TBad (w wr : World) (k : Nat) : Prop := ∃ xs : List Int, xs.length = 40 ∧ (-(1073741824 * (k : Int)) ≤ xs.getD 0 0 ∧ xs.getD 0 0 ≤ 1073741824 * (k : Int)) ∧ Own wr w.heap.size (some ⟨w.heap.size, 0, none⟩) 40 xs

set_option maxHeartbeats 4000000 in
theorem pulsesTarget_bad (A A2 : Option Addr) (c c2 : Nat) (t r : List Int) (w : World) (ht : Rs w w.heap.size A t) (hr : Rs w w.heap.size A2 r) (lt : t.length = 40) (lr : r.length = 40) (hb : ¬ (all16 t = true ∧ all16 r = true)) (wt : W64 t) (wr' : W64 r) :
    Calls Tryd.prog 58 #[.slice A 40 c, .slice A2 40 c2] w (NewSE w [] 2) := by
  have HT := hid ht
  have HR := hid hr
  have LT := hid lt
  have LR := hid lr
  have HB0 := hid hb
  have WT := hid wt
  have WR := hid wr'
  clear ht hr lt lr hb wt wr'
  go_enter Tryd.func58, Tryd.ntmps58
  go_wp2_with (at_make; refine wpList_makeI rfl _ _ rfl .i64 .i64 40 rfl rfl w.heap.size (by omega) (Nat.le_refl _) ?_; intro w1 hO hG; have O1 := hid (show TBad w w1 0 from ⟨List.replicate 40 0, by simp, by simp, hO⟩); have B1 := hid ((Below.refl w.heap.size w).grown hG (Nat.le_refl _) (by simp)); clear hO hG)
  go_loopw [20] (fun iv wr => iv = .int .i64 0 ∧ Hid (TBad w wr 0) ∧ Hid (Below w.heap.size w wr)) (fun _ _ => 0)
  case atStart => exact ⟨rfl, O1, B1⟩
  case round =>
    clear O1 B1
    obtain ⟨rfl, HO, HB⟩ := hrel
    obtain ⟨wo, rfl⟩ : ∃ wo : World, wo = wr := ⟨_, rfl⟩
    go_wp2
    go_loopw [8] (fun iv wr => ∃ k : Nat, k ≤ 40 ∧ iv = .int .i64 k ∧ Hid (allTo ok16 t k ∧ allTo ok16 r k) ∧ Hid (TBad w wr k) ∧ Hid (Below w.heap.size w wr)) (fun iv _ => 40 - (intOf iv).toNat)
    case atStart => exact ⟨0, by omega, rfl, hid ⟨allTo.zero, allTo.zero⟩, HO, HB⟩
    case round =>
      clear HO HB
      obtain ⟨k, hk, rfl, HA, HO, HB⟩ := hrel
      by_cases hlk : k < 40
      · obtain ⟨ad, rfl, hadb, c0⟩ := (HT.out.below HB.out).at_ (k := k) (by rw [LT.out]; exact hlk)
        obtain ⟨ae, rfl, haeb, c1⟩ := (HR.out.below HB.out).at_ (k := k) (by rw [LR.out]; exact hlk)
        have x64 := WT.out.at_ k
        have y64 := WR.out.at_ k
        have HA1 := hid (fun h1 h2 => And.intro (HA.out.1.succ h1) (HA.out.2.succ h2))
        generalize t.getD k 0 = x at *
        generalize r.getD k 0 = y at *
        have i3 : (k : Int) < 40 := by omega
        have i4 : (0 : Int) ≤ k := by omega
        have KX : Hid (∀ W, Calls Tryd.prog 85 #[.int .i64 x] W fun e w' => e = .returned (.int .i64 (s16 x)) ∧ w' = W) := hid (fun W => (pulsessat_any x W).mono fun _ _ h => ⟨h.1, h.2.symm⟩)
        have KY : Hid (∀ W, Calls Tryd.prog 85 #[.int .i64 y] W fun e w' => e = .returned (.int .i64 (s16 y)) ∧ w' = W) := hid (fun W => (pulsessat_any y W).mono fun _ _ h => ⟨h.1, h.2.symm⟩)
        by_cases hx : x < -32768 ∨ 32767 < x
        · have e1 : (x == s16 x) = false := by rw [beq_eq_false_iff_ne]; exact fun h => s16_ne hx h.symm
          have e2 : (x != s16 x) = true := by rw [bne_iff_ne]; exact fun h => s16_ne hx h.symm
          clear hx x64 y64
          go_wp2
          go_quiet ((go_at_call 85; first | (with_reducible exact Calls.quiet_of_same (KX.out _)) | (with_reducible exact Calls.quiet_of_same (KY.out _))))
          go_wp2
          go_ret2
          exact NewSE.none_ (HB.out.trans ((below_drN _ _).mono HB.out.size))
        by_cases hy : y < -32768 ∨ 32767 < y
        · have e1 : (y == s16 y) = false := by rw [beq_eq_false_iff_ne]; exact fun h => s16_ne hy h.symm
          have e2 : (y != s16 y) = true := by rw [bne_iff_ne]; exact fun h => s16_ne hy h.symm
          have e3 := s16_id (x := x) (by omega) (by omega)
          rw [e3] at KX
          clear hx hy x64 y64 e3
          go_wp2
          go_quiet ((go_at_call 85; first | (with_reducible exact Calls.quiet_of_same (KX.out _)) | (with_reducible exact Calls.quiet_of_same (KY.out _))))
          go_wp2
          go_ret2
          exact NewSE.none_ (HB.out.trans ((below_drN _ _).mono HB.out.size))
        have e3 := s16_id (x := x) (by omega) (by omega)
        have e4 := s16_id (x := y) (by omega) (by omega)
        rw [e3] at KX
        rw [e4] at KY
        have HA2 := hid (HA1.out (ok16_yes (by omega) (by omega)) (ok16_yes (by omega) (by omega)))
        obtain ⟨p1, p2⟩ := prod16 (x := x) (y := y) (by omega) (by omega) (by omega) (by omega)
        obtain ⟨xs, hxl, hxb, hO⟩ := HO.out
        have co := hO.cell 0 (by omega)
        have fo := hO.frozen 0
        obtain ⟨s, hs⟩ : ∃ s, s = xs.getD 0 0 := ⟨_, rfl⟩
        rw [← hs] at co hxb
        have s1 : -1073741824000 ≤ s := by omega
        have s2 : s ≤ 1073741824000 := by omega
        have hw2 : IntKind.i64.wrap (x * y) = x * y := by rw [IntKind.wrap_i64]; omega
        have hw3 : IntKind.i64.wrap (s + x * y) = s + x * y := by rw [IntKind.wrap_i64]; omega
        have hw4 : IntKind.i64.wrap ((k : Int)) = k := by rw [IntKind.wrap_i64]; omega
        have NO := hid (fun N => show TBad w ((wr.drewN N).setCell ⟨w.heap.size, 0, none⟩ (.int .i64 (s + x * y))) (k + 1) from ⟨_, by rw [List.length_set]; exact hxl, by rw [get_set_same _ _ _ (by omega)]; omega, (hO.drewN N).set_ 0 (by omega) (s + x * y)⟩)
        have NB := hid (fun N => (HB.out.trans ((below_drN wr N).mono HB.out.size)).setCell (p := ⟨w.heap.size, 0, none⟩) (Nat.le_refl _) (.int .i64 (s + x * y)))
        have hadn : ad.block ≠ w.heap.size := by omega
        have haen : ae.block ≠ w.heap.size := by omega
        have HSS := hid hs
        clear hx hy x64 y64 e3 e4 hs hxl hxb hO
        go_wp2
        go_quiet ((go_at_call 85; first | (with_reducible exact Calls.quiet_of_same (KX.out _)) | (with_reducible exact Calls.quiet_of_same (KY.out _))))
        go_wp2
        go_region
        clear hw2 hw3 hw4
        go_wp2
        go_roundw
        case rel => exact ⟨k + 1, by omega, by go_num, HA2, hid (NO.out _), hid (NB.out _)⟩
        case measure => simp [intOf] <;> omega
      · exfalso
        obtain rfl : k = 40 := by omega
        exact HB0.out ⟨HA.out.1.all (by rw [LT.out]; exact Nat.le_refl _), HA.out.2.all (by rw [LR.out]; exact Nat.le_refl _)⟩

set_option maxHeartbeats 1000000 in
theorem pulsesTarget_any (A A2 : Option Addr) (c c2 n1 n2 : Nat) (t r : List Int) (w : World) (ht : Rs w w.heap.size A t) (hr : Rs w w.heap.size A2 r) (lt : t.length = n1) (lr : r.length = n2) (wt : W64 t) (wr' : W64 r) :
    Calls Tryd.prog 58 #[.slice A n1 c, .slice A2 n2 c2] w (NewSE w (tgL t r) (tgErr t r)) := by
  by_cases hn1 : n1 = 40
  rotate_left
  · have FIN := hid (fun w' (hB : Below w.heap.size w w') => show NewSE w (tgL t r) (tgErr t r) (.returned (.tuple #[.slice none 0 0, .int .i64 1])) w' from by rw [tgL_bad (by rw [tgErr_len (by omega)]; decide), tgErr_len (by omega)]; exact NewSE.none_ hB)
    have d0 : ((n1 : Int) != 40) = true := by simp; omega
    have d1 : ¬ (n1 : Int) = 40 := by omega
    clear hn1 ht hr lt lr wt wr'
    go_enter Tryd.func58, Tryd.ntmps58
    go_wp2
    go_ret2
    exact FIN.out _ (Below.refl _ _)
  by_cases hn2 : n2 = 40
  rotate_left
  · have FIN := hid (fun w' (hB : Below w.heap.size w w') => show NewSE w (tgL t r) (tgErr t r) (.returned (.tuple #[.slice none 0 0, .int .i64 1])) w' from by rw [tgL_bad (by rw [tgErr_len (by omega)]; decide), tgErr_len (by omega)]; exact NewSE.none_ hB)
    subst hn1
    have d0 : ((n2 : Int) != 40) = true := by simp; omega
    have d1 : ¬ (n2 : Int) = 40 := by omega
    clear hn2 ht hr lt lr wt wr'
    go_enter Tryd.func58, Tryd.ntmps58
    go_wp2
    go_ret2
    exact FIN.out _ (Below.refl _ _)
  subst hn1
  subst hn2
  have hE := tgErr_all lt lr
  by_cases hg : all16 t = true ∧ all16 r = true
  · have hb : tgB t r = true := by unfold tgB; rw [hg.1, hg.2]; rfl
    have h0 : tgErr t r = 0 := by rw [hE, hb]; rfl
    rw [h0, tgL_good h0]
    exact pulsesTarget_good A A2 c c2 t r w ht hr lt lr hg.1 hg.2
  · have hb : tgB t r = false := by unfold tgB; simpa using hg
    have h0 : tgErr t r = 2 := by rw [hE, hb]; rfl
    rw [h0, tgL_bad (by rw [h0]; decide)]
    exact pulsesTarget_bad A A2 c c2 t r w ht hr lt lr hg wt wr'


end Go.Proofs.YthoiikkjjaldnaaDoor

/- The walks of the program's Fold and the reference's, and of the law SynthFolds. -/
namespace Go.Proofs.YthoiikkjjaldnaaDoor
set_option linter.unusedVariables false
set_option linter.unusedSimpArgs false
set_option maxRecDepth 100000
open Go.RowKit

def foB (r l : List Int) : Bool := all16 r && all16 l
def foErr (r l : List Int) : Int := if r.length = l.length ∧ l.length ≤ 80 then errOf (foB r l) else 1
def foT (r l : List Int) (n i : Nat) : Int := r.getD i 0 * l.getD (n - i) 0
def foE (r l : List Int) (n : Nat) : Int := s16 ((2048 + sumN (foT r l n) (n + 1)) / 4096)
def foL (r l : List Int) : List Int := if foErr r l = 0 then (List.range l.length).map (foE r l) else []
theorem foErr_len {r l : List Int} (h : ¬ (r.length = l.length ∧ l.length ≤ 80)) : foErr r l = 1 := by unfold foErr; rw [if_neg h]
theorem foErr_all {r l : List Int} (h1 : r.length = l.length) (h2 : l.length ≤ 80) : foErr r l = errOf (foB r l) := by unfold foErr; rw [if_pos ⟨h1, h2⟩]
theorem foL_bad {r l : List Int} (h : foErr r l ≠ 0) : foL r l = [] := by unfold foL; rw [if_neg h]
theorem foL_good {r l : List Int} (h : foErr r l = 0) : foL r l = (List.range l.length).map (foE r l) := by unfold foL; rw [if_pos h]
set_option maxHeartbeats 4000000 in
theorem synthFold_any (A A2 : Option Addr) (c c2 n1 n2 : Nat) (r l : List Int) (w : World) (hr : Rs w w.heap.size A r) (hl : Rs w w.heap.size A2 l) (lr : r.length = n1) (ll : l.length = n2) (wr' : W64 r) (wl : W64 l) :
    Calls Tryd.prog 52 #[.slice A n1 c, .slice A2 n2 c2] w (NewSE w (foL r l) (foErr r l)) := by
  by_cases hn1 : n1 = n2
  rotate_left
  · have FIN := hid (fun w' (hB : Below w.heap.size w w') => show NewSE w (foL r l) (foErr r l) (.returned (.tuple #[.slice none 0 0, .int .i64 1])) w' from by rw [foL_bad (by rw [foErr_len (by omega)]; decide), foErr_len (by omega)]; exact NewSE.none_ hB)
    have d0 : ((n1 : Int) != n2) = true := by simp; omega
    have d1 : ¬ (n1 : Int) = n2 := by omega
    clear hn1 hr hl lr ll wr' wl
    go_enter Tryd.func52, Tryd.ntmps52
    go_wp2
    go_ret2
    exact FIN.out _ (Below.refl _ _)
  subst hn1
  by_cases hn2 : 80 < n1
  · have FIN := hid (fun w' (hB : Below w.heap.size w w') => show NewSE w (foL r l) (foErr r l) (.returned (.tuple #[.slice none 0 0, .int .i64 1])) w' from by rw [foL_bad (by rw [foErr_len (by omega)]; decide), foErr_len (by omega)]; exact NewSE.none_ hB)
    have d1 : (80 : Int) < n1 := by omega
    clear hn2 hr hl lr ll wr' wl
    go_enter Tryd.func52, Tryd.ntmps52
    go_wp2
    go_ret2
    exact FIN.out _ (Below.refl _ _)
  have hN : n1 ≤ 80 := by omega
  have hE := foErr_all (r := r) (l := l) (by omega) (by omega)
  have FBAD := hid (fun w' (hb : foB r l = false) (hB : Below w.heap.size w w') => show NewSE w (foL r l) (foErr r l) (.returned (.tuple #[.slice none 0 0, .int .i64 2])) w' from by rw [foL_bad (by rw [hE, hb]; decide), hE, hb]; exact NewSE.none_ hB)
  have FGOOD := hid (fun w' A3 c3 (hb : foB r l = true) (hO : Own w' w.heap.size A3 c3 ((List.range n1).map (foE r l))) (hB : Below w.heap.size w w') => show NewSE w (foL r l) (foErr r l) (.returned (.tuple #[.slice A3 n1 c3, .int .i64 0])) w' from ⟨A3, c3, by rw [foL_good (by rw [hE, hb]; rfl), hE, hb, ll]; simp; rfl, by rw [foL_good (by rw [hE, hb]; rfl), ll]; exact hO, hB⟩)
  have HR := hid hr
  have HL := hid hl
  have LR := hid lr
  have LL := hid ll
  have WR := hid wr'
  have WL := hid wl
  have d2 : ¬ (80 : Int) < n1 := by omega
  clear hE hn2 hr hl lr ll wr' wl
  go_enter Tryd.func52, Tryd.ntmps52
  go_wp2
  go_loopw [6, 22] (fun ov iv wr => ∃ (n : Nat) (Ao : Option Addr) (co : Nat), n ≤ n1 ∧ iv = .int .i64 n ∧ ov = .slice Ao n co ∧ Hid (allTo ok16 r n ∧ allTo ok16 l n) ∧ Hid (Own wr w.heap.size Ao co ((List.range n).map (foE r l))) ∧ Hid (Below w.heap.size w wr)) (fun _ iv _ => n1 - (intOf iv).toNat)
  case atStart => exact ⟨0, none, 0, by omega, rfl, rfl, hid ⟨allTo.zero, allTo.zero⟩, hid Own.nil, hid (Below.refl _ _)⟩
  case round =>
    obtain ⟨n, Ao, co, hn, rfl, rfl, HA, HO, HB⟩ := hrel
    obtain ⟨wo, rfl⟩ : ∃ wo : World, wo = wr := ⟨_, rfl⟩
    by_cases hlt : n < n1
    · go_wp2
      go_loopw [8, 9] (fun av iv wr => ∃ (k : Nat) (s : Int), k ≤ n + 1 ∧ iv = .int .i64 k ∧ av = .int .i64 s ∧ Hid (s = 2048 + sumN (foT r l n) k) ∧ Hid (∀ i, i < k → ok16 (r.getD i 0) = true ∧ ok16 (l.getD (n - i) 0) = true) ∧ (-1073741824 * (k : Int) ≤ s - 2048 ∧ s - 2048 ≤ 1073741824 * (k : Int)) ∧ Hid (Own wr w.heap.size Ao co ((List.range n).map (foE r l))) ∧ Hid (Below w.heap.size w wr)) (fun _ iv _ => n + 1 - (intOf iv).toNat)
      case atStart => exact ⟨0, 2048, by omega, rfl, rfl, hid rfl, hid (fun i h => by omega), by omega, HO, HB⟩
      case round =>
        clear HO HB
        obtain ⟨k, s, hk, rfl, rfl, HS, HK, ⟨sb1, sb2⟩, HO, HB⟩ := hrel
        by_cases hlk : k < n + 1
        · obtain ⟨ad, rfl, hadb, c0⟩ := (HR.out.below HB.out).at_ (k := k) (by rw [LR.out]; omega)
          obtain ⟨ae, rfl, haeb, c1⟩ := (HL.out.below HB.out).at_ (k := n - k) (by rw [LL.out]; omega)
          have x64 := WR.out.at_ k
          have y64 := WL.out.at_ (n - k)
          have ST := hid (show 2048 + sumN (foT r l n) (k + 1) = s + r.getD k 0 * l.getD (n - k) 0 by rw [HS.out]; simp only [sumN]; unfold foT; omega)
          have HK2 := hid (fun (h1 : ok16 (r.getD k 0) = true) (h2 : ok16 (l.getD (n - k) 0) = true) => show ∀ i, i < k + 1 → ok16 (r.getD i 0) = true ∧ ok16 (l.getD (n - i) 0) = true from fun i hi => by
            by_cases e : i = k
            · subst e; exact ⟨h1, h2⟩
            · exact HK.out i (by omega))
          have BX := hid (fun (h : ok16 (r.getD k 0) = false) => show foB r l = false by unfold foB; rw [show all16 r = false from all_no (i := k) (by rw [LR.out]; omega) h]; rfl)
          have BY := hid (fun (h : ok16 (l.getD (n - k) 0) = false) => show foB r l = false by unfold foB; rw [show all16 l = false from all_no (i := n - k) (by rw [LL.out]; omega) h]; simp)
          generalize r.getD k 0 = x at *
          generalize l.getD (n - k) 0 = y at *
          obtain ⟨m, hm⟩ : ∃ m, m = n - k := ⟨_, rfl⟩
          rw [← hm] at c1
          have hw0 : IntKind.i64.wrap ((n : Int) - (k : Nat)) = (m : Nat) := by rw [IntKind.wrap_i64]; omega
          have i1 : (m : Int) < n1 := by omega
          have i2 : (0 : Int) ≤ m := by omega
          have i3 : (k : Int) < n1 := by omega
          have i4 : (0 : Int) ≤ k := by omega
          have i5 : (k : Int) ≤ n := by omega
          have KX : Hid (∀ W, Calls Tryd.prog 78 #[.int .i64 x] W fun e w' => e = .returned (.int .i64 (s16 x)) ∧ w' = W) := hid (fun W => (synthsat_any x W).mono fun _ _ h => ⟨h.1, h.2.symm⟩)
          have KY : Hid (∀ W, Calls Tryd.prog 78 #[.int .i64 y] W fun e w' => e = .returned (.int .i64 (s16 y)) ∧ w' = W) := hid (fun W => (synthsat_any y W).mono fun _ _ h => ⟨h.1, h.2.symm⟩)
          have HM := hid hm
          clear hm
          by_cases hx : x < -32768 ∨ 32767 < x
          · have e1 : (x == s16 x) = false := by rw [beq_eq_false_iff_ne]; exact fun h => s16_ne hx h.symm
            have e2 : (x != s16 x) = true := by rw [bne_iff_ne]; exact fun h => s16_ne hx h.symm
            have FB := hid (BX.out (ok16_no hx))
            clear hx x64 y64
            go_wp2
            go_quiet ((go_at_call 78; first | (with_reducible exact Calls.quiet_of_same (KX.out _)) | (with_reducible exact Calls.quiet_of_same (KY.out _))))
            clear hw0
            go_wp2
            go_ret2
            exact FBAD.out _ FB.out (HB.out.trans ((below_drN _ _).mono HB.out.size))
          by_cases hy : y < -32768 ∨ 32767 < y
          · have e1 : (y == s16 y) = false := by rw [beq_eq_false_iff_ne]; exact fun h => s16_ne hy h.symm
            have e2 : (y != s16 y) = true := by rw [bne_iff_ne]; exact fun h => s16_ne hy h.symm
            have FB := hid (BY.out (ok16_no hy))
            have e3 := s16_id (x := x) (by omega) (by omega)
            rw [e3] at KX
            clear hx hy x64 y64 e3
            go_wp2
            go_quiet ((go_at_call 78; first | (with_reducible exact Calls.quiet_of_same (KX.out _)) | (with_reducible exact Calls.quiet_of_same (KY.out _))))
            clear hw0
            go_wp2
            go_ret2
            exact FBAD.out _ FB.out (HB.out.trans ((below_drN _ _).mono HB.out.size))
          have e3 := s16_id (x := x) (by omega) (by omega)
          have e4 := s16_id (x := y) (by omega) (by omega)
          rw [e3] at KX
          rw [e4] at KY
          have HK3 := hid (HK2.out (ok16_yes (by omega) (by omega)) (ok16_yes (by omega) (by omega)))
          obtain ⟨p1, p2⟩ := prod16 (x := x) (y := y) (by omega) (by omega) (by omega) (by omega)
          have hw2 : IntKind.i64.wrap (x * y) = x * y := by rw [IntKind.wrap_i64]; omega
          have hw3 : IntKind.i64.wrap (s + x * y) = s + x * y := by rw [IntKind.wrap_i64]; omega
          have sb3 : -1073741824 * ((k + 1 : Nat) : Int) ≤ s + x * y - 2048 ∧ s + x * y - 2048 ≤ 1073741824 * ((k + 1 : Nat) : Int) := by push_cast; omega
          have SB3 := hid sb3
          clear hx hy x64 y64 e3 e4 sb3 sb1 sb2
          go_wp2
          go_quiet ((go_at_call 78; first | (with_reducible exact Calls.quiet_of_same (KX.out _)) | (with_reducible exact Calls.quiet_of_same (KY.out _))))
          go_wp2
          go_quiet (fail)
          clear hw0 hw2 hw3
          go_wp2
          go_roundw
          case rel => exact ⟨k + 1, _, by omega, by go_num, rfl, hid ST.out.symm, HK3, SB3.out, hid (HO.out.drewN _), hid (HB.out.trans ((below_drN _ _).mono HB.out.size))⟩
          case measure => simp [intOf] <;> omega
        · obtain rfl : k = n + 1 := by omega
          have HN := hid (show allTo ok16 r (n + 1) ∧ allTo ok16 l (n + 1) from ⟨fun j hj => (HK.out j hj).1, fun j hj => by have := (HK.out (n - j) (by omega)).2; rwa [show n - (n - j) = j by omega] at this⟩)
          have HV := hid (show foE r l n = s16 (s / 4096) by unfold foE; rw [HS.out])
          have KS := hid (fun W => synthsat_any (s / 4096) W)
          obtain ⟨v, hv⟩ : ∃ v, v = s16 (s / 4096) := ⟨_, rfl⟩
          rw [← hv] at KS HV
          clear hv sb1 sb2 hlk
          go_wp2_with (first
            | (go_at_call 78; (with_reducible refine (KS.out _).mono ?_); rintro e w' ⟨rfl, rfl⟩)
            | (at_builtin; refine wpList_pushN rfl (.tmp 69) (.tmp 73) rfl w.heap.size Ao co n ((List.range n).map (foE r l)) rfl (by simp) (HO.out.alloc _) ⟨wr.heap.size, 0, none⟩ v rfl (cell_new wr _ _) (by omega) (Nat.le_trans HB.out.size (by simp)) ?_; intro A5 c5 w5 hO hG hA; have O5 := hid hO; have G5 := hid hG; clear hO hG hA))
          have N1 := hid (show Own w5 w.heap.size A5 c5 ((List.range (n + 1)).map (foE r l)) by rw [← snoc_range, HV.out]; exact O5.out)
          have N4 := hid (below_grown (HB.out.alloc HB.out.size _) (HO.out.alloc _) G5.out (Nat.le_trans HB.out.size (by simp)))
          go_wp2
          go_roundw
          case rel => exact ⟨n + 1, A5, c5, by omega, by go_num, rfl, HN, N1, N4⟩
          case measure => simp [intOf] <;> omega
    · obtain rfl : n = n1 := by omega
      have FG := hid (FGOOD.out wo Ao co (by unfold foB; rw [show all16 r = true from HA.out.1.all (by rw [LR.out]; exact Nat.le_refl _), show all16 l = true from HA.out.2.all (by rw [LL.out]; exact Nat.le_refl _)]; rfl) HO.out HB.out)
      go_wp2
      go_ret2
      exact FG.out

/-! The reference's way: every sample's ring is added. -/
end Go.Proofs.YthoiikkjjaldnaaDoor
