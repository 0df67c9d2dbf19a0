/- The walks of the program's Fold and the reference's, and of the law SynthFolds. -/
import Derived.Test.YtcfmipobgljbeaaTargW
import Derived.Test.YtcfmipobgljbeaaDownK
namespace Go.Proofs.Ytcfmipobgljbeaa
set_option linter.unusedVariables false
set_option linter.unusedSimpArgs false
set_option maxRecDepth 100000
open Go.RowKit

def foB (r l : List Int) : Bool := all16 r && all16 l
def foErr (r l : List Int) : Int := if r.length = l.length ∧ l.length ≤ 80 then errOf (foB r l) else 1
def foT (r l : List Int) (n i : Nat) : Int := r.getD i 0 * l.getD (n - i) 0
def foE (r l : List Int) (n : Nat) : Int := s16 ((2048 + sumN (foT r l n) (n + 1)) / 4096)
def foL (r l : List Int) : List Int := if foErr r l = 0 then (List.range l.length).map (foE r l) else []
theorem foErr_len {r l : List Int} (h : ¬ (r.length = l.length ∧ l.length ≤ 80)) : foErr r l = 1 := by unfold foErr; rw [if_neg h]
theorem foErr_all {r l : List Int} (h1 : r.length = l.length) (h2 : l.length ≤ 80) : foErr r l = errOf (foB r l) := by unfold foErr; rw [if_pos ⟨h1, h2⟩]
theorem foL_bad {r l : List Int} (h : foErr r l ≠ 0) : foL r l = [] := by unfold foL; rw [if_neg h]
theorem foL_good {r l : List Int} (h : foErr r l = 0) : foL r l = (List.range l.length).map (foE r l) := by unfold foL; rw [if_pos h]
theorem foL_le (r l : List Int) : (foL r l).length ≤ 80 := by
  unfold foL
  split
  · rename_i h
    unfold foErr at h
    split at h
    · rename_i h2; simp; exact h2.2
    · omega
  · simp


/-! The reference's way: every sample's ring is added. -/
def fdT (r l : List Int) (j i : Nat) : Int := if i ≤ j then l.getD i 0 * r.getD (j - i) 0 else 0
def fdS (r l : List Int) (j i : Nat) : Int := sumN (fdT r l j) i
def fdN (r l : List Int) (n i k : Nat) : List Int := (List.range n).map (fun j => fdS r l j i + if i ≤ j ∧ j < i + k then l.getD i 0 * r.getD (j - i) 0 else 0)
theorem fdN_len (r l : List Int) (n i k : Nat) : (fdN r l n i k).length = n := by simp [fdN]
theorem fdN_at (r l : List Int) {n i k : Nat} (h : i + k < n) : (fdN r l n i k).getD (i + k) 0 = fdS r l (i + k) i := by
  unfold fdN
  rw [range_get _ h, if_neg (by omega)]
  omega
theorem fdN_set (r l : List Int) {n i k : Nat} (h : i + k < n) : (fdN r l n i k).set (i + k) (fdS r l (i + k) i + l.getD i 0 * r.getD k 0) = fdN r l n i (k + 1) := by
  refine list_ext (by simp [fdN_len]) fun j hj => ?_
  rw [List.length_set, fdN_len] at hj
  by_cases e : i + k = j
  · subst e
    rw [get_set_same _ _ _ (by rw [fdN_len]; exact hj)]
    unfold fdN
    rw [range_get _ hj, if_pos (by omega), show i + k - i = k by omega]
  · rw [get_set_other _ _ e]
    unfold fdN
    rw [range_get _ hj, range_get _ hj]
    by_cases h2 : i ≤ j ∧ j < i + k
    · rw [if_pos h2, if_pos (by omega)]
    · rw [if_neg h2, if_neg (by omega)]
theorem fdN_past (r l : List Int) {n i k : Nat} (h : n ≤ i + k) : fdN r l n i (k + 1) = fdN r l n i k := by
  refine list_ext (by simp [fdN_len]) fun j hj => ?_
  rw [fdN_len] at hj
  unfold fdN
  rw [range_get _ hj, range_get _ hj]
  by_cases h2 : i ≤ j ∧ j < i + k
  · rw [if_pos h2, if_pos (by omega)]
  · rw [if_neg h2, if_neg (by omega)]
theorem fdN_next (r l : List Int) (n i : Nat) : fdN r l n i n = fdN r l n (i + 1) 0 := by
  refine list_ext (by simp [fdN_len]) fun j hj => ?_
  rw [fdN_len] at hj
  unfold fdN
  rw [range_get _ hj, range_get _ hj, if_neg (show ¬ (i + 1 ≤ j ∧ j < i + 1 + 0) by omega)]
  unfold fdS
  simp only [sumN]
  unfold fdT
  by_cases h : i ≤ j
  · rw [if_pos (by omega), if_pos h]; omega
  · rw [if_neg (by omega), if_neg h]; simp
theorem fdN_zero (r l : List Int) (n : Nat) : fdN r l n 0 0 = List.replicate n 0 := by
  refine list_ext (by simp [fdN_len]) fun j hj => ?_
  rw [fdN_len] at hj
  rw [repl_get]
  unfold fdN
  rw [range_get _ hj, if_neg (by omega)]
  rfl
theorem fdS_range {r l : List Int} (hr : In16 r) (hl : In16 l) (j i : Nat) : -(1073741824 * (i : Int)) ≤ fdS r l j i ∧ fdS r l j i ≤ 1073741824 * (i : Int) := by
  unfold fdS
  induction i with
  | zero => simp [sumN]
  | succ i ih =>
    simp only [sumN]
    have hp := prod16 (hl i).1 (hl i).2 (hr (j - i)).1 (hr (j - i)).2
    have ht : -1073741824 ≤ fdT r l j i ∧ fdT r l j i ≤ 1073741824 := by unfold fdT; split <;> omega
    push_cast
    omega
/-- Both ways are one. -/
theorem fdS_eq (r l : List Int) {n j : Nat} (h : j < n) : fdS r l j n = sumN (foT r l j) (j + 1) := by
  unfold fdS
  obtain ⟨d, rfl⟩ : ∃ d, n = (j + 1) + d := ⟨n - (j + 1), by omega⟩
  rw [sumN_split]
  have h0 : sumN (fun i => fdT r l j (j + 1 + i)) d = 0 := by
    rw [sumN_congr d (g := fun _ => 0) (fun i _ => by unfold fdT; rw [if_neg (by omega)])]
    exact sumN_zero d
  rw [h0, Int.add_zero, sumN_rev]
  refine sumN_congr (j + 1) fun i hi => ?_
  show fdT r l j (j + 1 - 1 - i) = foT r l j i
  unfold fdT foT
  rw [if_pos (by omega), show j + 1 - 1 - i = j - i by omega, show j - (j - i) = i by omega, Int.mul_comm]
def fdM (r l : List Int) (n m : Nat) : List Int := (List.range n).map (fun j => if j < m then foE r l j else fdS r l j n)
theorem fdM_len (r l : List Int) (n m : Nat) : (fdM r l n m).length = n := by simp [fdM]
theorem fdM_zero (r l : List Int) (n : Nat) : fdN r l n n 0 = fdM r l n 0 := by
  refine list_ext (by simp [fdN_len, fdM_len]) fun j hj => ?_
  rw [fdN_len] at hj
  unfold fdN fdM
  rw [range_get _ hj, range_get _ hj, if_neg (by omega), if_neg (by omega)]
  omega
theorem fdM_at (r l : List Int) {n m : Nat} (h : m < n) : (fdM r l n m).getD m 0 = fdS r l m n := by
  unfold fdM; rw [range_get _ h, if_neg (by omega)]
theorem fdM_set (r l : List Int) {n m : Nat} (h : m < n) : (fdM r l n m).set m (s16 ((fdS r l m n + 2048) / 4096)) = fdM r l n (m + 1) := by
  refine list_ext (by simp [fdM_len]) fun j hj => ?_
  rw [List.length_set, fdM_len] at hj
  by_cases e : m = j
  · subst e
    rw [get_set_same _ _ _ (by rw [fdM_len]; exact hj)]
    unfold fdM
    rw [range_get _ hj, if_pos (by omega)]
    unfold foE
    rw [fdS_eq r l hj, Int.add_comm]
  · rw [get_set_other _ _ e]
    unfold fdM
    rw [range_get _ hj, range_get _ hj]
    by_cases h2 : j < m
    · rw [if_pos h2, if_pos (by omega)]
    · rw [if_neg h2, if_neg (by omega)]
theorem fdM_end (r l : List Int) (n : Nat) : fdM r l n n = (List.range n).map (foE r l) := by
  refine list_ext (by simp [fdM_len]) fun j hj => ?_
  rw [fdM_len] at hj
  unfold fdM
  rw [range_get _ hj, range_get _ hj, if_pos hj]

set_option maxHeartbeats 4000000 in
theorem refFold_any (A A2 : Option Addr) (c c2 n1 n2 : Nat) (r l : List Int) (w : World) (hr : Rs w w.heap.size A r) (hl : Rs w w.heap.size A2 l) (lr : r.length = n1) (ll : l.length = n2) (l1 : n1 ≤ 17592186044416) (l2 : n2 ≤ 17592186044416) :
    Calls Try.prog 46 #[.slice A n1 c, .slice A2 n2 c2] w (NewSE w (foL r l) (foErr r l)) := by
  by_cases hn1 : n1 = n2
  rotate_left
  · have FIN := hid (fun w' (hB : Below w.heap.size w w') => show NewSE w (foL r l) (foErr r l) (.returned (.tuple #[.slice none 0 0, .int .i64 1])) w' from by rw [foL_bad (by rw [foErr_len (by omega)]; decide), foErr_len (by omega)]; exact NewSE.none_ hB)
    have d0 : ((n1 : Int) != n2) = true := by simp; omega
    have d1 : ¬ (n1 : Int) = n2 := by omega
    clear hn1 hr hl lr ll
    go_enter Try.func46, Try.ntmps46
    go_wp2
    go_ret2
    exact FIN.out _ (Below.refl _ _)
  subst hn1
  by_cases hn2 : 80 < n1
  · have FIN := hid (fun w' (hB : Below w.heap.size w w') => show NewSE w (foL r l) (foErr r l) (.returned (.tuple #[.slice none 0 0, .int .i64 1])) w' from by rw [foL_bad (by rw [foErr_len (by omega)]; decide), foErr_len (by omega)]; exact NewSE.none_ hB)
    have d1 : (80 : Int) < n1 := by omega
    clear hn2 hr hl lr ll
    go_enter Try.func46, Try.ntmps46
    go_wp2
    go_ret2
    exact FIN.out _ (Below.refl _ _)
  have hN : n1 ≤ 80 := by omega
  have hE := foErr_all (r := r) (l := l) (by omega) (by omega)
  have FBAD := hid (fun w' (hb : foB r l = false) (hB : Below w.heap.size w w') => show NewSE w (foL r l) (foErr r l) (.returned (.tuple #[.slice none 0 0, .int .i64 2])) w' from by rw [foL_bad (by rw [hE, hb]; decide), hE, hb]; exact NewSE.none_ hB)
  have FGOOD := hid (fun w' A3 c3 (hb : foB r l = true) (hO : Own w' w.heap.size A3 c3 ((List.range n1).map (foE r l))) (hB : Below w.heap.size w w') => show NewSE w (foL r l) (foErr r l) (.returned (.tuple #[.slice A3 n1 c3, .int .i64 0])) w' from ⟨A3, c3, by rw [foL_good (by rw [hE, hb]; rfl), hE, hb, ll]; simp; rfl, by rw [foL_good (by rw [hE, hb]; rfl), ll]; exact hO, hB⟩)
  have HR := hid hr
  have HL := hid hl
  have LR := hid lr
  have LL := hid ll
  have d2 : ¬ (80 : Int) < n1 := by omega
  have K1 := hid (Right_any A c n1 w.heap.size r w hr lr l1)
  have K2 := hid (Right_any A2 c2 n1 w.heap.size l w hl ll l2)
  clear hE hn2 hr hl lr ll
  by_cases gr : all16 r = true
  rotate_left
  · have FB := hid (FBAD.out w (by unfold foB; simp [gr]) (Below.refl _ _))
    have gf : all16 r = false := by simpa using gr
    rw [gf] at K1
    clear gr gf
    go_enter Try.func46, Try.ntmps46
    go_wp2_with fail
    refine K1.out.mono ?_
    rintro e w1 ⟨rfl, rfl⟩
    go_wp2
    go_ret2
    exact FB.out
  by_cases gl : all16 l = true
  rotate_left
  · have FB := hid (FBAD.out w (by unfold foB; simp [gl]) (Below.refl _ _))
    have gf : all16 l = false := by simpa using gl
    rw [gr] at K1
    rw [gf] at K2
    clear gr gl gf
    go_enter Try.func46, Try.ntmps46
    go_wp2_with fail
    refine K1.out.mono ?_
    rintro e w1 ⟨rfl, rfl⟩
    go_wp2_with fail
    refine K2.out.mono ?_
    rintro e w1 ⟨rfl, rfl⟩
    go_wp2
    go_ret2
    exact FB.out
  have hb : foB r l = true := by unfold foB; rw [gr, gl]; rfl
  have HBB := hid hb
  have GR := hid (all16_in gr)
  have GL := hid (all16_in gl)
  rw [gr] at K1
  rw [gl] at K2
  clear hb gr gl FBAD
  go_enter Try.func46, Try.ntmps46
  go_wp2_with fail
  refine K1.out.mono ?_
  rintro e w1 ⟨rfl, rfl⟩
  go_wp2_with fail
  refine K2.out.mono ?_
  rintro e w1 ⟨rfl, rfl⟩
  go_wp2_with (at_make; refine wpList_makeI rfl _ _ rfl .i64 .i64 n1 rfl rfl w.heap.size (by omega) (Nat.le_refl _) ?_; intro w1 hO hG; have O1 := hid (show Own w1 w.heap.size (some ⟨w.heap.size, 0, none⟩) n1 (fdN r l n1 0 0) by rw [fdN_zero]; exact hO); have B1 := hid ((Below.refl w.heap.size w).grown hG (Nat.le_refl _) (by simp)); clear hO hG)
  go_loopw [35] (fun iv wr => ∃ i : Nat, i ≤ n1 ∧ iv = .int .i64 i ∧ Hid (Own wr w.heap.size (some ⟨w.heap.size, 0, none⟩) n1 (fdN r l n1 i 0)) ∧ Hid (Below w.heap.size w wr)) (fun iv _ => n1 - (intOf iv).toNat)
  case atStart => exact ⟨0, by omega, rfl, O1, B1⟩
  case round =>
    clear O1 B1
    obtain ⟨i, hi, rfl, HO, HB⟩ := hrel
    obtain ⟨wo, rfl⟩ : ∃ wo : World, wo = wr := ⟨_, rfl⟩
    by_cases hlt : i < n1
    · obtain ⟨al, rfl, halb, cl⟩ := (HL.out.below HB.out).at_ (k := i) (by rw [LL.out]; exact hlt)
      obtain ⟨x, hx⟩ : ∃ x, x = l.getD i 0 := ⟨_, rfl⟩
      rw [← hx] at cl
      have x16 := GL.out i
      rw [← hx] at x16
      have HX := hid hx
      clear hx
      go_wp2
      go_loopw [42] (fun iv wr => ∃ k : Nat, k ≤ n1 ∧ iv = .int .i64 k ∧ Hid (Own wr w.heap.size (some ⟨w.heap.size, 0, none⟩) n1 (fdN r l n1 i k)) ∧ Hid (Below w.heap.size w wr)) (fun iv _ => n1 - (intOf iv).toNat)
      case atStart => exact ⟨0, by omega, rfl, HO, HB⟩
      case round =>
        clear HO HB cl
        obtain ⟨k, hk, rfl, HO, HB⟩ := hrel
        by_cases hlk : k < n1
        · obtain ⟨ad, rfl, hadb, c0⟩ := (HR.out.below HB.out).at_ (k := k) (by rw [LR.out]; exact hlk)
          have y16 := GR.out k
          obtain ⟨p1, p2⟩ := prod16 x16.1 x16.2 y16.1 y16.2
          by_cases hin : i + k < n1
          · have co := HO.out.cell (i + k) (by rw [fdN_len]; exact hin)
            rw [fdN_at r l hin] at co
            have fo := HO.out.frozen (i + k)
            have sr := fdS_range GR.out GL.out (i + k) i
            have HSet := hid (fdN_set r l hin)
            rw [← HX.out] at HSet
            generalize r.getD k 0 = y at *
            generalize fdS r l (i + k) i = s at *
            have s1 : -1073741824000 ≤ s := by omega
            have s2 : s ≤ 1073741824000 := by omega
            obtain ⟨j, hj⟩ : ∃ j, j = i + k := ⟨_, rfl⟩
            rw [← hj] at co fo HSet hin
            have hsum : (i : Int) + (k : Nat) = (j : Nat) := by omega
            have hltI : (j : Int) < n1 := by omega
            have hj0 : (0 : Int) ≤ j := by omega
            have NO := hid (show Own (wr.setCell ⟨w.heap.size, j, none⟩ (.int .i64 (s + x * y))) w.heap.size (some ⟨w.heap.size, 0, none⟩) n1 (fdN r l n1 i (k + 1)) from by rw [← HSet.out]; exact HO.out.set_ j (by rw [fdN_len]; exact hin) (s + x * y))
            have NB := hid (HB.out.setCell (p := ⟨w.heap.size, j, none⟩) (Nat.le_refl _) (.int .i64 (s + x * y)))
            have HJ := hid hj
            clear sr hj
            go_wp2
            go_roundw
            case rel => exact ⟨k + 1, by omega, by go_num, NO, NB⟩
            case measure => simp [intOf] <;> omega
          · have hltI : ¬ (i : Int) + (k : Nat) < n1 := by omega
            have NO := hid (show Own wr w.heap.size (some ⟨w.heap.size, 0, none⟩) n1 (fdN r l n1 i (k + 1)) from by rw [fdN_past r l (by omega)]; exact HO.out)
            generalize r.getD k 0 = y at *
            clear hin
            go_wp2
            go_roundw
            case rel => exact ⟨k + 1, by omega, by go_num, NO, HB⟩
            case measure => simp [intOf] <;> omega
        · obtain rfl : k = n1 := by omega
          have NO := hid (show Own wr w.heap.size (some ⟨w.heap.size, 0, none⟩) k (fdN r l k (i + 1) 0) by rw [← fdN_next]; exact HO.out)
          go_wp2
          go_roundw
          case rel => exact ⟨i + 1, by omega, by go_num, NO, HB⟩
          case measure => simp [intOf] <;> omega
    · obtain rfl : i = n1 := by omega
      have O2 := hid (show Own wo w.heap.size (some ⟨w.heap.size, 0, none⟩) i (fdM r l i 0) by rw [← fdM_zero]; exact HO.out)
      clear HO hlt
      go_wp2
      go_loopw [68] (fun iv wr => ∃ m : Nat, m ≤ i ∧ iv = .int .i64 m ∧ Hid (Own wr w.heap.size (some ⟨w.heap.size, 0, none⟩) i (fdM r l i m)) ∧ Hid (Below w.heap.size w wr)) (fun iv _ => i - (intOf iv).toNat)
      case atStart => exact ⟨0, by omega, rfl, O2, HB⟩
      case round =>
        clear O2 HB
        obtain ⟨m, hm, rfl, HO, HB⟩ := hrel
        by_cases hlm : m < i
        · have co := HO.out.cell m (by rw [fdM_len]; exact hlm)
          rw [fdM_at r l hlm] at co
          have sr := fdS_range GR.out GL.out m i
          have HSet := hid (fdM_set r l hlm)
          generalize fdS r l m i = s at *
          have s1 : -1073741824000 ≤ s := by omega
          have s2 : s ≤ 1073741824000 := by omega
          clear sr
          go_wp2_with fail
          refine (down12 (s + 2048) wr (by omega) (by omega)).mono ?_
          rintro e w3 ⟨rfl, hB⟩
          have O3 := hid (HO.out.below hB)
          have B3 := hid (HB.out.trans (hB.mono HB.out.size))
          clear hB HO HB co
          go_wp2_with fail
          refine (S_any ((s + 2048) / 4096) w3 (by omega) (by omega)).mono ?_
          rintro e w4 ⟨rfl, hB⟩
          have O4 := hid (O3.out.below hB)
          have B4 := hid (B3.out.trans (hB.mono B3.out.size))
          clear hB
          have co := O4.out.cell m (by rw [fdM_len]; exact hlm)
          have fo := O4.out.frozen m
          have NO := hid (show Own (w4.setCell ⟨w.heap.size, m, none⟩ (.int .i64 (s16 ((s + 2048) / 4096)))) w.heap.size (some ⟨w.heap.size, 0, none⟩) i (fdM r l i (m + 1)) from by rw [← HSet.out]; exact O4.out.set_ m (by rw [fdM_len]; exact hlm) _)
          have NB := hid (B4.out.setCell (p := ⟨w.heap.size, m, none⟩) (Nat.le_refl _) (.int .i64 (s16 ((s + 2048) / 4096))))
          generalize s16 ((s + 2048) / 4096) = v at *
          go_wp2
          go_roundw
          case rel => exact ⟨m + 1, by omega, by go_num, NO, NB⟩
          case measure => simp [intOf] <;> omega
        · obtain rfl : m = i := by omega
          have FG := hid (FGOOD.out wr _ _ HBB.out (by rw [← fdM_end]; exact HO.out) HB.out)
          go_wp2
          go_ret2
          exact FG.out

theorem fo_one : foErr [4096] [5] = 0 := by decide
theorem fo_one_len : (foL [4096] [5]).length = 1 := by rw [foL_good fo_one]; rfl

end Go.Proofs.Ytcfmipobgljbeaa
