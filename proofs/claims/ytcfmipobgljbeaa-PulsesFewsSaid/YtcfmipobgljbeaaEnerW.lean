/- The walks of the reference's late and Energy, of the program's Energy, and of the law PulsesEnergies. -/
import Derived.Test.YtcfmipobgljbeaaDotR
import Derived.Test.YtcfmipobgljbeaaSliceW
import Derived.Test.YtcfmipobgljbeaaMakeI
import Derived.Test.YtcfmipobgljbeaaPastM
import Derived.BigQuiet
import Derived.Deep.QuietTactic
namespace Go.Proofs.Ytcfmipobgljbeaa
set_option linter.unusedVariables false
set_option linter.unusedSimpArgs false
set_option maxRecDepth 100000
open Go.RowKit

theorem repl_get (n k : Nat) : (List.replicate n (0 : Int)).getD k 0 = 0 := by
  rw [List.getD_eq_getElem?_getD, List.getElem?_replicate]
  split <;> rfl
def lateE (ring : List Int) (a i : Nat) : Int := if a ≤ i then s16 (ring.getD (i - a) 0) else 0
def lateL (ring : List Int) (a : Nat) : List Int := (List.range 40).map (lateE ring a)
def lateN (ring : List Int) (a k : Nat) : List Int := (List.range 40).map (fun j => if j < k then lateE ring a j else 0)
theorem lateL_len (ring : List Int) (a : Nat) : (lateL ring a).length = 40 := by simp [lateL]
theorem lateN_len (ring : List Int) (a k : Nat) : (lateN ring a k).length = 40 := by simp [lateN]
theorem lateE_range (ring : List Int) (a i : Nat) : -32768 ≤ lateE ring a i ∧ lateE ring a i ≤ 32767 := by
  unfold lateE
  split
  · exact s16_range _
  · omega
theorem lateL_in (ring : List Int) (a : Nat) : In16 (lateL ring a) := fun i => by
  by_cases h : i < 40
  · unfold lateL; rw [range_get _ h]; exact lateE_range ring a i
  · rw [List.getD_eq_getElem?_getD, List.getElem?_eq_none (by rw [lateL_len]; omega)]; simp
theorem lateN_end (ring : List Int) (a : Nat) : lateN ring a 40 = lateL ring a := by
  refine list_ext (by rw [lateN_len, lateL_len]) fun k hk => ?_
  rw [lateN_len] at hk
  unfold lateN lateL
  rw [range_get _ hk, range_get _ hk, if_pos hk]
theorem lateN_zero (ring : List Int) (a : Nat) : lateN ring a 0 = List.replicate 40 0 := by
  refine list_ext (by rw [lateN_len]; simp) fun k hk => ?_
  rw [lateN_len] at hk
  unfold lateN
  rw [range_get _ hk, if_neg (by omega), repl_get]
theorem lateN_low (ring : List Int) {a k : Nat} (h : k < a) : lateN ring a (k + 1) = lateN ring a k := by
  refine list_ext (by rw [lateN_len, lateN_len]) fun j hj => ?_
  rw [lateN_len] at hj
  unfold lateN
  rw [range_get _ hj, range_get _ hj]
  by_cases e : j = k
  · subst e; rw [if_pos (by omega), if_neg (by omega)]; unfold lateE; rw [if_neg (by omega)]
  · by_cases h2 : j < k
    · rw [if_pos h2, if_pos (by omega)]
    · rw [if_neg h2, if_neg (by omega)]
theorem lateN_set (ring : List Int) {a k : Nat} (h : a ≤ k) (hk : k < 40) : (lateN ring a k).set k (s16 (ring.getD (k - a) 0)) = lateN ring a (k + 1) := by
  refine list_ext (by simp [lateN_len]) fun j hj => ?_
  rw [List.length_set, lateN_len] at hj
  by_cases e : k = j
  · subst e
    rw [get_set_same _ _ _ (by rw [lateN_len]; exact hk)]
    unfold lateN
    rw [range_get _ hj, if_pos (by omega)]
    unfold lateE
    rw [if_pos h]
  · rw [get_set_other _ _ e]
    unfold lateN
    rw [range_get _ hj, range_get _ hj]
    by_cases h2 : j < k
    · rw [if_pos h2, if_pos (by omega)]
    · rw [if_neg h2, if_neg (by omega)]


def inH (a : Int) : Bool := decide (0 ≤ a ∧ a ≤ 39)
def enErr (n : Nat) (a b : Int) : Int := if n = 40 then (if inH a && inH b then 0 else 2) else 1
def enV (ring : List Int) (a b : Int) : Int := if enErr ring.length a b = 0 then dotL (lateL ring a.toNat) (lateL ring b.toNat) 40 else 0
def EnAns (ring : List Int) (a b : Int) (w : World) (e : Ending) (w' : World) : Prop := e = .returned (.tuple #[.int .i64 (enV ring a b), .int .i64 (enErr ring.length a b)]) ∧ Below w.heap.size w w'
theorem EnAns.bad {ring : List Int} {a b : Int} {w w' : World} {er : Int} (h : enErr ring.length a b = er) (h0 : er ≠ 0) (hB : Below w.heap.size w w') : EnAns ring a b w (.returned (.tuple #[.int .i64 0, .int .i64 er])) w' :=
  ⟨by unfold enV; rw [h, if_neg h0], hB⟩



/-- The terms of the program's sum. -/
def enT (ring : List Int) (a b i : Nat) : Int := lateE ring a i * lateE ring b i
theorem enT_sum (ring : List Int) (a b : Nat) : dotL (lateL ring a) (lateL ring b) 40 = sumN (enT ring a b) 40 :=
  sumN_congr 40 fun i hi => by unfold dterm lateL enT; rw [range_get _ hi, range_get _ hi]
theorem enT_low (ring : List Int) (a b : Nat) : ∀ k, k ≤ a ∨ k ≤ b → sumN (enT ring a b) k = 0
  | 0, _ => rfl
  | k + 1, h => by
    have h0 : lateE ring a k = 0 ∨ lateE ring b k = 0 := by
      rcases h with h | h
      · left; unfold lateE; rw [if_neg (by omega)]
      · right; unfold lateE; rw [if_neg (by omega)]
    have h1 := enT_low ring a b k (by omega)
    simp only [sumN]
    rw [h1]
    unfold enT
    rcases h0 with h0 | h0 <;> rw [h0] <;> simp
theorem enT_range (ring : List Int) (a b k : Nat) : -(1073741824 * (k : Int)) ≤ sumN (enT ring a b) k ∧ sumN (enT ring a b) k ≤ 1073741824 * (k : Int) := by
  induction k with
  | zero => simp [sumN]
  | succ k ih =>
    have h := prod16 (lateE_range ring a k).1 (lateE_range ring a k).2 (lateE_range ring b k).1 (lateE_range ring b k).2
    simp only [sumN]
    unfold enT at *
    push_cast
    omega

set_option maxHeartbeats 4000000 in
theorem pulsesEnergy_any (A : Option Addr) (c n : Nat) (ring : List Int) (a b : Int) (w : World) (hr : Rs w w.heap.size A ring) (hrn : ring.length = n) (hw : W64 ring) :
    Calls Try.prog 79 #[.slice A n c, .int .i64 a, .int .i64 b] w (EnAns ring a b w) := by
  by_cases hn : n = 40
  rotate_left
  · have FIN := hid (fun w' (hB : Below w.heap.size w w') => EnAns.bad (ring := ring) (a := a) (b := b) (er := 1) (by rw [hrn]; unfold enErr; rw [if_neg hn]) (by decide) hB)
    have d0 : ((n : Int) != 40) = true := by simp; omega
    have d00 : ¬ (n : Int) = 40 := by omega
    clear hn hrn hr hw
    go_enter Try.func79, Try.ntmps79
    go_wp2
    go_ret2
    exact FIN.out _ (Below.refl _ _)
  subst hn
  by_cases hab : inH a = true ∧ inH b = true
  rotate_left
  · have FIN := hid (fun w' (hB : Below w.heap.size w w') => EnAns.bad (ring := ring) (a := a) (b := b) (er := 2) (by rw [hrn]; unfold enErr; rw [if_pos rfl, if_neg (by simpa using hab)]) (by decide) hB)
    unfold inH at hab
    simp only [decide_eq_true_eq] at hab
    clear hrn hr hw
    by_cases a1 : a < 0
    · clear hab
      go_enter Try.func79, Try.ntmps79
      go_wp2
      go_ret2
      exact FIN.out _ (Below.refl _ _)
    by_cases a2 : 39 < a
    · have a3 : 40 ≤ a := by omega
      clear hab
      go_enter Try.func79, Try.ntmps79
      go_wp2
      go_ret2
      exact FIN.out _ (Below.refl _ _)
    have a3 : ¬ 40 ≤ a := by omega
    by_cases b1 : b < 0
    · clear hab
      go_enter Try.func79, Try.ntmps79
      go_wp2
      go_ret2
      exact FIN.out _ (Below.refl _ _)
    have b2 : 39 < b := by omega
    have b3 : 40 ≤ b := by omega
    clear hab
    go_enter Try.func79, Try.ntmps79
    go_wp2
    go_ret2
    exact FIN.out _ (Below.refl _ _)
  have HV := hid (show enErr ring.length a b = 0 by rw [hrn]; unfold enErr; rw [if_pos rfl, if_pos (by simpa using hab)])
  have HV2 := hid (show enV ring a b = dotL (lateL ring a.toNat) (lateL ring b.toNat) 40 by unfold enV; rw [if_pos HV.out])
  unfold inH at hab
  simp only [decide_eq_true_eq] at hab
  obtain ⟨⟨a1, a2⟩, b1, b2⟩ := hab
  obtain ⟨p, rfl⟩ := Int.eq_ofNat_of_zero_le a1
  obtain ⟨q, rfl⟩ := Int.eq_ofNat_of_zero_le b1
  rw [show ((p : Nat) : Int).toNat = p from rfl, show ((q : Nat) : Int).toNat = q from rfl] at HV2
  have HRN := hid hrn
  have HR := hid hr
  have HW := hid hw
  clear hr hrn hw
  have a3 : ¬ ((p : Nat) : Int) < 0 := by omega
  have a4 : ¬ 40 ≤ ((p : Nat) : Int) := by omega
  have b3 : ¬ ((q : Nat) : Int) < 0 := by omega
  have b4 : ¬ 40 ≤ ((q : Nat) : Int) := by omega
  by_cases hpq : (p : Int) < q
  · have H0 := hid (show (0 : Int) = sumN (enT ring p q) q from (enT_low ring p q q (.inr (Nat.le_refl _))).symm)
    go_enter Try.func79, Try.ntmps79
    go_wp2
    go_loopw [8, 9] (fun sv iv wr => ∃ (k : Nat) (s : Int), q ≤ k ∧ k ≤ 40 ∧ iv = .int .i64 k ∧ sv = .int .i64 s ∧ Hid (s = sumN (enT ring p q) k) ∧ Hid (Below w.heap.size w wr)) (fun _ iv _ => 40 - (intOf iv).toNat)
    case atStart => exact ⟨q, 0, Nat.le_refl _, by omega, rfl, rfl, H0, hid (Below.refl _ _)⟩
    case round =>
      obtain ⟨k, s, hk0, hk, rfl, rfl, HS, HB⟩ := hrel
      by_cases hlt : k < 40
      · have sb := enT_range ring p q k
        have ST := hid (show sumN (enT ring p q) (k + 1) = s + s16 (ring.getD (k - p) 0) * s16 (ring.getD (k - q) 0) by
          rw [HS.out]; simp only [sumN]; unfold enT lateE; rw [if_pos (by omega), if_pos (by omega)])
        have hs := HS.out
        rw [← hs] at sb
        have s1 : -1073741824000 ≤ s := by omega
        have s2 : s ≤ 1073741824000 := by omega
        clear hs sb
        obtain ⟨ad, rfl, hadb, c0⟩ := (HR.out.below HB.out).at_ (k := k - p) (by rw [HRN.out]; omega)
        obtain ⟨ad2, had2, _, c1⟩ := (HR.out.below HB.out).at_ (k := k - q) (by rw [HRN.out]; omega)
        injection had2 with had2
        subst had2
        generalize ring.getD (k - p) 0 = x at *
        generalize ring.getD (k - q) 0 = y at *
        obtain ⟨m, hm⟩ : ∃ m, m = k - p := ⟨_, rfl⟩
        obtain ⟨m2, hm2⟩ : ∃ m2, m2 = k - q := ⟨_, rfl⟩
        rw [← hm] at c0
        rw [← hm2] at c1
        have hw0 : IntKind.i64.wrap ((k : Int) - (p : Nat)) = (m : Nat) := by rw [IntKind.wrap_i64]; omega
        have hw1 : IntKind.i64.wrap ((k : Int) - (q : Nat)) = (m2 : Nat) := by rw [IntKind.wrap_i64]; omega
        have xr := s16_range x
        have yr := s16_range y
        have KX : Hid (∀ W, Calls Try.prog 106 #[.int .i64 x] W fun e w' => e = .returned (.int .i64 (s16 x)) ∧ w' = W) := hid (fun W => (pulsessat_any x W).mono fun _ _ h => ⟨h.1, h.2.symm⟩)
        have KY : Hid (∀ W, Calls Try.prog 106 #[.int .i64 y] W fun e w' => e = .returned (.int .i64 (s16 y)) ∧ w' = W) := hid (fun W => (pulsessat_any y W).mono fun _ _ h => ⟨h.1, h.2.symm⟩)
        generalize s16 x = x' at *
        generalize s16 y = y' at *
        obtain ⟨p1, p2⟩ := prod16 xr.1 xr.2 yr.1 yr.2
        have hw2 : IntKind.i64.wrap (x' * y') = x' * y' := by rw [IntKind.wrap_i64]; omega
        have hw3 : IntKind.i64.wrap (s + x' * y') = s + x' * y' := by rw [IntKind.wrap_i64]; omega
        have i1 : (m : Int) < 40 := by omega
        have i2 : (0 : Int) ≤ m := by omega
        have i3 : (m2 : Int) < 40 := by omega
        have i4 : (0 : Int) ≤ m2 := by omega
        have HM := hid hm
        have HM2 := hid hm2
        clear hm hm2 xr yr
        go_wp2
        go_quiet ((go_at_call 106; first | (with_reducible exact Calls.quiet_of_same (KX.out _)) | (with_reducible exact Calls.quiet_of_same (KY.out _))))
        clear hw0 hw1 hw2 hw3
        go_wp2
        go_roundw
        case rel => exact ⟨k + 1, _, by omega, by omega, by go_num, rfl, hid ST.out.symm, hid (HB.out.trans ((below_drN _ _).mono HB.out.size))⟩
        case measure => simp [intOf] <;> omega
      · obtain rfl : k = 40 := by omega
        go_wp2
        go_ret2
        exact ⟨by rw [HV.out, HV2.out, enT_sum, ← HS.out]; rfl, HB.out⟩
  · have H0 := hid (show (0 : Int) = sumN (enT ring p q) p from (enT_low ring p q p (.inl (Nat.le_refl _))).symm)
    have hpq2 : (q : Int) ≤ p := by omega
    go_enter Try.func79, Try.ntmps79
    go_wp2
    go_loopw [8, 9] (fun sv iv wr => ∃ (k : Nat) (s : Int), p ≤ k ∧ k ≤ 40 ∧ iv = .int .i64 k ∧ sv = .int .i64 s ∧ Hid (s = sumN (enT ring p q) k) ∧ Hid (Below w.heap.size w wr)) (fun _ iv _ => 40 - (intOf iv).toNat)
    case atStart => exact ⟨p, 0, Nat.le_refl _, by omega, rfl, rfl, H0, hid (Below.refl _ _)⟩
    case round =>
      obtain ⟨k, s, hk0, hk, rfl, rfl, HS, HB⟩ := hrel
      by_cases hlt : k < 40
      · have sb := enT_range ring p q k
        have ST := hid (show sumN (enT ring p q) (k + 1) = s + s16 (ring.getD (k - p) 0) * s16 (ring.getD (k - q) 0) by
          rw [HS.out]; simp only [sumN]; unfold enT lateE; rw [if_pos (by omega), if_pos (by omega)])
        have hs := HS.out
        rw [← hs] at sb
        have s1 : -1073741824000 ≤ s := by omega
        have s2 : s ≤ 1073741824000 := by omega
        clear hs sb
        obtain ⟨ad, rfl, hadb, c0⟩ := (HR.out.below HB.out).at_ (k := k - p) (by rw [HRN.out]; omega)
        obtain ⟨ad2, had2, _, c1⟩ := (HR.out.below HB.out).at_ (k := k - q) (by rw [HRN.out]; omega)
        injection had2 with had2
        subst had2
        generalize ring.getD (k - p) 0 = x at *
        generalize ring.getD (k - q) 0 = y at *
        obtain ⟨m, hm⟩ : ∃ m, m = k - p := ⟨_, rfl⟩
        obtain ⟨m2, hm2⟩ : ∃ m2, m2 = k - q := ⟨_, rfl⟩
        rw [← hm] at c0
        rw [← hm2] at c1
        have hw0 : IntKind.i64.wrap ((k : Int) - (p : Nat)) = (m : Nat) := by rw [IntKind.wrap_i64]; omega
        have hw1 : IntKind.i64.wrap ((k : Int) - (q : Nat)) = (m2 : Nat) := by rw [IntKind.wrap_i64]; omega
        have xr := s16_range x
        have yr := s16_range y
        have KX : Hid (∀ W, Calls Try.prog 106 #[.int .i64 x] W fun e w' => e = .returned (.int .i64 (s16 x)) ∧ w' = W) := hid (fun W => (pulsessat_any x W).mono fun _ _ h => ⟨h.1, h.2.symm⟩)
        have KY : Hid (∀ W, Calls Try.prog 106 #[.int .i64 y] W fun e w' => e = .returned (.int .i64 (s16 y)) ∧ w' = W) := hid (fun W => (pulsessat_any y W).mono fun _ _ h => ⟨h.1, h.2.symm⟩)
        generalize s16 x = x' at *
        generalize s16 y = y' at *
        obtain ⟨p1, p2⟩ := prod16 xr.1 xr.2 yr.1 yr.2
        have hw2 : IntKind.i64.wrap (x' * y') = x' * y' := by rw [IntKind.wrap_i64]; omega
        have hw3 : IntKind.i64.wrap (s + x' * y') = s + x' * y' := by rw [IntKind.wrap_i64]; omega
        have i1 : (m : Int) < 40 := by omega
        have i2 : (0 : Int) ≤ m := by omega
        have i3 : (m2 : Int) < 40 := by omega
        have i4 : (0 : Int) ≤ m2 := by omega
        have HM := hid hm
        have HM2 := hid hm2
        clear hm hm2 xr yr
        go_wp2
        go_quiet ((go_at_call 106; first | (with_reducible exact Calls.quiet_of_same (KX.out _)) | (with_reducible exact Calls.quiet_of_same (KY.out _))))
        clear hw0 hw1 hw2 hw3
        go_wp2
        go_roundw
        case rel => exact ⟨k + 1, _, by omega, by omega, by go_num, rfl, hid ST.out.symm, hid (HB.out.trans ((below_drN _ _).mono HB.out.size))⟩
        case measure => simp [intOf] <;> omega
      · obtain rfl : k = 40 := by omega
        go_wp2
        go_ret2
        exact ⟨by rw [HV.out, HV2.out, enT_sum, ← HS.out]; rfl, HB.out⟩

def oneL : List Int := (List.replicate 40 0).set 0 1
theorem oneL_len : oneL.length = 40 := by simp [oneL]
theorem oneL_w : W64 oneL := fun x hx => by
  have : x = 0 ∨ x = 1 := by
    rcases List.mem_or_eq_of_mem_set hx with h | h
    · left; exact (List.mem_replicate.1 h).2
    · right; exact h
  omega
theorem en_one : enV oneL 3 3 = 1 := by decide +kernel

end Go.Proofs.Ytcfmipobgljbeaa
