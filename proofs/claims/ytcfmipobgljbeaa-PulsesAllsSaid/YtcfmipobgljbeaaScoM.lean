/- Plain facts on how well pulses go with a target. -/
import Derived.Test.YtcfmipobgljbeaaEnerW
namespace Go.Proofs.Ytcfmipobgljbeaa
set_option linter.unusedVariables false
set_option linter.unusedSimpArgs false
set_option maxRecDepth 100000
open Go.RowKit

def sgp (x : Int) : Int := if x < 0 then -1 else 1
theorem sgp_two (x : Int) : sgp x = 1 ∨ sgp x = -1 := by
  unfold sgp
  split
  · exact .inr rfl
  · exact .inl rfl
def plc (ix : List Int) (t : Nat) : Nat := t + 4 * (ix.getD t 0).toNat
def en0 (ring : List Int) (a b : Nat) : Int := sumN (enT ring a b) 40
def sg (d ix : List Int) (t : Nat) : Int := sgp (d.getD (plc ix t) 0)
theorem en0_dot (ring : List Int) (a b : Nat) : dotL (lateL ring a) (lateL ring b) 40 = en0 ring a b := enT_sum ring a b
theorem en0_comm (ring : List Int) (a b : Nat) : en0 ring a b = en0 ring b a := by
  unfold en0
  exact sumN_congr 40 fun i _ => by unfold enT; exact Int.mul_comm _ _
theorem en0_range (ring : List Int) (a b : Nat) : -42949672960 ≤ en0 ring a b ∧ en0 ring a b ≤ 42949672960 := by
  have := enT_range ring a b 40
  unfold en0
  omega
def scT (d ring ix : List Int) (i j : Nat) : Int := sg d ix i * sg d ix j * en0 ring (plc ix i) (plc ix j)
theorem sg_mul {s x B : Int} (hs : s = 1 ∨ s = -1) (h : -B ≤ x ∧ x ≤ B) : -B ≤ s * x ∧ s * x ≤ B := by
  rcases hs with rfl | rfl
  · rw [Int.one_mul]; exact h
  · rw [Int.neg_one_mul]; omega
theorem sg_two (d ix : List Int) (t : Nat) : sg d ix t = 1 ∨ sg d ix t = -1 := sgp_two _
theorem scT_range (d ring ix : List Int) (i j : Nat) : -42949672960 ≤ scT d ring ix i j ∧ scT d ring ix i j ≤ 42949672960 := by
  unfold scT
  rw [Int.mul_assoc]
  exact sg_mul (sg_two d ix i) (sg_mul (sg_two d ix j) (en0_range ring _ _))
def scR (d ring ix : List Int) (i : Nat) : Int := sumN (scT d ring ix i) 4
def scE (d ring ix : List Int) : Int := sumN (scR d ring ix) 4
theorem sum_bound {f : Nat → Int} {B : Int} (h : ∀ i, -B ≤ f i ∧ f i ≤ B) (n : Nat) : -(B * n) ≤ sumN f n ∧ sumN f n ≤ B * n := by
  induction n with
  | zero => simp [sumN]
  | succ n ih =>
    simp only [sumN]
    have := h n
    have e : B * ((n + 1 : Nat) : Int) = B * n + B := by push_cast; rw [Int.mul_add, Int.mul_one]
    rw [e]
    omega
theorem scR_part (d ring ix : List Int) (i j : Nat) (hj : j ≤ 4) : -171798691840 ≤ sumN (scT d ring ix i) j ∧ sumN (scT d ring ix i) j ≤ 171798691840 := by
  have := sum_bound (scT_range d ring ix i) j
  omega
theorem scR_range (d ring ix : List Int) (i : Nat) : -171798691840 ≤ scR d ring ix i ∧ scR d ring ix i ≤ 171798691840 := scR_part d ring ix i 4 (Nat.le_refl _)
theorem scE_part (d ring ix : List Int) (i : Nat) (hi : i ≤ 4) : -687194767360 ≤ sumN (scR d ring ix) i ∧ sumN (scR d ring ix) i ≤ 687194767360 := by
  have := sum_bound (scR_range d ring ix) i
  omega
theorem scE_range (d ring ix : List Int) : -687194767360 ≤ scE d ring ix ∧ scE d ring ix ≤ 687194767360 := scE_part d ring ix 4 (Nat.le_refl _)

/-- The sum of the targets, as 64 bits count it. -/
def scC (d ix : List Int) : Nat → Int
  | 0 => 0
  | t + 1 => IntKind.i64.wrap (scC d ix t + IntKind.i64.wrap (sg d ix t * d.getD (plc ix t) 0))
theorem wrap64_range (x : Int) : -9223372036854775808 ≤ IntKind.i64.wrap x ∧ IntKind.i64.wrap x ≤ 9223372036854775807 := by
  rw [IntKind.wrap_i64]
  omega
theorem scC_64 (d ix : List Int) (t : Nat) : -9223372036854775808 ≤ scC d ix t ∧ scC d ix t ≤ 9223372036854775807 := by
  cases t with
  | zero => simp [scC]
  | succ t => exact wrap64_range _

/-! What is heard, and its energy. -/
def hrd (d ring ix : List Int) (t n : Nat) : Int := sumN (fun u => sg d ix u * lateE ring (plc ix u) n) t
theorem hrd_range (d ring ix : List Int) (t n : Nat) (ht : t ≤ 4) : -131072 ≤ hrd d ring ix t n ∧ hrd d ring ix t n ≤ 131072 := by
  have := sum_bound (f := fun u => sg d ix u * lateE ring (plc ix u) n) (B := 32768) (fun u => sg_mul (sg_two d ix u) (by have := lateE_range ring (plc ix u) n; omega)) t
  unfold hrd
  omega
theorem sumN_mulR (c : Int) (f : Nat → Int) (n : Nat) : sumN f n * c = sumN (fun i => f i * c) n := by
  rw [Int.mul_comm, ← sumN_mul]
  exact sumN_congr n fun i _ => Int.mul_comm _ _
def hsq (d ring ix : List Int) (n : Nat) : Int := hrd d ring ix 4 n * hrd d ring ix 4 n
theorem heard_energy (d ring ix : List Int) : sumN (hsq d ring ix) 40 = scE d ring ix := by
  have h1 : ∀ n, hsq d ring ix n = sumN (fun i => sumN (fun j => (sg d ix i * lateE ring (plc ix i) n) * (sg d ix j * lateE ring (plc ix j) n)) 4) 4 := fun n => by
    unfold hsq
    conv => lhs; unfold hrd
    rw [sumN_mulR]
    exact sumN_congr 4 fun i _ => by rw [← sumN_mul]
  rw [sumN_congr 40 (g := fun n => sumN (fun i => sumN (fun j => (sg d ix i * lateE ring (plc ix i) n) * (sg d ix j * lateE ring (plc ix j) n)) 4) 4) (fun n _ => h1 n), sumN_swap]
  unfold scE
  refine sumN_congr 4 fun i _ => ?_
  rw [sumN_swap]
  unfold scR
  refine sumN_congr 4 fun j _ => ?_
  unfold scT en0
  rw [← sumN_mul]
  refine sumN_congr 40 fun n _ => ?_
  unfold enT
  generalize sg d ix i = a
  generalize sg d ix j = b
  generalize lateE ring (plc ix i) n = x
  generalize lateE ring (plc ix j) n = y
  rw [Int.mul_assoc a x, Int.mul_assoc a b, ← Int.mul_assoc x b, Int.mul_comm x b, Int.mul_assoc b x]
theorem hsq_range (d ring ix : List Int) (n : Nat) : 0 ≤ hsq d ring ix n ∧ hsq d ring ix n ≤ 17179869184 := by
  have h := hrd_range d ring ix 4 n (Nat.le_refl _)
  unfold hsq
  generalize hrd d ring ix 4 n = x at *
  refine ⟨?_, ?_⟩
  · rcases Int.le_total 0 x with h0 | h0
    · exact Int.mul_nonneg h0 h0
    · exact Int.mul_nonneg_of_nonpos_of_nonpos h0 h0
  · have := mul_bound (x := x) (X := 131072) (y := x) (Y := 131072) (by omega) (by omega) ⟨by omega, by omega⟩ ⟨by omega, by omega⟩
    omega
theorem hsq_part (d ring ix : List Int) (n : Nat) (hn : n ≤ 40) : 0 ≤ sumN (hsq d ring ix) n ∧ sumN (hsq d ring ix) n ≤ 687194767360 := by
  have h1 := sum_bound (f := hsq d ring ix) (B := 17179869184) (fun i => by have := hsq_range d ring ix i; omega) n
  refine ⟨?_, by omega⟩
  clear h1 hn
  induction n with
  | zero => simp [sumN]
  | succ n ih => simp only [sumN]; have := hsq_range d ring ix n; omega

/-! The table of energies. -/
structure Tbl (L ring : List Int) (a b : Nat) : Prop where
  len : L.length = 1600
  at_ : ∀ i j, i < 40 → j < 40 → (i < a ∧ j < a ∨ i = a ∧ j < b ∨ j = a ∧ i < b) → L.getD (i * 40 + j) 0 = en0 ring i j
theorem Tbl.start (ring : List Int) : Tbl (List.replicate 1600 0) ring 0 0 := ⟨by rw [List.length_replicate], fun i j _ _ h => by omega⟩
theorem Tbl.set_ {L ring : List Int} {a b : Nat} (h : Tbl L ring a b) (ha : a < 40) (hb : b ≤ a) : Tbl ((L.set (a * 40 + b) (en0 ring a b)).set (b * 40 + a) (en0 ring a b)) ring a (b + 1) := by
  refine ⟨by rw [List.length_set, List.length_set, h.len], fun i j hi hj hc => ?_⟩
  by_cases e1 : b * 40 + a = i * 40 + j
  · have : i = b ∧ j = a := by omega
    obtain ⟨rfl, rfl⟩ := this
    rw [get_set_same _ _ _ (by rw [List.length_set, h.len]; omega)]
    exact en0_comm _ _ _
  · rw [get_set_other _ _ e1]
    by_cases e2 : a * 40 + b = i * 40 + j
    · have : i = a ∧ j = b := by omega
      obtain ⟨rfl, rfl⟩ := this
      rw [get_set_same _ _ _ (by rw [h.len]; omega)]
    · rw [get_set_other _ _ e2]
      refine h.at_ i j hi hj ?_
      have e3 : ¬ (i = b ∧ j = a) := by omega
      have e4 : ¬ (i = a ∧ j = b) := by omega
      omega
theorem Tbl.next {L ring : List Int} {a : Nat} (h : Tbl L ring a (a + 1)) : Tbl L ring (a + 1) 0 := ⟨h.len, fun i j hi hj hc => h.at_ i j hi hj (by omega)⟩
theorem Tbl.get {L ring : List Int} (h : Tbl L ring 40 0) {i j : Nat} (hi : i < 40) (hj : j < 40) : L.getD (i * 40 + j) 0 = en0 ring i j := h.at_ i j hi hj (by omega)

def okIx (ix : List Int) : Bool := ix.all fun p => decide (0 ≤ p ∧ p ≤ 9)
theorem okIx_at {ix : List Int} (h : okIx ix = true) (t : Nat) : 0 ≤ ix.getD t 0 ∧ ix.getD t 0 ≤ 9 := by
  by_cases ht : t < ix.length
  · have := all_at h t ht
    simpa using this
  · rw [List.getD_eq_getElem?_getD, List.getElem?_eq_none (by omega)]; simp
theorem plc_lt {ix : List Int} (h : okIx ix = true) {t : Nat} (ht : t < 4) : plc ix t < 40 := by
  have := okIx_at h t
  unfold plc
  omega
/-- Places that are places. -/
def Ix (x : List Int) : Prop := x.length = 4 ∧ okIx x = true
def scErr (d ring ix : List Int) : Int := if d.length = 40 ∧ ring.length = 40 then (if okIx ix then 0 else 2) else 1
def scCv (d ring ix : List Int) : Int := if scErr d ring ix = 0 then scC d ix 4 else 0
def scEv (d ring ix : List Int) : Int := if scErr d ring ix = 0 then scE d ring ix else 0
end Go.Proofs.Ytcfmipobgljbeaa
