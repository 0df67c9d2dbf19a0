/- The walk of the reference's moved; shifts of both sides answer alike. -/
import Derived.Test.YtjgompeeigfdhaaBigDivMod
import Derived.Test.YtjgompeeigfdhaaRefClip
import Derived.Test.YtjgompeeigfdhaaNumB
namespace Go.Proofs.Ytjgompeeigfdhaa
set_option linter.unusedVariables false
set_option linter.unusedSimpArgs false
open Go.RowKit

def movZ (x n : Int) : Int := if 0 ≤ n then x * 2 ^ (min n 50).toNat else x / 2 ^ (min (-n) 50).toNat

theorem pow_le50 {n : Nat} (h : n ≤ 50) : (2 : Int) ^ n ≤ 1125899906842624 ∧ 0 < (2 : Int) ^ n := by
  have h1 : (2 : Nat) ^ n ≤ 2 ^ 50 := Nat.pow_le_pow_right (by decide) h
  have h2 : ((2 ^ n : Nat) : Int) = 2 ^ n := by simp
  exact ⟨by omega, Int.pow_pos (by decide)⟩

theorem pow_ge32 {n : Nat} (h : 32 ≤ n) : (4294967296 : Int) ≤ 2 ^ n := by
  have h1 : (2 : Nat) ^ 32 ≤ 2 ^ n := Nat.pow_le_pow_right (by decide) h
  have h2 : ((2 ^ n : Nat) : Int) = 2 ^ n := by simp
  omega

/-- Far to the left both sides stop alike. -/
theorem lim_far {lo hi x p q : Int} (hlo : -2147483648 ≤ lo) (hlo2 : lo ≤ 0) (hhi : hi ≤ 2147483647) (hhi2 : 0 ≤ hi) (hp : 4294967296 ≤ p) (hq : 4294967296 ≤ q) :
    lim lo hi (x * p) = lim lo hi (x * q) ∧ limd lo hi (x * p) = limd lo hi (x * q) := by
  rcases Int.lt_trichotomy x 0 with h | h | h
  · have h1 : x * p ≤ -4294967296 := by
      have := Int.mul_le_mul_of_nonneg_right (show x ≤ -1 by omega) (show 0 ≤ p by omega); omega
    have h2 : x * q ≤ -4294967296 := by
      have := Int.mul_le_mul_of_nonneg_right (show x ≤ -1 by omega) (show 0 ≤ q by omega); omega
    unfold lim limd
    rw [if_pos (by omega), if_pos (by omega), if_pos (by omega), if_pos (by omega)]
    exact ⟨rfl, rfl⟩
  · subst h; simp
  · have h1 : 4294967296 ≤ x * p := by
      have := Int.mul_le_mul_of_nonneg_right (show 1 ≤ x by omega) (show 0 ≤ p by omega); omega
    have h2 : 4294967296 ≤ x * q := by
      have := Int.mul_le_mul_of_nonneg_right (show 1 ≤ x by omega) (show 0 ≤ q by omega); omega
    unfold lim limd
    rw [if_neg (by omega), if_pos (by omega), if_neg (by omega), if_pos (by omega), if_neg (by omega), if_pos (by omega), if_neg (by omega), if_pos (by omega)]
    exact ⟨rfl, rfl⟩

theorem div_far {x : Int} (hx : -2147483648 ≤ x ∧ x ≤ 2147483647) {n : Nat} (h : 32 ≤ n) : x / 2 ^ n = if x < 0 then -1 else 0 := by
  have hp := pow_ge32 h
  generalize (2 : Int) ^ n = p at *
  split
  · have e : x / p = -1 := by
      rw [Int.ediv_eq_iff_of_pos (by omega)]
      omega
    exact e
  · exact Int.ediv_eq_zero_of_lt (by omega) (by omega)

theorem shiftZ_far {x n : Int} (h : 31 < n) : shiftZ x n = x * 4294967296 := by
  unfold shiftZ; rw [if_neg (by omega), if_pos h, show (2 : Int) ^ 31 = 2147483648 from by decide]; omega
theorem shiftZ_mid {x n : Int} (h0 : 0 ≤ n) (h : ¬ 31 < n) : shiftZ x n = x * 2 ^ n.toNat := by
  unfold shiftZ; rw [if_neg (show ¬ n < 0 by omega), if_neg h]
theorem movZ_pos {x n : Int} (h0 : 0 ≤ n) : movZ x n = x * 2 ^ (min n 50).toNat := by unfold movZ; rw [if_pos h0]

theorem shift_mov {lo hi x n : Int} (hlo : -2147483648 ≤ lo) (hlo2 : lo ≤ 0) (hhi : hi ≤ 2147483647) (hhi2 : 0 ≤ hi) (hx : -2147483648 ≤ x ∧ x ≤ 2147483647) :
    lim lo hi (shiftZ x (max n (-40))) = lim lo hi (movZ x n) ∧ limd lo hi (shiftZ x (max n (-40))) = limd lo hi (movZ x n) := by
  by_cases h0 : n < 0
  · have e : shiftZ x (max n (-40)) = movZ x n := by
      unfold shiftZ movZ
      rw [if_pos (by omega), if_neg (by omega)]
      by_cases hc : -40 ≤ n
      · congr 2; omega
      · rw [div_far hx (by omega), div_far hx (by omega)]
    rw [e]; exact ⟨rfl, rfl⟩
  · have hm : max n (-40) = n := by omega
    rw [hm, movZ_pos (by omega)]
    by_cases hc : 31 < n
    · rw [shiftZ_far hc]
      exact lim_far hlo hlo2 hhi hhi2 (by omega) (pow_ge32 (n := (min n 50).toNat) (by omega))
    · rw [shiftZ_mid (by omega) hc, show (min n 50).toNat = n.toNat from by omega]; exact ⟨rfl, rfl⟩

theorem shift_mov_r {lo hi x n : Int} (hlo : -2147483648 ≤ lo) (hlo2 : lo ≤ 0) (hhi : hi ≤ 2147483647) (hhi2 : 0 ≤ hi) (hx : -2147483648 ≤ x ∧ x ≤ 2147483647) :
    lim lo hi (shiftZ x (max (-max n (-40)) (-40))) = lim lo hi (movZ x (-max n (-50))) ∧ limd lo hi (shiftZ x (max (-max n (-40)) (-40))) = limd lo hi (movZ x (-max n (-50))) := by
  by_cases hc : -40 ≤ n
  · have e1 : -max n (-40) = -n := by omega
    have e2 : -max n (-50) = -n := by omega
    rw [e1, e2]
    exact shift_mov hlo hlo2 hhi hhi2 hx
  · have e1 : max (-max n (-40)) (-40) = 40 := by omega
    rw [e1, shiftZ_far (by omega), movZ_pos (by omega)]
    exact lim_far hlo hlo2 hhi hhi2 (by omega) (pow_ge32 (n := (min (-max n (-50)) 50).toNat) (by omega))

theorem movZ_range {x n : Int} (hx : -2147483648 ≤ x ∧ x ≤ 2147483647) : (movZ x n).natAbs < 340282366920938463463374607431768211456 := by
  unfold movZ
  split
  · have hp := pow_le50 (n := (min n 50).toNat) (by omega)
    generalize (2 : Int) ^ (min n 50).toNat = p at *
    have h1 : x * p ≤ 2147483647 * p := Int.mul_le_mul_of_nonneg_right hx.2 (by omega)
    have h2 : -2147483648 * p ≤ x * p := Int.mul_le_mul_of_nonneg_right hx.1 (by omega)
    omega
  · have hp := pow_le50 (n := (min (-n) 50).toNat) (by omega)
    generalize (2 : Int) ^ (min (-n) 50).toNat = p at *
    have h1 := Int.mul_ediv_add_emod x p
    have h2 := Int.emod_nonneg x (show p ≠ 0 by omega)
    have h3 := Int.emod_lt_of_pos x hp.2
    have h4 : x / p ≤ 2147483647 := by
      have := Int.ediv_le_ediv hp.2 hx.2
      have h5 := Int.ediv_le_self p (a := 2147483647) (by decide)
      omega
    have h5 : -2147483648 ≤ x / p := by
      rw [Int.le_ediv_iff_mul_le hp.2]
      have hp1 := hp.2
      omega
    omega

set_option maxHeartbeats 2000000 in
theorem moved_any (w : World) (c : Nat) (z n : Int) (hc : IntAt w c z) (hz : -2147483648 ≤ z ∧ z ≤ 2147483647) (hn : n ≤ 9223372036854775807) :
    Calls Try.prog 65 #[.pointer (some ⟨c, 0, none⟩), .int .i64 n] w (NewI w (movZ z n)) := by
  have HC := hid hc
  have SZ := hid (sm_of_lt (n := z.natAbs) (by omega))
  have hl := hc.lt
  have HZ := hid hz
  by_cases h0 : 0 ≤ n
  · obtain ⟨m, hm50, hm, hmv⟩ : ∃ m : Nat, m ≤ 50 ∧ (min n 50) = (m : Int) ∧ movZ z n = z * 2 ^ m := ⟨(min n 50).toNat, by omega, by omega, by unfold movZ; rw [if_pos h0]⟩
    have HV := hid hmv
    clear hmv hc hz
    have L := hid (Lsh_any _ w.heap.size c z m (IntBlk.new w (.bool false) (.slice none 0 0)) (HC.out.below ((Below.refl _ _).alloc (Nat.le_refl _) _) (Nat.le_refl _)) SZ.out (by omega))
    by_cases h5 : 50 < n
    · have e : (50 : Int) = (m : Int) := by omega
      obtain rfl : m = 50 := by omega
      clear e hm
      go_enter Try.func65, Try.ntmps65
      go_wp2_with (go_at_call 70; refine L.out.mono ?_; rintro e w1 ⟨rfl, hI, hG⟩; have q1 := hid hI; have q2 := hid hG; clear hI hG)
      go_ret
      exact ⟨w.heap.size, rfl, Nat.le_refl _, by rw [HV.out]; exact q1.out, below_of_grownBy ((Below.refl _ w).alloc (Nat.le_refl _) _) q2.out (Nat.le_refl _)⟩
    · obtain rfl : n = (m : Int) := by omega
      clear hm
      go_enter Try.func65, Try.ntmps65
      go_wp2_with (go_at_call 70; refine L.out.mono ?_; rintro e w1 ⟨rfl, hI, hG⟩; have q1 := hid hI; have q2 := hid hG; clear hI hG)
      go_ret
      exact ⟨w.heap.size, rfl, Nat.le_refl _, by rw [HV.out]; exact q1.out, below_of_grownBy ((Below.refl _ w).alloc (Nat.le_refl _) _) q2.out (Nat.le_refl _)⟩
  · obtain ⟨m, hm50, hm0, hm, hmv⟩ : ∃ m : Nat, m ≤ 50 ∧ 0 < m ∧ (min (-n) 50) = (m : Int) ∧ movZ z n = z / 2 ^ m := ⟨(min (-n) 50).toNat, by omega, by omega, by omega, by unfold movZ; rw [if_neg h0]⟩
    have HV := hid hmv
    have hp := pow_le50 hm50
    have HP := hid hp
    clear hmv hc hz hp
    by_cases h5 : n < -50
    · obtain rfl : m = 50 := by omega
      clear hm
      go_enter Try.func65, Try.ntmps65
      go_wp2_with fail
      refine (NewInt_any _ 1 (by omega) (by omega)).mono ?_
      rintro e w1 ⟨b1, rfl, hb1, hI1, hB1⟩
      have A1 := hid (IntBlk.below (IntBlk.new w (.bool false) (.slice none 0 0)) hB1 (Nat.le_refl _))
      have I1 := hid hI1
      have C1 := hid ((HC.out.below ((Below.refl _ _).alloc (Nat.le_refl _) _) (Nat.le_refl _)).below hB1 (Nat.le_refl _))
      have B1 := hid (((Below.refl _ w).alloc (Nat.le_refl _) _).trans (hB1.mono (by simp)))
      have hs1 := B1.out.size
      clear hI1 hB1
      go_wp2_with fail
      refine (Lsh_any _ w.heap.size b1 1 50 A1.out I1.out (sm_of_lt (by decide)) (by omega)).mono ?_
      rintro e w2 ⟨rfl, hI2, hG2⟩
      rw [Int.one_mul] at hI2
      have I2 := hid hI2
      have C2 := hid (C1.out.kept A1.out hG2 (by omega))
      have B2 := hid (below_of_grownBy B1.out hG2 (Nat.le_refl _))
      have hs2 := B2.out.size
      clear hI2 hG2
      go_wp2_with fail
      refine (Div_any _ w2.heap.size c w.heap.size z (2 ^ 50) (IntBlk.new w2 _ _) (C2.out.below ((Below.refl _ _).alloc (Nat.le_refl _) _) (Nat.le_refl _)) (I2.out.below ((Below.refl _ _).alloc (Nat.le_refl _) _) (Nat.le_refl _)) (by have := HZ.out; omega) HP.out.2 (by have := HP.out; omega)).mono ?_
      rintro e w3 ⟨rfl, hI3, hG3⟩
      have q1 := hid hI3
      have q2 := hid hG3
      clear hI3 hG3
      go_wp2
      go_ret
      exact ⟨w2.heap.size, rfl, hs2, by rw [HV.out]; exact q1.out, below_of_grownBy (B2.out.alloc hs2 _) q2.out hs2⟩
    · obtain ⟨k, rfl⟩ : ∃ k : Nat, n = -(k : Int) := ⟨(-n).toNat, by omega⟩
      obtain rfl : k = m := by omega
      clear hm
      go_enter Try.func65, Try.ntmps65
      go_wp2_with fail
      refine (NewInt_any _ 1 (by omega) (by omega)).mono ?_
      rintro e w1 ⟨b1, rfl, hb1, hI1, hB1⟩
      have A1 := hid (IntBlk.below (IntBlk.new w (.bool false) (.slice none 0 0)) hB1 (Nat.le_refl _))
      have I1 := hid hI1
      have C1 := hid ((HC.out.below ((Below.refl _ _).alloc (Nat.le_refl _) _) (Nat.le_refl _)).below hB1 (Nat.le_refl _))
      have B1 := hid (((Below.refl _ w).alloc (Nat.le_refl _) _).trans (hB1.mono (by simp)))
      have hs1 := B1.out.size
      clear hI1 hB1
      go_wp2_with fail
      refine (Lsh_any _ w.heap.size b1 1 k A1.out I1.out (sm_of_lt (by decide)) (by omega)).mono ?_
      rintro e w2 ⟨rfl, hI2, hG2⟩
      rw [Int.one_mul] at hI2
      have I2 := hid hI2
      have C2 := hid (C1.out.kept A1.out hG2 (by omega))
      have B2 := hid (below_of_grownBy B1.out hG2 (Nat.le_refl _))
      have hs2 := B2.out.size
      clear hI2 hG2
      go_wp2_with fail
      refine (Div_any _ w2.heap.size c w.heap.size z (2 ^ k) (IntBlk.new w2 _ _) (C2.out.below ((Below.refl _ _).alloc (Nat.le_refl _) _) (Nat.le_refl _)) (I2.out.below ((Below.refl _ _).alloc (Nat.le_refl _) _) (Nat.le_refl _)) (by have := HZ.out; omega) HP.out.2 (by have := HP.out; omega)).mono ?_
      rintro e w3 ⟨rfl, hI3, hG3⟩
      have q1 := hid hI3
      have q2 := hid hG3
      clear hI3 hG3
      go_wp2
      go_ret
      exact ⟨w2.heap.size, rfl, hs2, by rw [HV.out]; exact q1.out, below_of_grownBy (B2.out.alloc hs2 _) q2.out hs2⟩
end Go.Proofs.Ytjgompeeigfdhaa
