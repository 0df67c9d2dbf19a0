/- The walks of the reference's whole, clip, S, L, Sat16, Sat32. -/
import Derived.Test.YtcfmipobgljbeaaBigSubO
import Derived.Test.YtcfmipobgljbeaaBigICmp
import Derived.Test.YtcfmipobgljbeaaNumA
namespace Go.Proofs.Ytcfmipobgljbeaa
set_option linter.unusedVariables false
set_option linter.unusedSimpArgs false
set_option maxRecDepth 100000
open Go.RowKit

theorem NewI.at_ {w w' : World} {z : Int} {e : Ending} (h : NewI w z e w') : ∃ b, e = .returned (.pointer (some ⟨b, 0, none⟩)) ∧ w.heap.size ≤ b ∧ IntAt w' b z ∧ Below w.heap.size w w' := h

set_option maxHeartbeats 1000000 in
theorem whole_any (w : World) (x : Int) (h1 : -9223372036854775808 ≤ x) (h2 : x ≤ 9223372036854775807) :
    Calls Try.prog 32 #[.int .i64 x] w (NewI w x) := by
  go_enter Try.func32, Try.ntmps32
  go_wp2_with (go_at_call 33; refine (NewInt_any w x h1 h2).mono ?_; rintro e w1 ⟨b, rfl, hb, hI, hB⟩)
  go_ret
  exact ⟨b, rfl, hb, hI, hB⟩

theorem sm_pow (m : Nat) (h : m ≤ 64) : Sm (((2 : Int) ^ m)).natAbs := by
  apply sm_of_lt
  rw [Int.natAbs_pow]
  have : (2 : Nat) ^ m ≤ 2 ^ 64 := Nat.pow_le_pow_right (by decide) h
  show (2 : Nat) ^ m < _
  omega

/-- What clip answers. -/
def Clips (w : World) (lo hi z : Int) (e : Ending) (w' : World) : Prop := e = .returned (.tuple #[.int .i64 (lim lo hi z), .bool (limd lo hi z)]) ∧ Below w.heap.size w w'

set_option maxHeartbeats 4000000 in
theorem clip_any (w : World) (c : Nat) (z : Int) (m : Nat) (hc : IntAt w c z) (hs : Sm z.natAbs) (hm : m ≤ 63) (lo hi : Int) (hlo : lo = -(2 ^ m)) (hhi : hi = 2 ^ m - 1) :
    Calls Try.prog 109 #[.pointer (some ⟨c, 0, none⟩), .int .u64 ((m + 1 : Nat) : Int)] w (Clips w lo hi z) := by
  have HC := hid hc
  have HS := hid hs
  have hp1 : (1 : Int) ≤ 2 ^ m := by have h : (0 : Int) < 2 ^ m := Int.pow_pos (by decide); omega
  have hp2 : (2 : Int) ^ m ≤ 9223372036854775808 := by
    have : (2 : Nat) ^ m ≤ 2 ^ 63 := Nat.pow_le_pow_right (by decide) hm
    have h2 : ((2 ^ m : Nat) : Int) = 2 ^ m := by simp
    omega
  have SP := hid (sm_pow m (by omega))
  obtain ⟨P, hP⟩ : ∃ P, P = (2 : Int) ^ m := ⟨_, rfl⟩
  rw [← hP] at hp1 hp2 SP hlo hhi
  have HP := hid hP
  have HLO := hid hlo
  have HHI := hid hhi
  clear hc hs hP
  have S1 := hid (sm_of_lt (n := (1 : Int).natAbs) (by decide))
  have SPm := hid (sm_of_lt (n := (-P).natAbs) (by omega))
  have hlt := HC.out.lt
  clear hlo hhi
  go_enter Try.func109, Try.ntmps109
  go_wp2_with fail
  refine (NewInt_any _ 1 (by omega) (by omega)).mono ?_
  rintro e w1 ⟨b1, rfl, hb1, hI1, hB1⟩
  have A0 := hid (IntBlk.below (IntBlk.new w (.bool false) (.slice none 0 0)) hB1 (Nat.le_refl _))
  have C1 := hid ((HC.out.below ((Below.refl _ _).alloc (Nat.le_refl _) _) (Nat.le_refl _)).below hB1 (Nat.le_refl _))
  have I1 := hid hI1
  have B1 := hid (((Below.refl _ w).alloc (Nat.le_refl _) _).trans (hB1.mono (by simp)))
  have hs1 := B1.out.size
  simp at hb1
  have hne1 : b1 ≠ w.heap.size := by omega
  clear hI1 hB1
  go_wp2_with fail
  refine (Lsh_any _ w.heap.size b1 1 m A0.out I1.out S1.out (by omega)).mono ?_
  rintro e w2 ⟨rfl, hI2, hG2⟩
  rw [Int.one_mul, ← HP.out] at hI2
  have C2 := hid (C1.out.kept A0.out hG2 (by omega))
  have I2 := hid hI2
  have B2 := hid (below_of_grownBy B1.out hG2 (Nat.le_refl _))
  have hs2 := B2.out.size
  have hs2' := I2.out.lt
  clear hI2 hG2 I1 C1
  go_wp2_with fail
  refine (Neg_any _ w2.heap.size w.heap.size P (IntBlk.new w2 _ _) (I2.out.below ((Below.refl _ _).alloc (Nat.le_refl _) _) (Nat.le_refl _)) SP.out).mono ?_
  rintro e w3 ⟨rfl, hI3, hG3⟩
  have L3 := hid hI3
  have C3 := hid ((C2.out.below ((Below.refl _ _).alloc (Nat.le_refl _) _) (Nat.le_refl _)).kept (IntBlk.new w2 (.bool false) (.slice none 0 0)) hG3 (by omega))
  have H3 := hid ((I2.out.below ((Below.refl _ _).alloc (Nat.le_refl _) _) (Nat.le_refl _)).kept (IntBlk.new w2 (.bool false) (.slice none 0 0)) hG3 (by omega))
  have B3 := hid (below_of_grownBy (B2.out.alloc (by omega) _) hG3 (by omega))
  have hs3 := L3.out.lt
  clear hI3 hG3 I2 C2
  go_wp2_with fail
  refine (NewInt_any _ 1 (by omega) (by omega)).mono ?_
  rintro e w4 ⟨b4, rfl, hb4, hI4, hB4⟩
  have C4 := hid (C3.out.below hB4 (Nat.le_refl _))
  have L4 := hid (L3.out.below hB4 (Nat.le_refl _))
  have H4 := hid (H3.out.below hB4 (Nat.le_refl _))
  have I4 := hid hI4
  have B4 := hid (B3.out.trans (hB4.mono B3.out.size))
  have hs4 := B4.out.size
  clear hI4 hB4 C3 L3 H3
  go_wp2_with fail
  refine (Sub_any _ w.heap.size w.heap.size b4 P 1 H4.out.blk H4.out I4.out SP.out S1.out).mono ?_
  rintro e w5 ⟨rfl, hI5, hG5⟩
  have H5 := hid hI5
  have C5 := hid (C4.out.kept H4.out.blk hG5 (by omega))
  have L5 := hid (L4.out.kept H4.out.blk hG5 (by omega))
  have B5 := hid (below_of_grownBy B4.out hG5 (Nat.le_refl _))
  clear hI5 hG5 C4 L4 H4 I4
  have SH := hid (sm_of_lt (n := (P - 1).natAbs) (by omega))
  have K1 := hid (Cmp_any _ c w2.heap.size z (-P) C5.out L5.out HS.out SPm.out)
  have FIN := hid (fun (n : Nat) (r : Int) (b : Bool) (hr : r = lim lo hi z) (hb : b = limd lo hi z) => show Clips w lo hi z (.returned (.tuple #[.int .i64 r, .bool b])) (w5.drewN n) from ⟨by rw [hr, hb], B5.out.trans ⟨rfl, rfl, rfl, Nat.le_refl _, fun _ _ => rfl⟩⟩)
  by_cases hlow : z < -P
  · have hc1 : cmpZ z (-P) = -1 := by unfold cmpZ; rw [if_pos hlow]
    rw [hc1] at K1
    have e1 := hid (show (-P) = lim lo hi z ∧ true = limd lo hi z by rw [HLO.out, HHI.out]; unfold lim limd; rw [if_pos hlow, if_pos hlow]; exact ⟨rfl, rfl⟩)
    clear hc1
    go_wp2_with (first
      | (go_at_call 84; refine K1.out.mono ?_; rintro e w6 ⟨rfl, k, rfl⟩)
      | (go_at_call 37; refine (Int64_any _ _ (-P) (L5.out.drewN k) (by omega) (by omega)).mono ?_; rintro e w6 ⟨rfl, rfl⟩))
    go_ret2
    exact FIN.out _ _ _ e1.out.1 e1.out.2
  · have hc1 : 0 ≤ cmpZ z (-P) := by unfold cmpZ; rw [if_neg hlow]; split <;> omega
    have K2 := hid (fun n => Cmp_any (w5.drewN n) c w.heap.size z (P - 1) (C5.out.drewN n) (H5.out.drewN n) HS.out SH.out)
    by_cases hhigh : P - 1 < z
    · have hc2 : cmpZ z (P - 1) = 1 := by unfold cmpZ; rw [if_neg (by omega), if_pos hhigh]
      rw [hc2] at K2
      have e1 := hid (show (P - 1) = lim lo hi z ∧ true = limd lo hi z by rw [HLO.out, HHI.out]; unfold lim limd; rw [if_neg hlow, if_pos hhigh, if_neg hlow, if_pos hhigh]; exact ⟨rfl, rfl⟩)
      clear hc2
      go_wp2_with fail
      refine K1.out.mono ?_
      rintro e w6 ⟨rfl, k, rfl⟩
      go_wp2_with fail
      refine (K2.out _).mono ?_
      rintro e w6 ⟨rfl, k2, rfl⟩
      rw [World.drewN_drewN]
      go_wp2_with (go_at_call 37; refine (Int64_any _ _ (P - 1) (H5.out.drewN _) (by omega) (by omega)).mono ?_; rintro e w6 ⟨rfl, rfl⟩)
      go_ret2
      exact FIN.out _ _ _ e1.out.1 e1.out.2
    · have hc2 : ¬ 0 < cmpZ z (P - 1) := by
        unfold cmpZ
        repeat' split
        all_goals omega
      have e1 := hid (show z = lim lo hi z ∧ false = limd lo hi z by rw [HLO.out, HHI.out]; unfold lim limd; rw [if_neg hlow, if_neg hhigh, if_neg hlow, if_neg hhigh]; exact ⟨rfl, rfl⟩)
      go_wp2_with fail
      refine K1.out.mono ?_
      rintro e w6 ⟨rfl, k, rfl⟩
      go_wp2_with fail
      refine (K2.out _).mono ?_
      rintro e w6 ⟨rfl, k2, rfl⟩
      rw [World.drewN_drewN]
      go_wp2_with (go_at_call 37; refine (Int64_any _ _ z (C5.out.drewN _) (by omega) (by omega)).mono ?_; rintro e w6 ⟨rfl, rfl⟩)
      go_ret2
      exact FIN.out _ _ _ e1.out.1 e1.out.2

/-- What a function answers that gives a number and new memory at most. -/
def GivesZ (w : World) (n : Int) (e : Ending) (w' : World) : Prop := e = .returned (.int .i64 n) ∧ Below w.heap.size w w'

set_option maxHeartbeats 1000000 in
theorem S_any (x : Int) (w : World) (h1 : -9223372036854775808 ≤ x) (h2 : x ≤ 9223372036854775807) :
    Calls Try.prog 82 #[.int .i64 x] w (GivesZ w (s16 x)) := by
  go_enter Try.func82, Try.ntmps82
  go_wp2_with (first
    | (go_at_call 32; refine (whole_any w x h1 h2).mono ?_; rintro e w1 ⟨b, rfl, hb, hI, hB⟩; have q1 := hid hI; have q2 := hid hB; clear hI hB)
    | (go_at_call 109; refine (clip_any _ b x 15 q1.out (sm_of_lt (by omega)) (by omega) (-32768) 32767 (by decide) (by decide)).mono ?_; rintro e w2 ⟨rfl, hB⟩; have q3 := hid hB; clear hB))
  go_ret
  exact ⟨rfl, q2.out.trans (q3.out.mono q2.out.size)⟩

end Go.Proofs.Ytcfmipobgljbeaa
