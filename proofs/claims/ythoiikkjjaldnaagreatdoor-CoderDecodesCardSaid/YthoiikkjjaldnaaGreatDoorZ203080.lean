/- Texts that the law rests on, laid together: BigICmp, NumA, RefClip, BigRsh, Down, BigIAdd, BigDiv, BigDiv1, BigQuo. -/
import Derived.Test.YthoiikkjjaldnaaGreatDoorZ685a03
import Derived.Test.YthoiikkjjaldnaaGreatDoorRows
import Derived.WalkKit
import Derived.WalkLawsBesides
import Derived.Test.YthoiikkjjaldnaaGreatDoorBigSubO
import Derived.Deep.RegionWith
/- The walk of Cmp. -/
namespace Go.Proofs.YthoiikkjjaldnaaGreatDoor
set_option linter.unusedVariables false
set_option linter.unusedSimpArgs false
set_option maxRecDepth 100000
open Go.RowKit

theorem below_drN (w : World) (k : Nat) : Below w.heap.size w (w.drewN k) := ⟨rfl, rfl, rfl, Nat.le_refl _, fun _ _ => rfl⟩

theorem quiet_more {f : FuncId} {args : Array Value} {w : World} {a n : Nat} {v : Value}
    (h : Calls Tryz.prog f args (w.drewN (a + n)) fun e w' => e = .returned v ∧ ∃ m, w' = (w.drewN (a + n)).drewN m) :
    Calls Tryz.prog f args (w.drewN (a + n)) fun e w'' => e = .returned v ∧ ∃ m, w'' = w.drewN (a + m) :=
  h.mono fun _ _ ⟨he, m, hm⟩ => ⟨he, n + m, by rw [hm, World.drewN_drewN, Nat.add_assoc]⟩

def cmpZ (x y : Int) : Int := if x < y then -1 else if y < x then 1 else 0

theorem cmpZ_pos {x y : Int} (hx : ¬ x < 0) (hy : ¬ y < 0) : cmpZ x y = cmpN x.natAbs y.natAbs := by
  unfold cmpZ cmpN
  repeat' split
  all_goals omega
theorem cmpZ_neg {x y : Int} (hx : x < 0) (hy : y < 0) : cmpZ x y = -cmpN x.natAbs y.natAbs := by
  unfold cmpZ cmpN
  repeat' split
  all_goals omega

theorem cmpN_range (a b : Nat) : -1 ≤ cmpN a b ∧ cmpN a b ≤ 1 := by
  unfold cmpN
  repeat' split
  all_goals omega

set_option maxHeartbeats 2000000 in
theorem Cmp_any (w : World) (c d : Nat) (x y : Int) (hc : IntAt w c x) (hd : IntAt w d y) (sx : Sm x.natAbs) (sy : Sm y.natAbs) :
    Calls Tryz.prog 195 #[.pointer (some ⟨c, 0, none⟩), .pointer (some ⟨d, 0, none⟩)] w fun e w' => e = .returned (.int .i64 (cmpZ x y)) ∧ ∃ n, w' = w.drewN n := by
  obtain ⟨vx, h0, h1, hvx⟩ := hc.cells
  obtain ⟨vy, k0, k1, hvy⟩ := hd.cells
  have K0 := hid (fun n => cmp_nm (w.drewN n) vx vy _ _ (hvx.below (below_drN w n) (Nat.le_refl _)) (hvy.below (below_drN w n) (Nat.le_refl _)) sx sy)
  clear hvx hvy hc hd sx sy
  by_cases hx : x < 0
  · have dx : decide (x < 0) = true := by simpa using hx
    rw [dx] at h0
    clear dx
    by_cases hy : y < 0
    · have dy : decide (y < 0) = true := by simpa using hy
      rw [dy] at k0
      have HV := hid (cmpZ_neg hx hy)
      have hr := cmpN_range x.natAbs y.natAbs
      clear dy hx hy
      go_enter Tryz.func195, Tryz.ntmps195
      go_wp2
      go_quiet (fail)
      go_wp2
      go_quiet ((go_at_call 152; exact quiet_more (K0.out _)))
      go_wp2
      go_ret
      rw [HV.out]
      exact ⟨rfl, _, rfl⟩
    · have dy : decide (y < 0) = false := by simpa using hy
      rw [dy] at k0
      have HV := hid (show cmpZ x y = -1 by unfold cmpZ; rw [if_pos (by omega)])
      clear dy hx hy
      go_enter Tryz.func195, Tryz.ntmps195
      go_wp2
      go_quiet (fail)
      go_wp2
      go_ret
      rw [HV.out]
      exact ⟨rfl, _, rfl⟩
  · have dx : decide (x < 0) = false := by simpa using hx
    rw [dx] at h0
    clear dx
    by_cases hy : y < 0
    · have dy : decide (y < 0) = true := by simpa using hy
      rw [dy] at k0
      have HV := hid (show cmpZ x y = 1 by unfold cmpZ; rw [if_neg (by omega), if_pos (by omega)])
      clear dy hx hy
      go_enter Tryz.func195, Tryz.ntmps195
      go_wp2
      go_quiet (fail)
      go_wp2
      go_ret
      rw [HV.out]
      exact ⟨rfl, _, rfl⟩
    · have dy : decide (y < 0) = false := by simpa using hy
      rw [dy] at k0
      have HV := hid (cmpZ_pos hx hy)
      clear dy hx hy
      go_enter Tryz.func195, Tryz.ntmps195
      go_wp2
      go_quiet (fail)
      go_wp2
      go_quiet ((go_at_call 152; exact quiet_more (K0.out _)))
      go_wp2
      go_ret
      rw [HV.out]
      exact ⟨rfl, _, rfl⟩
end Go.Proofs.YthoiikkjjaldnaaGreatDoor

/- The walks of package basic's functions on numbers of 16 and 32 bits. -/
namespace Go.Proofs.YthoiikkjjaldnaaGreatDoor
set_option linter.unusedVariables false
set_option linter.unusedSimpArgs false
set_option maxRecDepth 100000
open Go.RowKit

def lim (lo hi x : Int) : Int := if x < lo then lo else if hi < x then hi else x
def limd (lo hi x : Int) : Bool := if x < lo then true else if hi < x then true else false

theorem lim_range {lo hi : Int} (h : lo ≤ hi) (x : Int) : lo ≤ lim lo hi x ∧ lim lo hi x ≤ hi := by
  unfold lim; repeat' split
  all_goals omega

def s16 (x : Int) : Int := lim (-32768) 32767 x
def s32 (x : Int) : Int := lim (-2147483648) 2147483647 x
theorem s16_range (x : Int) : -32768 ≤ s16 x ∧ s16 x ≤ 32767 := lim_range (by omega) x
theorem s32_range (x : Int) : -2147483648 ≤ s32 x ∧ s32 x ≤ 2147483647 := lim_range (by omega) x
def d16 (x : Int) : Bool := limd (-32768) 32767 x
def d32 (x : Int) : Bool := limd (-2147483648) 2147483647 x

/-- What a function answers that gives a number and whether it was stopped, and leaves the world alone. -/
def Pair (w : World) (n : Int) (b : Bool) (e : Ending) (w' : World) : Prop := e = .returned (.tuple #[.int .i64 n, .bool b]) ∧ w = w'

theorem stop_any (x lo hi : Int) (w : World) :
    Calls Tryz.prog 186 #[.int .i64 x, .int .i64 lo, .int .i64 hi] w (Pair w (lim lo hi x) (limd lo hi x)) := by
  unfold lim limd
  go_enter Tryz.func186, Tryz.ntmps186
  go_wp2
  all_goals (go_ret2; exact ⟨by simp [*], rfl⟩)

theorem sat16_any (x : Int) (w : World) : Calls Tryz.prog 142 #[.int .i64 x] w (Pair w (s16 x) (d16 x)) := by
  go_enter Tryz.func142, Tryz.ntmps142
  go_wp2_with (go_at_call 186; refine (stop_any _ _ _ _).mono ?_; rintro e w' ⟨rfl, rfl⟩)
  go_ret2
  exact ⟨rfl, rfl⟩

end Go.Proofs.YthoiikkjjaldnaaGreatDoor

/- The walks of the reference's whole, clip, S, L, Sat16, Sat32. -/
namespace Go.Proofs.YthoiikkjjaldnaaGreatDoor
set_option linter.unusedVariables false
set_option linter.unusedSimpArgs false
set_option maxRecDepth 100000
open Go.RowKit

theorem NewI.at_ {w w' : World} {z : Int} {e : Ending} (h : NewI w z e w') : ∃ b, e = .returned (.pointer (some ⟨b, 0, none⟩)) ∧ w.heap.size ≤ b ∧ IntAt w' b z ∧ Below w.heap.size w w' := h

set_option maxHeartbeats 1000000 in
theorem whole_any (w : World) (x : Int) (h1 : -9223372036854775808 ≤ x) (h2 : x ≤ 9223372036854775807) :
    Calls Tryz.prog 32 #[.int .i64 x] w (NewI w x) := by
  go_enter Tryz.func32, Tryz.ntmps32
  go_wp2_with (go_at_call 81; refine (NewInt_any w x h1 h2).mono ?_; rintro e w1 ⟨b, rfl, hb, hI, hB⟩)
  go_ret
  exact ⟨b, rfl, hb, hI, hB⟩

theorem sm_pow (m : Nat) (h : m ≤ 64) : Sm (((2 : Int) ^ m)).natAbs := by
  apply sm_of_lt
  rw [Int.natAbs_pow]
  have : (2 : Nat) ^ m ≤ 2 ^ 64 := Nat.pow_le_pow_right (by decide) h
  show (2 : Nat) ^ m < _
  omega

/-- What clip answers. -/
def Clips (w : World) (lo hi z : Int) (e : Ending) (w' : World) : Prop := e = .returned (.tuple #[.int .i64 (lim lo hi z), .bool (limd lo hi z)]) ∧ Below w.heap.size w w'

set_option maxHeartbeats 4000000 in
theorem clip_any (w : World) (c : Nat) (z : Int) (m : Nat) (hc : IntAt w c z) (hs : Sm z.natAbs) (hm : m ≤ 63) (lo hi : Int) (hlo : lo = -(2 ^ m)) (hhi : hi = 2 ^ m - 1) :
    Calls Tryz.prog 169 #[.pointer (some ⟨c, 0, none⟩), .int .u64 ((m + 1 : Nat) : Int)] w (Clips w lo hi z) := by
  have HC := hid hc
  have HS := hid hs
  have hp1 : (1 : Int) ≤ 2 ^ m := by have h : (0 : Int) < 2 ^ m := Int.pow_pos (by decide); omega
  have hp2 : (2 : Int) ^ m ≤ 9223372036854775808 := by
    have : (2 : Nat) ^ m ≤ 2 ^ 63 := Nat.pow_le_pow_right (by decide) hm
    have h2 : ((2 ^ m : Nat) : Int) = 2 ^ m := by simp
    omega
  have SP := hid (sm_pow m (by omega))
  obtain ⟨P, hP⟩ : ∃ P, P = (2 : Int) ^ m := ⟨_, rfl⟩
  rw [← hP] at hp1 hp2 SP hlo hhi
  have HP := hid hP
  have HLO := hid hlo
  have HHI := hid hhi
  clear hc hs hP
  have S1 := hid (sm_of_lt (n := (1 : Int).natAbs) (by decide))
  have SPm := hid (sm_of_lt (n := (-P).natAbs) (by omega))
  have hlt := HC.out.lt
  clear hlo hhi
  go_enter Tryz.func169, Tryz.ntmps169
  go_wp2_with fail
  refine (NewInt_any _ 1 (by omega) (by omega)).mono ?_
  rintro e w1 ⟨b1, rfl, hb1, hI1, hB1⟩
  have A0 := hid (IntBlk.below (IntBlk.new w (.bool false) (.slice none 0 0)) hB1 (Nat.le_refl _))
  have C1 := hid ((HC.out.below ((Below.refl _ _).alloc (Nat.le_refl _) _) (Nat.le_refl _)).below hB1 (Nat.le_refl _))
  have I1 := hid hI1
  have B1 := hid (((Below.refl _ w).alloc (Nat.le_refl _) _).trans (hB1.mono (by simp)))
  have hs1 := B1.out.size
  simp at hb1
  have hne1 : b1 ≠ w.heap.size := by omega
  clear hI1 hB1
  go_wp2_with fail
  refine (Lsh_any _ w.heap.size b1 1 m A0.out I1.out S1.out (by omega)).mono ?_
  rintro e w2 ⟨rfl, hI2, hG2⟩
  rw [Int.one_mul, ← HP.out] at hI2
  have C2 := hid (C1.out.kept A0.out hG2 (by omega))
  have I2 := hid hI2
  have B2 := hid (below_of_grownBy B1.out hG2 (Nat.le_refl _))
  have hs2 := B2.out.size
  have hs2' := I2.out.lt
  clear hI2 hG2 I1 C1
  go_wp2_with fail
  refine (Neg_any _ w2.heap.size w.heap.size P (IntBlk.new w2 _ _) (I2.out.below ((Below.refl _ _).alloc (Nat.le_refl _) _) (Nat.le_refl _)) SP.out).mono ?_
  rintro e w3 ⟨rfl, hI3, hG3⟩
  have L3 := hid hI3
  have C3 := hid ((C2.out.below ((Below.refl _ _).alloc (Nat.le_refl _) _) (Nat.le_refl _)).kept (IntBlk.new w2 (.bool false) (.slice none 0 0)) hG3 (by omega))
  have H3 := hid ((I2.out.below ((Below.refl _ _).alloc (Nat.le_refl _) _) (Nat.le_refl _)).kept (IntBlk.new w2 (.bool false) (.slice none 0 0)) hG3 (by omega))
  have B3 := hid (below_of_grownBy (B2.out.alloc (by omega) _) hG3 (by omega))
  have hs3 := L3.out.lt
  clear hI3 hG3 I2 C2
  go_wp2_with fail
  refine (NewInt_any _ 1 (by omega) (by omega)).mono ?_
  rintro e w4 ⟨b4, rfl, hb4, hI4, hB4⟩
  have C4 := hid (C3.out.below hB4 (Nat.le_refl _))
  have L4 := hid (L3.out.below hB4 (Nat.le_refl _))
  have H4 := hid (H3.out.below hB4 (Nat.le_refl _))
  have I4 := hid hI4
  have B4 := hid (B3.out.trans (hB4.mono B3.out.size))
  have hs4 := B4.out.size
  clear hI4 hB4 C3 L3 H3
  go_wp2_with fail
  refine (Sub_any _ w.heap.size w.heap.size b4 P 1 H4.out.blk H4.out I4.out SP.out S1.out).mono ?_
  rintro e w5 ⟨rfl, hI5, hG5⟩
  have H5 := hid hI5
  have C5 := hid (C4.out.kept H4.out.blk hG5 (by omega))
  have L5 := hid (L4.out.kept H4.out.blk hG5 (by omega))
  have B5 := hid (below_of_grownBy B4.out hG5 (Nat.le_refl _))
  clear hI5 hG5 C4 L4 H4 I4
  have SH := hid (sm_of_lt (n := (P - 1).natAbs) (by omega))
  have K1 := hid (Cmp_any _ c w2.heap.size z (-P) C5.out L5.out HS.out SPm.out)
  have FIN := hid (fun (n : Nat) (r : Int) (b : Bool) (hr : r = lim lo hi z) (hb : b = limd lo hi z) => show Clips w lo hi z (.returned (.tuple #[.int .i64 r, .bool b])) (w5.drewN n) from ⟨by rw [hr, hb], B5.out.trans ⟨rfl, rfl, rfl, Nat.le_refl _, fun _ _ => rfl⟩⟩)
  by_cases hlow : z < -P
  · have hc1 : cmpZ z (-P) = -1 := by unfold cmpZ; rw [if_pos hlow]
    rw [hc1] at K1
    have e1 := hid (show (-P) = lim lo hi z ∧ true = limd lo hi z by rw [HLO.out, HHI.out]; unfold lim limd; rw [if_pos hlow, if_pos hlow]; exact ⟨rfl, rfl⟩)
    clear hc1
    go_wp2_with (first
      | (go_at_call 195; refine K1.out.mono ?_; rintro e w6 ⟨rfl, k, rfl⟩)
      | (go_at_call 75; refine (Int64_any _ _ (-P) (L5.out.drewN k) (by omega) (by omega)).mono ?_; rintro e w6 ⟨rfl, rfl⟩))
    go_ret2
    exact FIN.out _ _ _ e1.out.1 e1.out.2
  · have hc1 : 0 ≤ cmpZ z (-P) := by unfold cmpZ; rw [if_neg hlow]; split <;> omega
    have K2 := hid (fun n => Cmp_any (w5.drewN n) c w.heap.size z (P - 1) (C5.out.drewN n) (H5.out.drewN n) HS.out SH.out)
    by_cases hhigh : P - 1 < z
    · have hc2 : cmpZ z (P - 1) = 1 := by unfold cmpZ; rw [if_neg (by omega), if_pos hhigh]
      rw [hc2] at K2
      have e1 := hid (show (P - 1) = lim lo hi z ∧ true = limd lo hi z by rw [HLO.out, HHI.out]; unfold lim limd; rw [if_neg hlow, if_pos hhigh, if_neg hlow, if_pos hhigh]; exact ⟨rfl, rfl⟩)
      clear hc2
      go_wp2_with fail
      refine K1.out.mono ?_
      rintro e w6 ⟨rfl, k, rfl⟩
      go_wp2_with fail
      refine (K2.out _).mono ?_
      rintro e w6 ⟨rfl, k2, rfl⟩
      rw [World.drewN_drewN]
      go_wp2_with (go_at_call 75; refine (Int64_any _ _ (P - 1) (H5.out.drewN _) (by omega) (by omega)).mono ?_; rintro e w6 ⟨rfl, rfl⟩)
      go_ret2
      exact FIN.out _ _ _ e1.out.1 e1.out.2
    · have hc2 : ¬ 0 < cmpZ z (P - 1) := by
        unfold cmpZ
        repeat' split
        all_goals omega
      have e1 := hid (show z = lim lo hi z ∧ false = limd lo hi z by rw [HLO.out, HHI.out]; unfold lim limd; rw [if_neg hlow, if_neg hhigh, if_neg hlow, if_neg hhigh]; exact ⟨rfl, rfl⟩)
      go_wp2_with fail
      refine K1.out.mono ?_
      rintro e w6 ⟨rfl, k, rfl⟩
      go_wp2_with fail
      refine (K2.out _).mono ?_
      rintro e w6 ⟨rfl, k2, rfl⟩
      rw [World.drewN_drewN]
      go_wp2_with (go_at_call 75; refine (Int64_any _ _ z (C5.out.drewN _) (by omega) (by omega)).mono ?_; rintro e w6 ⟨rfl, rfl⟩)
      go_ret2
      exact FIN.out _ _ _ e1.out.1 e1.out.2

/-- What a function answers that gives a number and new memory at most. -/
def GivesZ (w : World) (n : Int) (e : Ending) (w' : World) : Prop := e = .returned (.int .i64 n) ∧ Below w.heap.size w w'

set_option maxHeartbeats 1000000 in
theorem S_any (x : Int) (w : World) (h1 : -9223372036854775808 ≤ x) (h2 : x ≤ 9223372036854775807) :
    Calls Tryz.prog 109 #[.int .i64 x] w (GivesZ w (s16 x)) := by
  go_enter Tryz.func109, Tryz.ntmps109
  go_wp2_with (first
    | (go_at_call 32; refine (whole_any w x h1 h2).mono ?_; rintro e w1 ⟨b, rfl, hb, hI, hB⟩; have q1 := hid hI; have q2 := hid hB; clear hI hB)
    | (go_at_call 169; refine (clip_any _ b x 15 q1.out (sm_of_lt (by omega)) (by omega) (-32768) 32767 (by decide) (by decide)).mono ?_; rintro e w2 ⟨rfl, hB⟩; have q3 := hid hB; clear hB))
  go_ret
  exact ⟨rfl, q2.out.trans (q3.out.mono q2.out.size)⟩

end Go.Proofs.YthoiikkjjaldnaaGreatDoor

/- The walk of Rsh. -/
namespace Go.Proofs.YthoiikkjjaldnaaGreatDoor
set_option linter.unusedVariables false
set_option linter.unusedSimpArgs false
set_option maxRecDepth 100000
open Go.RowKit

set_option maxHeartbeats 2000000 in
theorem Rsh_any (w : World) (b c : Nat) (z : Int) (n : Nat) (hb : IntBlk w b) (hc : IntAt w c z) (hs : Sm z.natAbs) (hn : n ≤ 10000) :
    Calls Tryz.prog 73 #[.pointer (some ⟨b, 0, none⟩), .pointer (some ⟨c, 0, none⟩), .int .u64 (n : Nat)] w (Gives w b (z / 2 ^ n)) := by
  obtain ⟨v, h0, h1, hv⟩ := hc.cells
  have HB := hid hb
  have HV := hid hv
  have HS := hid hs
  clear hb hv hc hs
  by_cases hz : z < 0
  · have hd : decide (z < 0) = true := by simpa using hz
    rw [hd] at h0
    clear hd
    go_enter Tryz.func73, Tryz.ntmps73
    go_wp2_with fail
    refine (sub_nm _ v _ z.natAbs 1 (HV.out.below ((Below.refl _ _).alloc (Nat.le_refl _) _) (Nat.le_refl _)) (Nm.one w) HS.out (by omega)).mono ?_
    rintro e w1 ⟨⟨v1, rfl, hnm⟩, hb⟩
    have q1 := hid hb; have q2 := hid hnm; clear hb hnm
    go_wp2_with fail
    refine (right_any w1 v1 (z.natAbs - 1) n q2.out (by have := HS.out; unfold Sm at *; omega) hn).mono ?_
    rintro e w2 ⟨⟨v2, rfl, hnm⟩, hb⟩
    have q3 := hid hb; have q4 := hid hnm; clear hb hnm
    go_wp2_with fail
    refine (add_nm _ v2 _ ((z.natAbs - 1) / 2 ^ n) 1 (q4.out.below ((Below.refl _ _).alloc (Nat.le_refl _) _) (Nat.le_refl _)) (Nm.one w2) (by have := HS.out; have h5 := Nat.div_le_self (z.natAbs - 1) (2 ^ n); unfold Sm at *; omega) (sm_of_lt (by decide))).mono ?_
    rintro e w3 ⟨⟨v3, rfl, hnm⟩, hb⟩
    have q5 := hid hb; have q6 := hid hnm; clear hb hnm
    go_wp2_with fail
    refine (give_any _ b _ _ _ (((((HB.out.below ((Below.refl _ _).alloc (Nat.le_refl _) _) (Nat.le_refl _)).below q1.out (Nat.le_refl _)).below q3.out (Nat.le_refl _)).below ((Below.refl _ _).alloc (Nat.le_refl _) _) (Nat.le_refl _)).below q5.out (Nat.le_refl _)) q6.out).mono ?_
    rintro e w4 ⟨rfl, hI, hG⟩
    have q7 := hid (And.intro hI hG); clear hI hG
    go_wp2
    go_ret
    refine ⟨rfl, ?_, ?_⟩
    · rw [fdiv_neg hz n]
      exact q7.out.1
    · refine grownBy_trans ?_ q7.out.2
      exact grownBy_trans (grownBy_of_below ((Below.refl _ _).alloc (Nat.le_refl _) _) (Nat.le_refl _) _) (grownBy_trans (grownBy_of_below q1.out (Nat.le_refl _) _) (grownBy_trans (grownBy_of_below q3.out (Nat.le_refl _) _) (grownBy_trans (grownBy_of_below ((Below.refl _ _).alloc (Nat.le_refl _) _) (Nat.le_refl _) _) (grownBy_of_below q5.out (Nat.le_refl _) _))))
  · have hd : decide (z < 0) = false := by simpa using hz
    rw [hd] at h0
    clear hd
    go_enter Tryz.func73, Tryz.ntmps73
    go_wp2_with (first
      | (go_at_call 147; refine (right_any w v z.natAbs n HV.out HS.out hn).mono ?_; rintro e w1 ⟨⟨v', rfl, hnm⟩, hb⟩; have q1 := hid hb; have q2 := hid hnm; clear hb hnm)
      | (go_at_call 78; refine (give_any _ b _ _ (z.natAbs / 2 ^ n) (HB.out.below q1.out (Nat.le_refl _)) q2.out).mono ?_; rintro e w2 ⟨rfl, hI, hG⟩; have q4 := hid (And.intro hI hG); clear hI hG))
    go_ret
    refine ⟨rfl, ?_, grownBy_trans (grownBy_of_below q1.out (Nat.le_refl _) _) q4.out.2⟩
    have e : z / 2 ^ n = sgn false (z.natAbs / 2 ^ n) := by
      unfold sgn
      obtain ⟨m, rfl⟩ := Int.eq_ofNat_of_zero_le (show 0 ≤ z by omega)
      simp
    rw [e]
    exact q4.out.1
end Go.Proofs.YthoiikkjjaldnaaGreatDoor

/- The walk of the reference's down. -/
namespace Go.Proofs.YthoiikkjjaldnaaGreatDoor
set_option linter.unusedVariables false
set_option linter.unusedSimpArgs false
set_option maxRecDepth 100000
open Go.RowKit

theorem pow2_pos (n : Nat) : (0 : Int) < 2 ^ n := Int.pow_pos (by decide)
theorem ediv_lo {a lo p : Int} (hp : 0 < p) (h0 : lo ≤ 0) (h : lo ≤ a) : lo ≤ a / p := by
  rw [Int.le_ediv_iff_mul_le hp]
  have h1 := Int.mul_le_mul_of_nonneg_left (show (1 : Int) ≤ p by omega) (show 0 ≤ -lo by omega)
  rw [Int.neg_mul, Int.neg_mul, Int.mul_one] at h1
  omega
theorem ediv_hi {a hi p : Int} (hp : 0 < p) (h0 : 0 ≤ hi) (h : a ≤ hi) : a / p ≤ hi := by
  have h1 := Int.ediv_le_ediv hp h
  have h2 := Int.ediv_le_self p (a := hi) h0
  omega

set_option maxHeartbeats 1000000 in
theorem down_any (a : Int) (n : Nat) (w : World) (h1 : -9223372036854775808 ≤ a) (h2 : a ≤ 9223372036854775807) (hn : n ≤ 10000) :
    Calls Tryz.prog 110 #[.int .i64 a, .int .u64 (n : Nat)] w (GivesZ w (a / 2 ^ n)) := by
  have hq1 := ediv_lo (pow2_pos n) (lo := -9223372036854775808) (by omega) h1
  have hq2 := ediv_hi (pow2_pos n) (hi := 9223372036854775807) (by omega) h2
  go_enter Tryz.func110, Tryz.ntmps110
  go_wp2_with fail
  refine (whole_any _ a h1 h2).mono ?_
  rintro e w1 ⟨b, rfl, hb, hI, hB⟩
  have A1 := hid (IntBlk.below (IntBlk.new w (.bool false) (.slice none 0 0)) hB (Nat.le_refl _))
  have I1 := hid hI
  have B1 := hid (((Below.refl _ w).alloc (Nat.le_refl _) _).trans (hB.mono (by simp)))
  clear hI hB
  go_wp2_with fail
  refine (Rsh_any _ w.heap.size b a n A1.out I1.out (sm_of_lt (by omega)) hn).mono ?_
  rintro e w2 ⟨rfl, hI, hG⟩
  have I2 := hid hI
  have B2 := hid (below_of_grownBy B1.out hG (Nat.le_refl _))
  clear hI hG
  go_wp2_with fail
  refine (Int64_any _ w.heap.size (a / 2 ^ n) I2.out hq1 hq2).mono ?_
  rintro e w3 ⟨rfl, rfl⟩
  go_wp2
  go_ret
  exact ⟨rfl, B2.out⟩

theorem down_at (a : Int) (n : Nat) (p q : Int) (w : World) (h1 : -9223372036854775808 ≤ a) (h2 : a ≤ 9223372036854775807) (hn : n ≤ 10000) (hp : (2 : Int) ^ n = p) (hq : a / p = q) :
    Calls Tryz.prog 110 #[.int .i64 a, .int .u64 (n : Nat)] w (GivesZ w q) := by
  have h := down_any a n w h1 h2 hn
  rw [hp, hq] at h
  exact h
end Go.Proofs.YthoiikkjjaldnaaGreatDoor

/- The walks of Add. -/
namespace Go.Proofs.YthoiikkjjaldnaaGreatDoor
set_option linter.unusedVariables false
set_option linter.unusedSimpArgs false
set_option maxRecDepth 100000
open Go.RowKit

set_option maxHeartbeats 2000000 in
theorem Add_far (w : World) (b c d : Nat) (x y : Int) (hb : IntBlk w b) (hc : IntAt w c x) (hd : IntAt w d y) (sx : Sm x.natAbs) (sy : Sm y.natAbs) (hbc : b ≠ c) (hbd : b ≠ d) :
    Calls Tryz.prog 31 #[.pointer (some ⟨b, 0, none⟩), .pointer (some ⟨c, 0, none⟩), .pointer (some ⟨d, 0, none⟩)] w (Gives w b (x + y)) := by
  obtain ⟨vx, h0, h1, hvx⟩ := hc.cells
  obtain ⟨vy, k0, k1, hvy⟩ := hd.cells
  have hlc := hc.lt
  have hld := hd.lt
  have hlb := hb.lt
  have HB := hid hb
  have HX := hid hvx
  have HY := hid hvy
  have NC := hid hbc
  have ND := hid hbd
  clear hb hvx hvy hc hd hbc hbd
  obtain ⟨s, hs⟩ : ∃ s, s = decide (x < 0) := ⟨_, rfl⟩
  rw [← hs] at h0
  have HSX := hid hs
  clear hs
  obtain ⟨t, ht⟩ : ∃ t, t = decide (y < 0) := ⟨_, rfl⟩
  rw [← ht] at k0
  have HSY := hid ht
  clear ht
  go_enter Tryz.func31, Tryz.ntmps31
  go_wp2_with fail
  go_region_held3 (fun w' => w'.cell? ⟨c, 0, none⟩ = some (.bool s) ∧ w'.cell? ⟨c, 1, none⟩ = some vx ∧ w'.cell? ⟨d, 0, none⟩ = some (.bool t) ∧ w'.cell? ⟨d, 1, none⟩ = some vy) (go_keep)
    (first
    | (go_at_call 80; refine (sum_any w.drew s t vx vy _ _ HX.out.drew HY.out.drew sx sy).mono ?_; rintro e w1 ⟨neg, v1, n1, rfl, hnm, hz, hw'⟩; have hw := Sums.below ⟨neg, v1, n1, rfl, hnm, hz, hw'⟩; clear hw'; have q1 := hid hw; have q2 := hid hnm; have q3 := hid hz; have c0 := (Below.cell hw (p := ⟨c, 0, none⟩) hlc).trans h0; have c1 := (Below.cell hw (p := ⟨c, 1, none⟩) hlc).trans h1; have d0 := (Below.cell hw (p := ⟨d, 0, none⟩) hld).trans k0; have d1 := (Below.cell hw (p := ⟨d, 1, none⟩) hld).trans k1; clear hnm hz hw)
    | (go_at_call 78; refine (give_any _ b _ _ n1 (HB.out.drew.below q1.out (Nat.le_refl _)) q2.out).mono ?_; rintro e w2 ⟨rfl, hI, hG⟩; have q4 := hid (And.intro hI hG); have c0' := (World.grownBy.cell hG c0 (fun h => NC.out (Option.some.inj h).symm)); have c1' := (World.grownBy.cell hG c1 (fun h => NC.out (Option.some.inj h).symm)); have d0' := (World.grownBy.cell hG d0 (fun h => ND.out (Option.some.inj h).symm)); have d1' := (World.grownBy.cell hG d1 (fun h => ND.out (Option.some.inj h).symm)); clear hI hG))
  all_goals
    go_wp2
    go_ret
    refine ⟨rfl, ?_, ?_⟩
    · have h1 := q4.out.1
      have h2 := q3.out
      rw [HSX.out, HSY.out] at h2
      rw [sgn_self, sgn_self] at h2
      rw [h2] at h1
      exact h1
    · exact grownBy_trans (grownBy_of_below (Below.drew (Below.refl w.heap.size w)) (Nat.le_refl _) _) (grownBy_trans (grownBy_of_below q1.out (Nat.le_refl _) _) q4.out.2)

end Go.Proofs.YthoiikkjjaldnaaGreatDoor

/- The walks of div (short numbers), QuoRem, DivMod, Div. -/
namespace Go.Proofs.YthoiikkjjaldnaaGreatDoor
set_option linter.unusedVariables false
set_option linter.unusedSimpArgs false
set_option maxRecDepth 100000
open Go.RowKit

/-- What div answers. -/
def DivGives (w : World) (q r : Nat) (e : Ending) (w' : World) : Prop := ∃ v1 v2, e = .returned (.tuple #[v1, v2]) ∧ Nm w' v1 q ∧ Nm w' v2 r ∧ Below w.heap.size w w'

theorem Nm.drewN {w : World} {v : Value} {n : Nat} (h : Nm w v n) (k : Nat) : Nm (w.drewN k) v n := h.below (B := w.heap.size) ⟨rfl, rfl, rfl, Nat.le_refl _, fun _ _ => rfl⟩ (Nat.le_refl _)

set_option maxRecDepth 100000 in
set_option maxHeartbeats 2000000 in
theorem div_short (w : World) (va vb : Value) (a b : Nat) (ha : Nm w va a) (hb : Nm w vb b) (hb0 : b ≠ 0) (hlim : a < 18446744073709551616) (sb : Sm b) :
    Calls Tryz.prog 196 #[va, vb] w (DivGives w (a / b) (a % b)) := by
  have sa : Sm a := sm_of_lt (by omega)
  have HA := hid ha
  have HB := hid hb
  obtain ⟨ao, an, ac, ua, hva, hra, hta, hna, hla⟩ := ha.len sa
  obtain ⟨bo, bn, bc, ub, hvb, hrb, htb, hnb, hlb⟩ := hb.len sb
  have han : an ≤ 2 := by
    rw [← hra.len]; exact len_le_of_lt hta (n := 2) (by rw [hna]; simpa using hlim)
  have hbn : bn ≠ 0 := by
    intro h; subst h
    have : ub = [] := List.length_eq_zero_iff.1 hrb.len
    subst this; exact hb0 (by rw [← hnb]; rfl)
  have hbz : ((bn : Int) == 0) = false := by rw [beq_eq_false_iff_ne]; omega
  have K := hid (cmp_nm w va vb a b ha hb sa sb)
  have T := hid (fun k => twin_nm (w.drewN k) va a (ha.drewN k) sa)
  by_cases hlt : a < b
  · have hc : cmpN a b < 0 := by rw [cmpN_lt hlt]; decide
    have FIN := hid (fun (k : Nat) (v : Value) (w1 : World) (hnm : Nm w1 v a) (hbel : Below (w.drewN k).heap.size (w.drewN k) w1) =>
      show DivGives w (a / b) (a % b) (.returned (.tuple #[.slice none 0 0, v])) w1 from
        ⟨_, _, rfl, by rw [Nat.div_eq_of_lt hlt]; exact Nm.nil w1, by rw [Nat.mod_eq_of_lt hlt]; exact hnm, Below.trans (b := w.drewN k) ⟨rfl, rfl, rfl, Nat.le_refl _, fun _ _ => rfl⟩ hbel⟩)
    clear ha hb hra hta hna hrb htb hnb sa sb hlt hla hlb hb0 hlim
    subst hva hvb
    go_enter Tryz.func196, Tryz.ntmps196
    go_wp2_with (first
      | (go_at_call 152; refine K.out.mono ?_; rintro e w1 ⟨rfl, k, rfl⟩)
      | (go_at_call 204; refine (T.out _).mono ?_; rintro e w1 ⟨⟨v1, rfl, hnm⟩, hbel⟩; have q1 := hid hnm; have q2 := hid hbel; clear hnm hbel))
    go_ret2
    exact FIN.out _ _ _ q1.out q2.out
  · have hc : 0 ≤ cmpN a b := by
      unfold cmpN
      repeat' split
      all_goals omega
    have hblim : b < 18446744073709551616 := by omega
    have PA := hid (fun k => plain_any (w.drewN k) va a (ha.drewN k) hlim)
    have PB := hid (fun k => plain_any (w.drewN k) vb b (hb.drewN k) hblim)
    have hbne : ¬ (b : Int) = 0 := by omega
    have hq0 : (0 : Int) ≤ (a : Int) / b := Int.ediv_nonneg (by omega) (by omega)
    have hq1 : (a : Int) / b ≤ 18446744073709551615 := by
      have := Int.ediv_le_self (b : Int) (a := (a : Int)) (by omega); omega
    have hr0 : (0 : Int) ≤ (a : Int) % b := Int.emod_nonneg _ (by omega)
    have hr1 : (a : Int) % b ≤ 18446744073709551615 := by
      have := Int.emod_lt_of_pos (a : Int) (b := (b : Int)) (by omega); omega
    have hqt : ((a : Int) / b).toNat = a / b := by rw [show ((a : Int) / b) = ((a / b : Nat) : Int) from by simp]; exact Int.toNat_natCast _
    have hrt : ((a : Int) % b).toNat = a % b := by rw [show ((a : Int) % b) = ((a % b : Nat) : Int) from by simp]; exact Int.toNat_natCast _
    have HQT := hid hqt
    have HRT := hid hrt
    clear ha hb hra hta hna hrb htb hnb sa sb hlt hla hlb hb0 hqt hrt
    subst hva hvb
    go_enter Tryz.func196, Tryz.ntmps196
    go_wp2_with fail
    refine K.out.mono ?_
    rintro e w1 ⟨rfl, k, rfl⟩
    go_wp2_with fail
    refine (PA.out _).mono ?_
    rintro e w1 ⟨rfl, rfl⟩
    go_wp2_with fail
    refine (PB.out _).mono ?_
    rintro e w1 ⟨rfl, rfl⟩
    go_wp2_with fail
    have hw1 : IntKind.u64.wrap ((a : Int) / b) = (a : Int) / b := by
      rw [u64_wrap]; omega
    have hw2 : (a : Int).tmod b = (a : Int) % b := Int.tmod_eq_emod_of_nonneg (by omega)
    have hw3 : (a : Int).tdiv b = (a : Int) / b := Int.tdiv_eq_ediv_of_nonneg (by omega)
    have FIN := hid (fun (w0 w1 w2 : World) (v1 v2 : Value) (h0 : Below w.heap.size w w0) (h1 : Nm w1 v1 ((a : Int) / b).toNat) (h2 : Below w0.heap.size w0 w1) (h3 : Nm w2 v2 ((a : Int) % b).toNat) (h4 : Below w1.heap.size w1 w2) =>
      show DivGives w (a / b) (a % b) (.returned (.tuple #[v1, v2])) w2 from
        ⟨_, _, rfl, by rw [HQT.out] at h1; exact h1.below h4 (Nat.le_refl _), by rw [HRT.out] at h3; exact h3, (h0.trans (h2.mono h0.size)).trans (h4.mono (Nat.le_trans h0.size h2.size))⟩)
    have tok1 : True := trivial
    go_region_with (first
      | (go_at_call 146; have _t := tok1; refine (words_any _ _ (by first | exact hq0 | exact hr0) (by first | exact hq1 | exact hr1)).mono ?_; rintro e w1 ⟨⟨v1, rfl, hnm⟩, hbel⟩; have q1 := hid hnm; have q2 := hid hbel; clear hnm hbel tok1 _t)
      | (go_at_call 146; refine (words_any _ _ (by first | exact hq0 | exact hr0) (by first | exact hq1 | exact hr1)).mono ?_; rintro e w2 ⟨⟨v2, rfl, hnm⟩, hbel⟩; have q3 := hid hnm; have q4 := hid hbel; clear hnm hbel))
    all_goals
      go_wp2
      go_ret2
      exact FIN.out ((w.drewN k).drew) w1 w2 _ _ ⟨rfl, rfl, rfl, Nat.le_refl _, fun _ _ => rfl⟩ q1.out q2.out q3.out q4.out
end Go.Proofs.YthoiikkjjaldnaaGreatDoor

/- The walks of small, and of div where it has one word below. -/
namespace Go.Proofs.YthoiikkjjaldnaaGreatDoor
set_option linter.unusedVariables false
set_option linter.unusedSimpArgs false
set_option maxRecDepth 100000
open Go.RowKit

/-- What small answers. -/
def SmGives (w : World) (q r : Nat) (e : Ending) (w' : World) : Prop := ∃ v, e = .returned (.tuple #[v, .int .u32 (r : Nat)]) ∧ Nm w' v q ∧ Below w.heap.size w w'

structure SmInv (w wr : World) (an : Nat) (ua : List Nat) (d k r : Nat) (rs : List Nat) : Prop where
  len : rs.length = an
  ok : wok rs
  lt : r < d
  val : wv (ua.drop k) = d * wv (rs.drop k) + r
  own : wr.ownsRow w.heap.size 172 1 (.slice (some ⟨w.heap.size, 0, none⟩) an an) an (W32 rs)
  bel : Below w.heap.size w wr

theorem drop_set_succ (l : List Nat) (k x : Nat) (h : k < l.length) : (l.set k x).drop k = x :: l.drop (k + 1) := by
  rw [List.set_eq_take_append_cons_drop, if_pos h, List.drop_append, List.drop_of_length_le (by rw [List.length_take]; omega), List.length_take, Nat.min_eq_left (by omega)]
  simp

theorem SmInv.step {w wr : World} {an : Nat} {ua : List Nat} {d k r : Nat} {rs : List Nat} (h : SmInv w wr an ua d (k + 1) r rs) (hk : k < an) (hl : ua.length = an) (hd : d < 4294967296) (hxa : ua.getD k 0 < 4294967296) :
    SmInv w (wr.setCell ⟨w.heap.size, k, none⟩ (.int .u32 (((r * 4294967296 + ua.getD k 0) / d : Nat) : Int))) an ua d k ((r * 4294967296 + ua.getD k 0) % d) (rs.set k ((r * 4294967296 + ua.getD k 0) / d)) ∧ (r * 4294967296 + ua.getD k 0) / d < 4294967296 := by
  have hrl := h.len
  have hlt := h.lt
  have hq : (r * 4294967296 + ua.getD k 0) / d < 4294967296 := by
    rw [Nat.div_lt_iff_lt_mul (by omega)]
    have := Nat.mul_le_mul_right 4294967296 (show r + 1 ≤ d by omega)
    rw [Nat.mul_comm 4294967296 d]
    omega
  refine ⟨⟨by simpa using h.len, wok_set h.ok k hq, Nat.mod_lt _ (by omega), ?_, ?_, h.bel.setCell (Nat.le_refl _) _⟩, hq⟩
  · rw [drop_set_succ _ _ _ (by omega), drop_getD ua k (by omega), wv, wv, h.val]
    have h1 := Nat.div_add_mod (r * 4294967296 + ua.getD k 0) d
    generalize ua.getD k 0 = x at *
    generalize wv (rs.drop (k + 1)) = W at *
    generalize (r * 4294967296 + x) / d = Q at *
    generalize (r * 4294967296 + x) % d = R at *
    rw [Nat.mul_add, Nat.mul_add]
    have h2 : 4294967296 * (d * W) = d * (4294967296 * W) := by rw [← Nat.mul_assoc, Nat.mul_comm 4294967296 d, Nat.mul_assoc]
    rw [h2]
    omega
  · have := (h.own.stored k (.int .u32 (((r * 4294967296 + ua.getD k 0) / d : Nat) : Int))).1
    rwa [W32_set] at this

theorem small_or {r x : Nat} (hr : r < 4294967296) (hx : x < 4294967296) : bits BinOp.or IntKind.u64 ((r : Int) * 4294967296) (x : Int) = ((r * 4294967296 + x : Nat) : Int) := by
  rw [show ((r : Int) * 4294967296) = ((r * 4294967296 : Nat) : Int) from by omega, u64_or_nat _ _ (by omega) (by omega),
    nat_join 32 _ _ (by omega) (by omega)]

set_option maxRecDepth 100000 in
set_option maxHeartbeats 2000000 in
theorem small_any (w : World) (ao : Option Addr) (an ac : Nat) (ua : List Nat) (d : Nat) (ha : Rd w ao an ac ua) (hn : an ≤ 64) (h0 : 0 < d) (hd : d < 4294967296) :
    Calls Tryz.prog 206 #[.slice ao an ac, .int .u32 (d : Nat)] w (SmGives w (wv ua / d) (wv ua % d)) := by
  obtain ⟨i0, hi, hz0, hz1, hz2⟩ := info_parts info32
  have HA := hid ha
  have HD := hid (And.intro h0 hd)
  have hdn : ¬ (d : Int) = 0 := by omega
  have hd0 : (0 : Int) < d := by omega
  clear ha h0
  go_enter Tryz.func206, Tryz.ntmps206
  go_wp2_with (first
    | (at_make; refine wpList_make_full _ rfl _ _ 78 rfl w.heap.size 172 i0 (.int .u32 0) 1 Tryz.underlying78 hi hz0 hz1 _ _ _ _ an rfl rfl (by simp) (by simp) (by rw [hz2]; omega) (by unfold maxLen; omega) (Nat.le_refl _) ?_; intro w1 hown hgrow)
    )
  rw [make32] at hown
  have inv0 : SmInv w w1 an ua d an 0 (List.replicate an 0) := ⟨by simp, wok_replicate _, HD.out.1, by rw [List.drop_of_length_le (by rw [HA.out.len]; omega), List.drop_of_length_le (by simp)]; simp [wv], hown, (Below.refl _ _).grown hgrow (Nat.le_refl _) (fun k h => by cases h)⟩
  clear hown hgrow
  go_loopw [7, 8] (fun rv iv wr => ∃ (k r : Nat) (rs : List Nat), k ≤ an ∧ iv = .int .i64 ((k : Int) - 1) ∧ rv = .int .u64 r ∧ r < 4294967296 ∧ SmInv w wr an ua d k r rs) (fun _ iv _ => (intOf iv + 1).toNat)
  case atStart => exact ⟨an, 0, _, by omega, by first | rfl | simp, rfl, by omega, inv0⟩
  case round =>
    clear inv0 w1
    obtain ⟨k, r, rs, hk, rfl, rfl, hr, inv⟩ := hrel
    by_cases hka : 0 < k
    · obtain ⟨j, rfl⟩ : ∃ j, k = j + 1 := ⟨k - 1, by omega⟩
      rw [show (((j + 1 : Nat) : Int) - 1) = (j : Int) from by omega]
      have hcr : ∃ v, wr.cell? ⟨w.heap.size, j, none⟩ = some v := by
        rw [inv.own.cellAt j (by omega)]
        exact ⟨_, List.getElem?_eq_getElem (by simp [W32, inv.len]; omega)⟩
      have hfr := inv.own.frozenAt j
      obtain ⟨v0, hcr⟩ := hcr
      have INV := hid inv
      clear inv
      obtain ⟨g, off, rfl⟩ := HA.out.addr (by omega)
      have hca := (HA.out.below INV.out.bel (Nat.le_refl _)).cell j (by omega)
      have hra := wok_getD HA.out.ok j
      have ST := hid (INV.out.step (by omega) HA.out.len hd hra)
      generalize hxa : ua.getD j 0 = xa at hca hra ST
      clear hxa
      have eor := small_or hr hra
      obtain ⟨X, hX⟩ : ∃ X, X = r * 4294967296 + xa := ⟨_, rfl⟩
      rw [← hX] at ST eor
      have hX1 : X < 18446744073709551616 := by omega
      have eq1 : (X : Int) / d = ((X / d : Nat) : Int) := by simp
      have eq2 : (X : Int) % d = ((X % d : Nat) : Int) := by simp
      have hQ := ST.out.2
      have hR : X % d < 4294967296 := by have := Nat.mod_lt X HD.out.1; omega
      have HX := hid hX
      clear hX hka
      generalize X / d = Q at *
      generalize X % d = R at *
      go_wp2
      go_roundw
      case rel => exact ⟨j, R, _, by omega, by first | rfl | simp, by first | rfl | (rw [eq2]) | (simp [eq2]), hR, ST.out.1⟩
      case measure => simp [intOf] <;> omega
    · obtain rfl : k = 0 := by omega
      have INV := hid inv
      have hval := inv.val
      have hlt := inv.lt
      simp only [List.drop_zero] at hval
      have e1 : wv ua / d = wv rs := by
        rw [hval]
        rw [Nat.mul_add_div (by omega), Nat.div_eq_of_lt hlt, Nat.add_zero]
      have e2 : wv ua % d = r := by
        rw [hval, Nat.mul_add_mod, Nat.mod_eq_of_lt hlt]
      have E := hid (And.intro e1 e2)
      clear inv hval hlt e1 e2
      go_wp2_with (go_at_call 151; refine (trim_own _ w.heap.size _ an rs INV.out.own INV.out.ok).mono ?_; rintro e w' ⟨⟨v', rfl, hnm⟩, rfl⟩)
      go_ret2
      exact ⟨v', by rw [E.out.2]; first | rfl | simp, by rw [E.out.1]; exact hnm, INV.out.bel⟩

theorem Nm.one_word (w : World) (r : Nat) (h : r < 4294967296) : ∀ c, (w.alloc (.cells #[.int .u32 (r : Nat)] 172)).ownsRow c 172 1 (.slice (some ⟨w.heap.size, 0, none⟩) 1 1) 1 (W32 [r]) ∨ ¬ c ≤ w.heap.size := fun c => by
  by_cases hc : c ≤ w.heap.size
  · exact .inl (World.ownsRow_lit (base := c) (e := 172) (size := 1) w #[.int .u32 (r : Nat)] 1 hc (by unfold maxLen; omega) rfl)
  · exact .inr hc

set_option maxRecDepth 100000 in
set_option maxHeartbeats 2000000 in
theorem div_one (w : World) (va vb : Value) (a b : Nat) (ha : Nm w va a) (hb : Nm w vb b) (hb0 : b ≠ 0) (hlim : ¬ a < 18446744073709551616) (hb1 : b < 4294967296) (sa : Sm a) :
    Calls Tryz.prog 196 #[va, vb] w (DivGives w (a / b) (a % b)) := by
  have sb : Sm b := sm_of_lt (by omega)
  have HA := hid ha
  have HB := hid hb
  obtain ⟨ao, an, ac, ua, hva, hra, hta, hna, hla⟩ := ha.len sa
  obtain ⟨bo, bn, bc, ub, hvb, hrb, htb, hnb, hlb⟩ := hb.len sb
  have han : 2 < an := by
    have h1 := wv_lt hra.ok
    rw [hra.len, hna] at h1
    by_cases hc : 2 < an
    · exact hc
    · have h2 : (4294967296 : Nat) ^ an ≤ 4294967296 ^ 2 := Nat.pow_le_pow_right (by decide) (by omega)
      omega
  have hbn1 : bn ≤ 1 := by rw [← hrb.len]; exact len_le_of_lt htb (n := 1) (by rw [hnb]; simpa using hb1)
  obtain ⟨y, rfl⟩ : ∃ y, ub = [y] := by
    match ub, hrb.len, hnb with
    | [], h, hn => exact absurd hn.symm hb0
    | [y], _, _ => exact ⟨y, rfl⟩
    | y :: z :: l, h, _ => simp at h; omega
  obtain rfl : bn = 1 := by simpa using hrb.len.symm
  obtain rfl : y = b := by simpa [wv] using hnb
  obtain ⟨g, off, rfl⟩ := hrb.addr (by omega)
  have hcb := hrb.cell 0 (by omega)
  simp at hcb
  have K := hid (cmp_nm w va vb a y ha hb sa sb)
  have hc : 0 ≤ cmpN a y := by
    unfold cmpN
    repeat' split
    all_goals omega
  have SM := hid (fun k => small_any (w.drewN k) ao an ac ua y (hra.below (below_drN w k) (Nat.le_refl _)) (by omega) (by omega) hb1)
  have hrr : a % y < 4294967296 := by have := Nat.mod_lt a (show 0 < y by omega); omega
  rw [hna] at SM
  have HR := hid hrr
  have HB0 := hid hb0
  clear ha hb hra hta hna hrb htb hnb sa sb hla hlb hb0 hlim hrr hbn1
  subst hva hvb
  go_enter Tryz.func196, Tryz.ntmps196
  go_wp2_with fail
  refine K.out.mono ?_
  rintro e w1 ⟨rfl, k, rfl⟩
  go_wp2_with fail
  refine (SM.out k).mono ?_
  rintro e w1 ⟨v1, rfl, hn1, hB1⟩
  have N1 := hid hn1
  have B1 := hid (show Below w.heap.size w w1 from Below.trans (b := w.drewN k) ⟨rfl, rfl, rfl, Nat.le_refl _, fun _ _ => rfl⟩ hB1)
  have hO := (Nm.one_word w1 (a % y) HR.out w1.heap.size).resolve_right (by simp)
  have OW := hid hO
  clear hn1 hB1 hO
  go_wp2_with fail
  refine (trim_own _ w1.heap.size _ 1 [a % y] OW.out (by intro x hx; simp at hx; subst hx; exact HR.out)).mono ?_
  rintro e w2 ⟨⟨v2, rfl, hn2⟩, rfl⟩
  have N2 := hid hn2
  clear hn2
  go_wp2
  go_ret2
  refine ⟨_, _, rfl, N1.out.below ((Below.refl _ _).alloc (Nat.le_refl _) _) (Nat.le_refl _), ?_, B1.out.trans ((((Below.refl _ w1).alloc (Nat.le_refl _) _)).mono B1.out.size)⟩
  have := N2.out
  simpa [wv] using this

theorem div_any (w : World) (va vb : Value) (a b : Nat) (ha : Nm w va a) (hb : Nm w vb b) (hb0 : b ≠ 0) (hlim : a < 18446744073709551616 ∨ b < 4294967296) (sa : Sm a) (sb : Sm b) :
    Calls Tryz.prog 196 #[va, vb] w (DivGives w (a / b) (a % b)) := by
  by_cases h : a < 18446744073709551616
  · exact div_short w va vb a b ha hb hb0 h sb
  · exact div_one w va vb a b ha hb hb0 h (by omega) sa
end Go.Proofs.YthoiikkjjaldnaaGreatDoor

/- The walks of QuoRem, DivMod, Div (short numbers). -/
namespace Go.Proofs.YthoiikkjjaldnaaGreatDoor
set_option linter.unusedVariables false
set_option linter.unusedSimpArgs false
set_option maxRecDepth 100000
open Go.RowKit

/-- What QuoRem and DivMod answer: q in block b, r in block m. -/
def GivesTwo (w : World) (b m : Nat) (q r : Int) (e : Ending) (w' : World) : Prop :=
  e = .returned (.tuple #[.pointer (some ⟨b, 0, none⟩), .pointer (some ⟨m, 0, none⟩)]) ∧ IntAt w' b q ∧ IntAt w' m r ∧ ∃ w1, w.grownBy w1 (some b) ∧ w1.grownBy w' (some m)

theorem sgn_tdiv (x y : Int) : sgn (!(decide (x < 0) == decide (y < 0))) (x.natAbs / y.natAbs) = x.tdiv y := by
  unfold sgn
  rcases Int.natAbs_eq x with hx | hx <;> rcases Int.natAbs_eq y with hy | hy
  all_goals
    generalize x.natAbs = a at *
    generalize y.natAbs = b at *
    subst hx hy
    try simp only [Int.neg_tdiv, Int.tdiv_neg, Int.neg_neg]
    have e : ((a : Int).tdiv b) = ((a / b : Nat) : Int) := by rw [Int.tdiv_eq_ediv_of_nonneg (by omega)]; simp
    rw [e]
    by_cases ha : a = 0
    · subst ha; simp
    · by_cases hb : b = 0
      · subst hb; simp
      · simp <;> (try omega)
        try (split <;> omega)

theorem sgn_tmod (x y : Int) : sgn (decide (x < 0)) (x.natAbs % y.natAbs) = x.tmod y := by
  unfold sgn
  rcases Int.natAbs_eq x with hx | hx <;> rcases Int.natAbs_eq y with hy | hy
  all_goals
    generalize x.natAbs = a at *
    generalize y.natAbs = b at *
    subst hx hy
    try simp only [Int.neg_tmod, Int.tmod_neg, Int.neg_neg]
    have e : ((a : Int).tmod b) = ((a % b : Nat) : Int) := by rw [Int.tmod_eq_emod_of_nonneg (by omega)]; simp
    rw [e]
    by_cases ha : a = 0
    · subst ha; simp
    · simp <;> (try omega)
      try (split <;> omega)

set_option maxHeartbeats 2000000 in
theorem QuoRem_any (w : World) (b c d m : Nat) (x y : Int) (hb : IntBlk w b) (hc : IntAt w c x) (hd : IntAt w d y) (hm : IntBlk w m) (hbm : b ≠ m)
    (hx : x.natAbs < 18446744073709551616 ∨ y.natAbs < 4294967296) (hy : y ≠ 0) (sx : Sm x.natAbs) (sy : Sm y.natAbs) :
    Calls Tryz.prog 170 #[.pointer (some ⟨b, 0, none⟩), .pointer (some ⟨c, 0, none⟩), .pointer (some ⟨d, 0, none⟩), .pointer (some ⟨m, 0, none⟩)] w (GivesTwo w b m (x.tdiv y) (x.tmod y)) := by
  obtain ⟨vx, h0, h1, hvx⟩ := hc.cells
  obtain ⟨vy, k0, k1, hvy⟩ := hd.cells
  obtain ⟨s, hs⟩ : ∃ s, s = decide (x < 0) := ⟨_, rfl⟩
  rw [← hs] at h0
  obtain ⟨t, ht⟩ : ∃ t, t = decide (y < 0) := ⟨_, rfl⟩
  rw [← ht] at k0
  have D0 := hid (fun n => div_any (w.drewN n) vx vy x.natAbs y.natAbs (hvx.drewN n) (hvy.drewN n) (by omega) hx sx sy)
  have FIN := hid (fun (n : Nat) (w1 w2 w3 : World) (v2 : Value) (_ : Nm w1 v2 (x.natAbs % y.natAbs)) (hB : Below (w.drewN n).heap.size (w.drewN n) w1) (hI : IntAt w2 b (sgn (!(s == t)) (x.natAbs / y.natAbs))) (hG : w1.grownBy w2 (some b)) (hJ : IntAt w3 m (sgn s (x.natAbs % y.natAbs))) (hK : w2.grownBy w3 (some m)) (hbl : IntBlk w2 m) =>
    show GivesTwo w b m (x.tdiv y) (x.tmod y) (.returned (.tuple #[.pointer (some ⟨b, 0, none⟩), .pointer (some ⟨m, 0, none⟩)])) w3 from
      ⟨rfl, by subst hs ht; rw [sgn_tdiv] at hI; exact hI.kept hbl hK hbm, by subst hs ht; rw [sgn_tmod] at hJ; exact hJ, w2, grownBy_trans (grownBy_of_below (show Below w.heap.size w w1 from Below.trans (b := w.drewN n) ⟨rfl, rfl, rfl, Nat.le_refl _, fun _ _ => rfl⟩ hB) (Nat.le_refl _) _) hG, hK⟩)
  have HB := hid hb
  have HM := hid hm
  have HBM := hid hbm
  have hlc := hc.lt
  have hld := hd.lt
  clear hvx hvy hc hd hs ht hb hm hbm hy hx sx
  go_enter Tryz.func170, Tryz.ntmps170
  go_wp2
  go_quiet (fail)
  go_wp2_with fail
  go_region_with (go_at_call 196; refine (D0.out _).mono ?_; rintro e w1 ⟨v1, v2, rfl, hn1, hn2, hB⟩; have q1 := hid hn1; have q2 := hid hn2; have q3 := hid hB; clear hn1 hn2 hB)
  all_goals
    have HW := hid (show Below w.heap.size w w1 from Below.trans (b := w.drewN _) ⟨rfl, rfl, rfl, Nat.le_refl _, fun _ _ => rfl⟩ q3.out)
    go_wp2_with fail
    refine (give_any _ b _ v1 _ (HB.out.below HW.out (Nat.le_refl _)) q1.out).mono ?_
    rintro e w2 ⟨rfl, hI, hG⟩
    have q4 := hid hI
    have q5 := hid hG
    have q6 := hid (IntBlk.kept (HM.out.below HW.out (Nat.le_refl _)) hG (fun h => HBM.out h.symm))
    have q7 := hid (q2.out.kept (HB.out.below HW.out (Nat.le_refl _)) hG)
    clear hI hG
    go_wp2_with fail
    refine (give_any _ m _ v2 _ q6.out q7.out).mono ?_
    rintro e w3 ⟨rfl, hJ, hK⟩
    have q8 := hid hJ
    have q9 := hid hK
    clear hJ hK
    go_wp2
    go_ret2
    exact FIN.out _ _ _ _ _ q2.out q3.out q4.out q5.out q8.out q9.out q6.out

theorem grownBy_new {w w' : World} {m : Nat} (h : w.grownBy w' (some m)) (hm : w.heap.size ≤ m) (row : Option Nat) : w.grownBy w' row :=
  ⟨h.os, h.tape, h.output, h.size, fun k hk _ => h.block k hk (by simp; omega)⟩

theorem tdiv_of_nonneg_rem {x y : Int} (hy : 0 < y) (h : ¬ x.tmod y < 0) : x.tdiv y = x / y := by
  have h1 := Int.mul_tdiv_add_tmod x y
  have h2 : x.tmod y < y := Int.tmod_lt_of_pos x hy
  symm
  rw [Int.ediv_eq_iff_of_pos hy]
  generalize x.tdiv y = q at *
  generalize x.tmod y = r at *
  have e1 : q * y = y * q := Int.mul_comm _ _
  have e2 : (q + 1) * y = y * q + y := by rw [Int.add_mul, Int.one_mul, Int.mul_comm]
  first
    | (rw [e1, e2]; omega)
    | (constructor <;> (first | rw [e1] | rw [e2] | skip) <;> omega)

theorem tdiv_of_neg_rem {x y : Int} (hy : 0 < y) (h : x.tmod y < 0) : x.tdiv y - 1 = x / y := by
  have h1 := Int.mul_tdiv_add_tmod x y
  have h2 : -y < x.tmod y := Int.lt_tmod_of_pos x hy
  symm
  rw [Int.ediv_eq_iff_of_pos hy]
  generalize x.tdiv y = q at *
  generalize x.tmod y = r at *
  have e1 : (q - 1) * y = y * q - y := by rw [Int.sub_mul, Int.one_mul, Int.mul_comm]
  have e2 : (q - 1 + 1) * y = y * q := by rw [Int.sub_add_cancel, Int.mul_comm]
  first
    | (rw [e1, e2]; omega)
    | (constructor <;> (first | rw [e1] | rw [e2] | skip) <;> omega)
end Go.Proofs.YthoiikkjjaldnaaGreatDoor
