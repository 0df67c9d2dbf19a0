/- Texts that the law rests on, laid together: NoiseW, NoiseR, LevM, LpcM, DownK, GrownW, SliceW, MakeI, PastM, PastW, CopyI, KeepW, NzW, KeepR, Memo, GoodW, GoodR, SilW, PastR, MxW, FadeW. -/
import Derived.Test.YthoiikkjjaldnaaGreatDoorZ203080
import Derived.Test.YthoiikkjjaldnaaGreatDoorZ073122
import Derived.Test.YthoiikkjjaldnaaGreatDoorBigMulO
import Derived.WalkKit
import Derived.Test.YthoiikkjjaldnaaGreatDoorZ685a03
import Derived.IntWalk
import Derived.BigQuiet
import Derived.Deep.QuietTactic
import Derived.Laws.CopyOwn
import Derived.Deep.RegionLaw
import Derived.Deep.MidRow
/- The walks of Noise, the program's and the reference's, and of the law GainNoises. -/
namespace Go.Proofs.YthoiikkjjaldnaaGreatDoor
set_option linter.unusedVariables false
set_option linter.unusedSimpArgs false
set_option maxRecDepth 100000
open Go.RowKit

theorem and16 (x : Int) : bits BinOp.and IntKind.i64 x 65535 = x % 65536 := by
  have h : (BitVec.ofInt 64 x &&& BitVec.ofInt 64 65535).toNat = (x % 65536).toNat := by
    rw [BitVec.toNat_and, BitVec.toNat_ofInt, show (BitVec.ofInt 64 65535).toNat = 2 ^ 16 - 1 from by decide, Nat.and_two_pow_sub_one_eq_mod]
    omega
  show IntKind.i64.wrap ((BitVec.ofInt 64 x &&& BitVec.ofInt 64 65535).toNat : Int) = _
  rw [h]
  simp only [IntKind.wrap, IntKind.signed, IntKind.bits]
  simp
  omega

def nzS (s : Int) : Int := (s * 31821 + 13849) % 65536
def nzZ (z : Int) : Int := min (max z 0) 32767
def nzX (s z : Int) : Int := (nzS s - 32768) * nzZ z / 32768
theorem nzS_range (s : Int) : 0 ≤ nzS s ∧ nzS s ≤ 65535 := by unfold nzS; omega
theorem nzZ_range (z : Int) : 0 ≤ nzZ z ∧ nzZ z ≤ 32767 := by unfold nzZ; omega
theorem nz_prod {a b : Int} (h1 : 0 ≤ a) (h2 : a ≤ 65535) (h3 : 0 ≤ b) (h4 : b ≤ 32767) : -2147483648 ≤ (a - 32768) * b ∧ (a - 32768) * b ≤ 2147483648 := by
  have h5 : (a - 32768) * b ≤ 32767 * b := Int.mul_le_mul_of_nonneg_right (by omega) h3
  have h6 : -32768 * b ≤ (a - 32768) * b := Int.mul_le_mul_of_nonneg_right (by omega) h3
  omega
theorem nz_wrap (s : Int) : bits BinOp.and IntKind.i64 (wrap64 (wrap64 (s * 31821) + 13849)) 65535 = nzS s := by
  rw [and16]
  unfold nzS wrap64
  omega
/-- What Noise answers. -/
def Noises (w : World) (s z : Int) (e : Ending) (w' : World) : Prop := e = .returned (.tuple #[.int .i64 (nzS s), .int .i64 (nzX s z)]) ∧ Below w.heap.size w w'

set_option maxHeartbeats 1000000 in
theorem noise_any (s z : Int) (w : World) : Calls Tryz.prog 187 #[.int .i64 s, .int .i64 z] w fun e w' => e = .returned (.tuple #[.int .i64 (nzS s), .int .i64 (nzX s z)]) ∧ w = w' := by
  have hw := nz_wrap s
  have hr := nzS_range s
  have HX := hid (show nzX s z = (nzS s - 32768) * nzZ z / 32768 from rfl)
  generalize nzS s = y at *
  obtain ⟨h1, h2⟩ := hr
  rcases (show (z < 0 ∧ nzZ z = 0) ∨ (0 ≤ z ∧ z ≤ 32767 ∧ nzZ z = z) ∨ (32767 < z ∧ nzZ z = 32767) by unfold nzZ; omega) with ⟨hz, e0⟩ | ⟨hz0, hz1, e0⟩ | ⟨hz, e0⟩
  all_goals
    rw [e0] at HX
    clear e0
  · go_enter Tryz.func187, Tryz.ntmps187
    go_wp2
    go_ret2
    exact ⟨by rw [HX.out]; simp [hw], rfl⟩
  · obtain ⟨m1, m2⟩ := nz_prod h1 h2 hz0 hz1
    go_enter Tryz.func187, Tryz.ntmps187
    go_wp2
    go_ret2
    exact ⟨by rw [HX.out]; simp [hw], rfl⟩
  · go_enter Tryz.func187, Tryz.ntmps187
    go_wp2
    go_ret2
    exact ⟨by rw [HX.out]; simp [hw], rfl⟩
end Go.Proofs.YthoiikkjjaldnaaGreatDoor

/- The walk of the reference's Noise, and of the law GainNoises. -/
namespace Go.Proofs.YthoiikkjjaldnaaGreatDoor
set_option linter.unusedVariables false
set_option linter.unusedSimpArgs false
set_option maxRecDepth 100000
open Go.RowKit

set_option maxHeartbeats 4000000 in
theorem refNoise_any (s z : Int) (w : World) (hs1 : -9223372036854775808 ≤ s) (hs2 : s ≤ 9223372036854775807) : Calls Tryz.prog 188 #[.int .i64 s, .int .i64 z] w (Noises w s z) := by
  have hr := nzS_range s
  have HX := hid (show nzX s z = (nzS s - 32768) * nzZ z / 32768 from rfl)
  have HS := hid (show (s * 31821 + 13849) % 65536 = nzS s from rfl)
  obtain ⟨y, hy⟩ : ∃ y, y = nzS s := ⟨_, rfl⟩
  rw [← hy] at hr HX HS
  have FIN := hid (fun (w1 : World) (v : Int) (hv : v = nzX s z) (hB : Below w.heap.size w w1) => show Noises w s z (.returned (.tuple #[.int .i64 y, .int .i64 v])) w1 from ⟨by rw [hv, hy], hB⟩)
  obtain ⟨h1, h2⟩ := hr
  have HR := hid (show (s * 31821).natAbs < 340282366920938463463374607431768211456 ∧ (s * 31821 + 13849).natAbs < 340282366920938463463374607431768211456 by omega)
  clear hy
  rcases (show (z < 0 ∧ nzZ z = 0) ∨ (0 ≤ z ∧ z ≤ 32767 ∧ nzZ z = z) ∨ (32767 < z ∧ nzZ z = 32767) by unfold nzZ; omega) with ⟨hz, e0⟩ | ⟨hz0, hz1, e0⟩ | ⟨hz, e0⟩
  · skip
    rw [e0] at HX
    clear e0
    go_enter Tryz.func188, Tryz.ntmps188
    go_wp2_with fail
    refine (whole_any _ s hs1 hs2).mono ?_
    rintro e w1 ⟨b1, rfl, hb1, hI, hB⟩
    have Z1 := hid (IntBlk.below (IntBlk.new w (.bool false) (.slice none 0 0)) hB (Nat.le_refl _))
    have I1 := hid hI
    have B1 := hid (((Below.refl _ w).alloc (Nat.le_refl _) (.cells #[.bool false, .slice none 0 0] 80)).trans (hB.mono (by simp)))
    clear hI hB
    go_wp2_with fail
    refine (NewInt_any _ 31821 (by omega) (by omega)).mono ?_
    rintro e w2 ⟨b2, rfl, hb2, hI, hB⟩
    have Z2 := hid (Z1.out.below hB (Nat.le_refl _))
    have X2 := hid (I1.out.below hB (Nat.le_refl _))
    have Y2 := hid hI
    have B2 := hid (B1.out.trans (hB.mono B1.out.size))
    clear hI hB Z1 I1 B1
    go_wp2_with fail
    refine (Mul_any _ w.heap.size b1 b2 s 31821 Z2.out X2.out Y2.out (sm_of_lt (by omega)) (sm_of_lt (by decide))).mono ?_
    rintro e w3 ⟨rfl, hI, hG⟩
    have Z3 := hid hI
    have B3 := hid (below_of_grownBy B2.out hG (Nat.le_refl _))
    clear hI hG Z2 X2 Y2 B2
    go_wp2_with fail
    refine (NewInt_any _ 13849 (by omega) (by omega)).mono ?_
    rintro e w4 ⟨b4, rfl, hb4, hI, hB⟩
    have Z4 := hid (Z3.out.below hB (Nat.le_refl _))
    have Y4 := hid hI
    have B4 := hid (B3.out.trans (hB.mono B3.out.size))
    clear hI hB Z3 B3
    go_wp2_with fail
    refine (Add_any _ w.heap.size w.heap.size b4 (s * 31821) 13849 Z4.out.blk Z4.out Y4.out (sm_of_lt HR.out.1) (sm_of_lt (by decide))).mono ?_
    rintro e w5 ⟨rfl, hI, hG⟩
    have Z5 := hid hI
    have B5 := hid (below_of_grownBy B4.out hG (Nat.le_refl _))
    clear hI hG Z4 Y4 B4
    go_wp2_with fail
    refine (NewInt_any _ 65536 (by omega) (by omega)).mono ?_
    rintro e w6 ⟨b6, rfl, hb6, hI, hB⟩
    have Z6 := hid (Z5.out.below hB (Nat.le_refl _))
    have Y6 := hid hI
    have B6 := hid (B5.out.trans (hB.mono B5.out.size))
    clear hI hB Z5 B5
    go_wp2_with fail
    refine (Mod_any _ w.heap.size w.heap.size b6 (s * 31821 + 13849) 65536 Z6.out.blk Z6.out Y6.out (.inr (by decide)) (sm_of_lt HR.out.2) (by decide) (by decide)).mono ?_
    rintro e w7 ⟨rfl, hI, hG⟩
    rw [HS.out] at hI
    have Z7 := hid hI
    have B7 := hid (below_of_grownBy B6.out hG (Nat.le_refl _))
    clear hI hG Z6 Y6 B6
    go_wp2_with fail
    refine (Int64_any _ w.heap.size y Z7.out (by omega) (by omega)).mono ?_
    rintro e w8 ⟨rfl, rfl⟩
    obtain ⟨m1, m2⟩ := nz_prod (b := 0) h1 h2 (by omega) (by omega)
    have HQ := hid HX.out.symm
    go_wp2_with fail
    refine (down_at _ 15 32768 (nzX s z) _ (by first | exact Int.le_trans (by decide) m1 | omega) (by first | exact Int.le_trans m2 (by decide) | omega) (by omega) (by decide) (by first | exact HQ.out | (have := HQ.out; omega))).mono ?_
    rintro e w9 ⟨rfl, hB⟩
    have B9 := hid (B7.out.trans (hB.mono B7.out.size))
    clear hB
    go_wp2
    go_ret2
    exact FIN.out _ _ rfl B9.out
  · skip
    rw [e0] at HX
    clear e0
    go_enter Tryz.func188, Tryz.ntmps188
    go_wp2_with fail
    refine (whole_any _ s hs1 hs2).mono ?_
    rintro e w1 ⟨b1, rfl, hb1, hI, hB⟩
    have Z1 := hid (IntBlk.below (IntBlk.new w (.bool false) (.slice none 0 0)) hB (Nat.le_refl _))
    have I1 := hid hI
    have B1 := hid (((Below.refl _ w).alloc (Nat.le_refl _) (.cells #[.bool false, .slice none 0 0] 80)).trans (hB.mono (by simp)))
    clear hI hB
    go_wp2_with fail
    refine (NewInt_any _ 31821 (by omega) (by omega)).mono ?_
    rintro e w2 ⟨b2, rfl, hb2, hI, hB⟩
    have Z2 := hid (Z1.out.below hB (Nat.le_refl _))
    have X2 := hid (I1.out.below hB (Nat.le_refl _))
    have Y2 := hid hI
    have B2 := hid (B1.out.trans (hB.mono B1.out.size))
    clear hI hB Z1 I1 B1
    go_wp2_with fail
    refine (Mul_any _ w.heap.size b1 b2 s 31821 Z2.out X2.out Y2.out (sm_of_lt (by omega)) (sm_of_lt (by decide))).mono ?_
    rintro e w3 ⟨rfl, hI, hG⟩
    have Z3 := hid hI
    have B3 := hid (below_of_grownBy B2.out hG (Nat.le_refl _))
    clear hI hG Z2 X2 Y2 B2
    go_wp2_with fail
    refine (NewInt_any _ 13849 (by omega) (by omega)).mono ?_
    rintro e w4 ⟨b4, rfl, hb4, hI, hB⟩
    have Z4 := hid (Z3.out.below hB (Nat.le_refl _))
    have Y4 := hid hI
    have B4 := hid (B3.out.trans (hB.mono B3.out.size))
    clear hI hB Z3 B3
    go_wp2_with fail
    refine (Add_any _ w.heap.size w.heap.size b4 (s * 31821) 13849 Z4.out.blk Z4.out Y4.out (sm_of_lt HR.out.1) (sm_of_lt (by decide))).mono ?_
    rintro e w5 ⟨rfl, hI, hG⟩
    have Z5 := hid hI
    have B5 := hid (below_of_grownBy B4.out hG (Nat.le_refl _))
    clear hI hG Z4 Y4 B4
    go_wp2_with fail
    refine (NewInt_any _ 65536 (by omega) (by omega)).mono ?_
    rintro e w6 ⟨b6, rfl, hb6, hI, hB⟩
    have Z6 := hid (Z5.out.below hB (Nat.le_refl _))
    have Y6 := hid hI
    have B6 := hid (B5.out.trans (hB.mono B5.out.size))
    clear hI hB Z5 B5
    go_wp2_with fail
    refine (Mod_any _ w.heap.size w.heap.size b6 (s * 31821 + 13849) 65536 Z6.out.blk Z6.out Y6.out (.inr (by decide)) (sm_of_lt HR.out.2) (by decide) (by decide)).mono ?_
    rintro e w7 ⟨rfl, hI, hG⟩
    rw [HS.out] at hI
    have Z7 := hid hI
    have B7 := hid (below_of_grownBy B6.out hG (Nat.le_refl _))
    clear hI hG Z6 Y6 B6
    go_wp2_with fail
    refine (Int64_any _ w.heap.size y Z7.out (by omega) (by omega)).mono ?_
    rintro e w8 ⟨rfl, rfl⟩
    obtain ⟨m1, m2⟩ := nz_prod (b := z) h1 h2 (by omega) (by omega)
    have HQ := hid HX.out.symm
    go_wp2_with fail
    refine (down_at _ 15 32768 (nzX s z) _ (by first | exact Int.le_trans (by decide) m1 | omega) (by first | exact Int.le_trans m2 (by decide) | omega) (by omega) (by decide) (by first | exact HQ.out | (have := HQ.out; omega))).mono ?_
    rintro e w9 ⟨rfl, hB⟩
    have B9 := hid (B7.out.trans (hB.mono B7.out.size))
    clear hB
    go_wp2
    go_ret2
    exact FIN.out _ _ rfl B9.out
  · skip
    rw [e0] at HX
    clear e0
    go_enter Tryz.func188, Tryz.ntmps188
    go_wp2_with fail
    refine (whole_any _ s hs1 hs2).mono ?_
    rintro e w1 ⟨b1, rfl, hb1, hI, hB⟩
    have Z1 := hid (IntBlk.below (IntBlk.new w (.bool false) (.slice none 0 0)) hB (Nat.le_refl _))
    have I1 := hid hI
    have B1 := hid (((Below.refl _ w).alloc (Nat.le_refl _) (.cells #[.bool false, .slice none 0 0] 80)).trans (hB.mono (by simp)))
    clear hI hB
    go_wp2_with fail
    refine (NewInt_any _ 31821 (by omega) (by omega)).mono ?_
    rintro e w2 ⟨b2, rfl, hb2, hI, hB⟩
    have Z2 := hid (Z1.out.below hB (Nat.le_refl _))
    have X2 := hid (I1.out.below hB (Nat.le_refl _))
    have Y2 := hid hI
    have B2 := hid (B1.out.trans (hB.mono B1.out.size))
    clear hI hB Z1 I1 B1
    go_wp2_with fail
    refine (Mul_any _ w.heap.size b1 b2 s 31821 Z2.out X2.out Y2.out (sm_of_lt (by omega)) (sm_of_lt (by decide))).mono ?_
    rintro e w3 ⟨rfl, hI, hG⟩
    have Z3 := hid hI
    have B3 := hid (below_of_grownBy B2.out hG (Nat.le_refl _))
    clear hI hG Z2 X2 Y2 B2
    go_wp2_with fail
    refine (NewInt_any _ 13849 (by omega) (by omega)).mono ?_
    rintro e w4 ⟨b4, rfl, hb4, hI, hB⟩
    have Z4 := hid (Z3.out.below hB (Nat.le_refl _))
    have Y4 := hid hI
    have B4 := hid (B3.out.trans (hB.mono B3.out.size))
    clear hI hB Z3 B3
    go_wp2_with fail
    refine (Add_any _ w.heap.size w.heap.size b4 (s * 31821) 13849 Z4.out.blk Z4.out Y4.out (sm_of_lt HR.out.1) (sm_of_lt (by decide))).mono ?_
    rintro e w5 ⟨rfl, hI, hG⟩
    have Z5 := hid hI
    have B5 := hid (below_of_grownBy B4.out hG (Nat.le_refl _))
    clear hI hG Z4 Y4 B4
    go_wp2_with fail
    refine (NewInt_any _ 65536 (by omega) (by omega)).mono ?_
    rintro e w6 ⟨b6, rfl, hb6, hI, hB⟩
    have Z6 := hid (Z5.out.below hB (Nat.le_refl _))
    have Y6 := hid hI
    have B6 := hid (B5.out.trans (hB.mono B5.out.size))
    clear hI hB Z5 B5
    go_wp2_with fail
    refine (Mod_any _ w.heap.size w.heap.size b6 (s * 31821 + 13849) 65536 Z6.out.blk Z6.out Y6.out (.inr (by decide)) (sm_of_lt HR.out.2) (by decide) (by decide)).mono ?_
    rintro e w7 ⟨rfl, hI, hG⟩
    rw [HS.out] at hI
    have Z7 := hid hI
    have B7 := hid (below_of_grownBy B6.out hG (Nat.le_refl _))
    clear hI hG Z6 Y6 B6
    go_wp2_with fail
    refine (Int64_any _ w.heap.size y Z7.out (by omega) (by omega)).mono ?_
    rintro e w8 ⟨rfl, rfl⟩
    obtain ⟨m1, m2⟩ := nz_prod (b := 32767) h1 h2 (by omega) (by omega)
    have HQ := hid HX.out.symm
    go_wp2_with fail
    refine (down_at _ 15 32768 (nzX s z) _ (by first | exact Int.le_trans (by decide) m1 | omega) (by first | exact Int.le_trans m2 (by decide) | omega) (by omega) (by decide) (by first | exact HQ.out | (have := HQ.out; omega))).mono ?_
    rintro e w9 ⟨rfl, hB⟩
    have B9 := hid (B7.out.trans (hB.mono B7.out.size))
    clear hB
    go_wp2
    go_ret2
    exact FIN.out _ _ rfl B9.out

end Go.Proofs.YthoiikkjjaldnaaGreatDoor

/- Plain facts on predictors that grow by reflections, and the recursion that finds the reflections. No program in sight. -/
namespace Go.Proofs.YthoiikkjjaldnaaGreatDoor
set_option linter.unusedVariables false
set_option linter.unusedSimpArgs false
set_option maxRecDepth 100000

/-- The sum of the first n. -/
def sumN (f : Nat → Int) : Nat → Int
  | 0 => 0
  | n + 1 => sumN f n + f n
theorem sumN_congr {f g : Nat → Int} (n : Nat) (h : ∀ i, i < n → f i = g i) : sumN f n = sumN g n := by
  induction n with
  | zero => rfl
  | succ n ih => simp only [sumN]; rw [ih (fun i hi => h i (by omega)), h n (by omega)]
theorem sumN_bound {f : Nat → Int} {B : Int} (n : Nat) (h : ∀ i, i < n → -B ≤ f i ∧ f i ≤ B) : -(B * n) ≤ sumN f n ∧ sumN f n ≤ B * n := by
  induction n with
  | zero => simp [sumN]
  | succ n ih =>
    have h1 := ih (fun i hi => h i (by omega))
    have h2 := h n (by omega)
    have e : B * ((n + 1 : Nat) : Int) = B * (n : Int) + B := by rw [Int.natCast_succ, Int.mul_add, Int.mul_one]
    rw [e]
    simp only [sumN]
    omega

theorem mul_bound {x y X Y : Int} (hX : 0 ≤ X) (hY : 0 ≤ Y) (hx : -X ≤ x ∧ x ≤ X) (hy : -Y ≤ y ∧ y ≤ Y) : -(X * Y) ≤ x * y ∧ x * y ≤ X * Y := by
  have h : (x * y).natAbs ≤ X.natAbs * Y.natAbs := by
    rw [Int.natAbs_mul]
    exact Nat.mul_le_mul (by omega) (by omega)
  have e : ((X.natAbs * Y.natAbs : Nat) : Int) = X * Y := by
    rw [Int.natCast_mul, Int.natAbs_of_nonneg hX, Int.natAbs_of_nonneg hY]
  omega

/-- A predictor of m numbers with one reflection more. -/
def growL (a : List Int) (q : Int) (m : Nat) : List Int := (List.range (m + 1)).map fun i => if i = 0 then a.getD 0 0 else a.getD i 0 + q * a.getD (m - i) 0 / 32768
theorem growL_len (a : List Int) (q : Int) (m : Nat) : (growL a q m).length = m + 1 := by simp [growL]
theorem growL_get (a : List Int) (q : Int) (m i : Nat) (h : i ≤ m) : (growL a q m).getD i 0 = if i = 0 then a.getD 0 0 else a.getD i 0 + q * a.getD (m - i) 0 / 32768 := by
  unfold growL
  rw [List.getD_eq_getElem?_getD, List.getElem?_map, List.getElem?_range (by omega)]
  rfl

/-- All numbers within B. -/
def Within (B : Int) (a : List Int) : Prop := ∀ i, -B ≤ a.getD i 0 ∧ a.getD i 0 ≤ B
theorem Within.grow {B : Int} {a : List Int} {q : Int} {m : Nat} (hB : 0 ≤ B) (h : Within B a) (hq : -32768 ≤ q ∧ q ≤ 32768) : Within (2 * B) (growL a q m) := by
  intro i
  by_cases hi : i ≤ m
  · rw [growL_get a q m i hi]
    have h0 := h 0
    have h1 := h i
    have h2 := h (m - i)
    split
    · omega
    · have h3 := mul_bound (X := 32768) (by omega) hB hq h2
      omega
  · rw [List.getD_eq_getElem?_getD, List.getElem?_eq_none (by rw [growL_len]; omega)]
    simp
    omega

/-- What a step sums. -/
def lacc (a r : List Int) (m : Nat) : Int := sumN (fun i => a.getD i 0 / 512 * r.getD (m - i) 0 / 32768) m
/-- The reflections: so many rounds are to come; m numbers in a; k what has been found. -/
def lev (r : List Int) : Nat → Nat → List Int → Int → List Int → List Int × Int × Bool
  | 0, _, _, e, k => (k, e, true)
  | f + 1, m, a, e, k =>
    if (-lacc a r m * 32768).tdiv e ≤ -32000 ∨ 32000 ≤ (-lacc a r m * 32768).tdiv e then (k, e, false)
    else if e - e * (-lacc a r m * 32768).tdiv e / 32768 * (-lacc a r m * 32768).tdiv e / 32768 ≤ 0 then (k ++ [(-lacc a r m * 32768).tdiv e], 0, false)
    else lev r f (m + 1) (growL a ((-lacc a r m * 32768).tdiv e) m) (e - e * (-lacc a r m * 32768).tdiv e / 32768 * (-lacc a r m * 32768).tdiv e / 32768) (k ++ [(-lacc a r m * 32768).tdiv e])

theorem lev_zero (r : List Int) (m : Nat) (a : List Int) (e : Int) (k : List Int) : lev r 0 m a e k = (k, e, true) := rfl
theorem lev_step (r : List Int) (f m : Nat) (a : List Int) (e : Int) (k : List Int) (q e' : Int) (hq : q = (-lacc a r m * 32768).tdiv e) (he : e' = e - e * q / 32768 * q / 32768) :
    lev r (f + 1) m a e k = if q ≤ -32000 ∨ 32000 ≤ q then (k, e, false) else if e' ≤ 0 then (k ++ [q], 0, false) else lev r f (m + 1) (growL a q m) e' (k ++ [q]) := by
  subst he hq
  rfl

theorem lacc_bound {a r : List Int} {m : Nat} (ha : Within 4294967296 a) (hr : Within 2147483647 r) (hm : m ≤ 8) : -4398046511104 ≤ lacc a r m ∧ lacc a r m ≤ 4398046511104 := by
  have h := sumN_bound (f := fun i => a.getD i 0 / 512 * r.getD (m - i) 0 / 32768) (B := 549755813888) m (fun i hi => by
    have h1 := ha i
    have h2 := hr (m - i)
    have h3 := mul_bound (x := a.getD i 0 / 512) (X := 8388608) (y := r.getD (m - i) 0) (Y := 2147483647) (by omega) (by omega) (by omega) h2
    omega)
  unfold lacc
  have : (549755813888 : Int) * m ≤ 549755813888 * 8 := by omega
  omega

theorem tdiv_bound {x e : Int} (he : 0 < e) : -(x.natAbs : Int) ≤ x.tdiv e ∧ x.tdiv e ≤ x.natAbs := by
  have h : (x.tdiv e).natAbs ≤ x.natAbs := by rw [Int.natAbs_tdiv]; exact Nat.div_le_self _ _
  omega

theorem less_left {e q : Int} (he : 0 ≤ e) : 0 ≤ e * q / 32768 * q / 32768 := by
  have h : 0 ≤ e * q / 32768 * q := by
    rcases Int.le_total 0 q with hq | hq
    · exact Int.mul_nonneg (by have := Int.mul_nonneg he hq; omega) hq
    · have h1 : e * q ≤ 0 := Int.mul_nonpos_of_nonneg_of_nonpos he hq
      have h2 : e * q / 32768 ≤ 0 := by omega
      have h3 : e * q / 32768 * q = (-(e * q / 32768)) * (-q) := by rw [Int.neg_mul_neg]
      rw [h3]
      exact Int.mul_nonneg (by omega) (by omega)
  omega
theorem e_bound {e q : Int} (h0 : 0 < e) (h1 : e ≤ 2147483647) (hq : -32000 < q) (hq2 : q < 32000) :
    (-70368744144896 ≤ e * q ∧ e * q ≤ 70368744144896) ∧ (-70368744144896 ≤ e * q / 32768 * q ∧ e * q / 32768 * q ≤ 70368744144896) ∧ e - e * q / 32768 * q / 32768 ≤ e ∧ -2147483648 ≤ e - e * q / 32768 * q / 32768 := by
  have h2 := mul_bound (x := e) (X := 2147483647) (y := q) (Y := 32000) (by omega) (by omega) (by omega) (by omega)
  have h3 := mul_bound (x := e * q / 32768) (X := 2147483648) (y := q) (Y := 32000) (by omega) (by omega) (by omega) (by omega)
  have h4 := less_left (e := e) (q := q) (by omega)
  omega

/-- Numbers and noughts behind them, n in all. -/
def padTo (n : Nat) (k : List Int) : List Int := k ++ List.replicate (n - k.length) 0
theorem padTo_len {n : Nat} {k : List Int} (h : k.length ≤ n) : (padTo n k).length = n := by simp [padTo]; omega
theorem padTo_get {n : Nat} {k : List Int} (i : Nat) : (padTo n k).getD i 0 = k.getD i 0 := by
  unfold padTo
  simp only [List.getD_eq_getElem?_getD]
  by_cases hi : i < k.length
  · rw [List.getElem?_append_left hi]
  · rw [List.getElem?_append_right (by omega), List.getElem?_eq_none (l := k) (by omega)]
    cases h : (List.replicate (n - k.length) (0 : Int))[i - k.length]? with
    | none => rfl
    | some x =>
      have := List.mem_of_getElem? h
      have := List.eq_of_mem_replicate this
      subst this; rfl
theorem padTo_snoc {n : Nat} {k : List Int} (q : Int) (h : k.length < n) : padTo n (k ++ [q]) = (padTo n k).set k.length q := by
  unfold padTo
  obtain ⟨d, hd⟩ : ∃ d, n - k.length = d + 1 := ⟨n - k.length - 1, by omega⟩
  rw [List.length_append, List.length_singleton, hd, show n - (k.length + 1) = d from by omega, List.replicate_succ, List.set_append_right _ _ (Nat.le_refl _)]
  simp
end Go.Proofs.YthoiikkjjaldnaaGreatDoor

/- Plain facts on reflections and predictors. No program in sight. -/
namespace Go.Proofs.YthoiikkjjaldnaaGreatDoor
set_option linter.unusedVariables false
set_option linter.unusedSimpArgs false
set_option maxRecDepth 100000

/-- May these be reflections? -/
def okR (q : Int) : Bool := decide (-32768 < q ∧ q < 32768)
def steadyB (k : List Int) : Bool := k.all okR
theorem okR_yes {q : Int} (h1 : -32768 < q) (h2 : q < 32768) : okR q = true := by unfold okR; simp; omega
theorem okR_no {q : Int} (h : q ≤ -32768 ∨ 32768 ≤ q) : okR q = false := by unfold okR; simp; omega
theorem steadyB_at {k : List Int} (h : steadyB k = true) (i : Nat) : -32768 < k.getD i 0 ∧ k.getD i 0 < 32768 := by
  unfold steadyB at h
  rw [List.getD_eq_getElem?_getD]
  cases hi : k[i]? with
  | none => simp
  | some x =>
    have := List.all_eq_true.1 h x (List.mem_of_getElem? hi)
    unfold okR at this
    simpa using this
/-- The first i of a list. -/
def allTo (p : Int → Bool) (l : List Int) (i : Nat) : Prop := ∀ j, j < i → p (l.getD j 0) = true
theorem allTo.zero {p : Int → Bool} {l : List Int} : allTo p l 0 := fun j h => by omega
theorem allTo.succ {p : Int → Bool} {l : List Int} {i : Nat} (h : allTo p l i) (h2 : p (l.getD i 0) = true) : allTo p l (i + 1) := fun j hj => by
  by_cases he : j = i
  · subst he; exact h2
  · exact h j (by omega)
theorem allTo.all {p : Int → Bool} {l : List Int} {i : Nat} (h : allTo p l i) (hl : l.length ≤ i) : l.all p = true := by
  rw [List.all_eq_true]
  intro x hx
  obtain ⟨j, hj⟩ := List.getElem?_of_mem hx
  have hlt := (List.getElem?_eq_some_iff.1 hj).1
  have := h j (by omega)
  rw [List.getD_eq_getElem?_getD, hj] at this
  exact this
theorem all_no {p : Int → Bool} {l : List Int} {i : Nat} (hi : i < l.length) (h : p (l.getD i 0) = false) : l.all p = false := by
  rw [Bool.eq_false_iff]
  intro hc
  have := List.all_eq_true.1 hc (l.getD i 0) (by rw [List.getD_eq_getElem?_getD, List.getElem?_eq_getElem hi]; exact List.getElem_mem hi)
  rw [h] at this
  cases this
theorem all_at {p : Int → Bool} {l : List Int} (h : l.all p = true) (i : Nat) (hi : i < l.length) : p (l.getD i 0) = true :=
  List.all_eq_true.1 h _ (by rw [List.getD_eq_getElem?_getD, List.getElem?_eq_getElem hi]; exact List.getElem_mem hi)

/-! Mix. -/
def mixE (a b : List Int) (num : Int) (i : Nat) : Int := (a.getD i 0 * (4 - num) + b.getD i 0 * num).tdiv 4
def mixB (a b : List Int) (num : Int) : Bool := decide (0 ≤ num ∧ num ≤ 4) && (steadyB a && steadyB b)
def mixL (a b : List Int) (num : Int) : List Int := if mixB a b num then (List.range 8).map (mixE a b num) else List.replicate 8 0
def errOf (b : Bool) : Int := if b then 0 else 2
theorem mixL_len (a b : List Int) (num : Int) : (mixL a b num).length = 8 := by unfold mixL; split <;> simp
theorem mix_sum {x y n : Int} (hx : -32768 < x ∧ x < 32768) (hy : -32768 < y ∧ y < 32768) (hn : 0 ≤ n ∧ n ≤ 4) : -262144 ≤ x * (4 - n) ∧ x * (4 - n) ≤ 262144 ∧ -262144 ≤ y * n ∧ y * n ≤ 262144 := by
  have h1 := mul_bound (x := x) (X := 32768) (y := 4 - n) (Y := 4) (by omega) (by omega) (by omega) (by omega)
  have h2 := mul_bound (x := y) (X := 32768) (y := n) (Y := 4) (by omega) (by omega) (by omega) (by omega)
  omega

/-! Expand. -/
def exF (g : Int) : Nat → Int
  | 0 => 32768
  | i + 1 => (exF g i * g + 16384) / 32768
theorem exF_range {g : Int} (h0 : 0 ≤ g) (h1 : g ≤ 32768) (i : Nat) : 0 ≤ exF g i ∧ exF g i ≤ 32768 := by
  induction i with
  | zero => exact ⟨by simp [exF], by simp [exF]⟩
  | succ i ih =>
    have h2 := mul_bound (x := exF g i) (X := 32768) (y := g) (Y := 32768) (by omega) (by omega) (by omega) (by omega)
    have h3 := Int.mul_nonneg ih.1 h0
    simp only [exF]
    omega
def exE (a : List Int) (g : Int) (i : Nat) : Int := (a.getD i 0 * exF g i + 16384) / 32768
def okA (x : Int) : Bool := decide (-1073741824 ≤ x ∧ x ≤ 1073741824)
def exB (a : List Int) (g : Int) : Bool := decide (0 ≤ g ∧ g ≤ 32768) && a.all okA
def exL (a : List Int) (g : Int) : List Int := if exB a g then (List.range 9).map (exE a g) else List.replicate 9 0
theorem exL_len (a : List Int) (g : Int) : (exL a g).length = 9 := by unfold exL; split <;> simp

/-! Direct. -/
/-- The predictor of the first so many reflections. -/
def dirN (k : List Int) : Nat → List Int
  | 0 => [16777216]
  | m + 1 => growL (dirN k m) (k.getD m 0) (m + 1)
theorem dirN_len (k : List Int) (m : Nat) : (dirN k m).length = m + 1 := by
  cases m with
  | zero => rfl
  | succ m => simp [dirN, growL_len]
theorem dirN_within {k : List Int} (h : ∀ i, -32768 ≤ k.getD i 0 ∧ k.getD i 0 ≤ 32768) (m : Nat) : Within (16777216 * 2 ^ m) (dirN k m) := by
  induction m with
  | zero =>
    intro i
    simp only [dirN]
    match i with
    | 0 => simp
    | i + 1 => simp
  | succ m ih =>
    have h2 := Within.grow (m := m + 1) (by have : (0 : Int) < 2 ^ m := Int.pow_pos (by decide); omega) ih (h m)
    have e : (16777216 : Int) * 2 ^ (m + 1) = 2 * (16777216 * 2 ^ m) := by rw [Int.pow_succ]; omega
    rw [e]
    exact h2
def dirL (k : List Int) : List Int := if steadyB k then (List.range 9).map (fun i => ((dirN k 8).getD i 0 + 2048) / 4096) else List.replicate 9 0
theorem dirL_len (k : List Int) : (dirL k).length = 9 := by unfold dirL; split <;> simp
end Go.Proofs.YthoiikkjjaldnaaGreatDoor

/- down by 9, 12, 13, 15 places, the number of places as it is written. -/
namespace Go.Proofs.YthoiikkjjaldnaaGreatDoor
set_option linter.unusedVariables false
set_option linter.unusedSimpArgs false
set_option maxRecDepth 100000
open Go.RowKit
theorem down9 (a : Int) (w : World) (h1 : -9223372036854775808 ≤ a) (h2 : a ≤ 9223372036854775807) : Calls Tryz.prog 110 #[.int .i64 a, .int .u64 9] w (GivesZ w (a / 512)) := down_at a 9 512 (a / 512) w h1 h2 (by omega) (by decide) rfl
theorem down12 (a : Int) (w : World) (h1 : -9223372036854775808 ≤ a) (h2 : a ≤ 9223372036854775807) : Calls Tryz.prog 110 #[.int .i64 a, .int .u64 12] w (GivesZ w (a / 4096)) := down_at a 12 4096 (a / 4096) w h1 h2 (by omega) (by decide) rfl
theorem down13 (a : Int) (w : World) (h1 : -9223372036854775808 ≤ a) (h2 : a ≤ 9223372036854775807) : Calls Tryz.prog 110 #[.int .i64 a, .int .u64 13] w (GivesZ w (a / 8192)) := down_at a 13 8192 (a / 8192) w h1 h2 (by omega) (by decide) rfl
theorem down14 (a : Int) (w : World) (h1 : -9223372036854775808 ≤ a) (h2 : a ≤ 9223372036854775807) : Calls Tryz.prog 110 #[.int .i64 a, .int .u64 14] w (GivesZ w (a / 16384)) := down_at a 14 16384 (a / 16384) w h1 h2 (by omega) (by decide) rfl
theorem down15 (a : Int) (w : World) (h1 : -9223372036854775808 ≤ a) (h2 : a ≤ 9223372036854775807) : Calls Tryz.prog 110 #[.int .i64 a, .int .u64 15] w (GivesZ w (a / 32768)) := down_at a 15 32768 (a / 32768) w h1 h2 (by omega) (by decide) rfl
end Go.Proofs.YthoiikkjjaldnaaGreatDoor

/- The walks of the reference's at, grown. -/
namespace Go.Proofs.YthoiikkjjaldnaaGreatDoor
set_option linter.unusedVariables false
set_option linter.unusedSimpArgs false
set_option maxRecDepth 100000
open Go.RowKit

theorem Rs.drew {w : World} {B : Nat} {A : Option Addr} {xs : List Int} (h : Rs w B A xs) : Rs w.drew B A xs := h
theorem Rs.drewN {w : World} {B : Nat} {A : Option Addr} {xs : List Int} (h : Rs w B A xs) (n : Nat) : Rs (w.drewN n) B A xs := h

set_option maxHeartbeats 1000000 in
theorem at_any (A : Option Addr) (c B : Nat) (xs : List Int) (i n : Nat) (w : World) (hr : Rs w B A xs) (hl : xs.length = n) (hn : n ≤ 100) :
    Calls Tryz.prog 172 #[.slice A n c, .int .i64 (i : Nat)] w fun e w' => e = .returned (.int .i64 (xs.getD i 0)) ∧ w = w' := by
  by_cases h : i < n
  · obtain ⟨ad, rfl, _, hc⟩ := hr.at_ (k := i) (by omega)
    generalize xs.getD i 0 = x at *
    clear hr hl
    go_enter Tryz.func172, Tryz.ntmps172
    go_wp2
    go_ret
    exact ⟨rfl, rfl⟩
  · have hv : xs.getD i 0 = 0 := by rw [List.getD_eq_getElem?_getD, List.getElem?_eq_none (by omega)]; rfl
    rw [hv]
    clear hr hl hv
    go_enter Tryz.func172, Tryz.ntmps172
    go_wp2
    go_ret
    exact ⟨rfl, rfl⟩

/-- A slice of numbers in new memory. -/
def NewS (w : World) (xs : List Int) (e : Ending) (w' : World) : Prop := ∃ A c, e = .returned (.slice A xs.length c) ∧ Own w' w.heap.size A c xs ∧ Below w.heap.size w w'

theorem keep_cell {wr w1 : World} {p : Addr} {v : Value} (hB : Below wr.drew.heap.size wr.drew w1) (hc : wr.cell? p = some v) : w1.cell? p = some v :=
  (hB.cell (World.block_lt_of_cell? wr p hc)).trans hc
theorem keep_frozen {wr w1 : World} {p : Addr} {v : Value} (hB : Below wr.drew.heap.size wr.drew w1) (hc : wr.cell? p = some v) (hf : wr.frozen? p = false) : w1.frozen? p = false :=
  (hB.frozen (World.block_lt_of_cell? wr p hc)).trans hf

/-- Ahead of round i: the numbers below i are the new predictor's. -/
def GrowMid (a zs : List Int) (q : Int) (m i : Nat) : Prop := zs.length = m + 1 ∧ ∀ j, j ≤ m → zs.getD j 0 = if j < i then (growL a q m).getD j 0 else a.getD j 0

theorem GrowMid.step {a zs : List Int} {q : Int} {m i : Nat} (h : GrowMid a zs q m i) (h0 : 1 ≤ i) (hi : i ≤ m) :
    GrowMid a (zs.set i (a.getD i 0 + q * a.getD (m - i) 0 / 32768)) q m (i + 1) := by
  refine ⟨by simpa using h.1, fun j hj => ?_⟩
  by_cases he : i = j
  · subst he
    rw [get_set_same _ _ _ (by rw [h.1]; omega), if_pos (by omega), growL_get _ _ _ _ hi, if_neg (by omega)]
  · rw [get_set_other _ _ he, h.2 j hj]
    by_cases h2 : j < i
    · rw [if_pos h2, if_pos (by omega)]
    · rw [if_neg h2, if_neg (by omega)]
theorem below_undrew {wr w1 : World} (h : Below wr.drew.heap.size wr.drew w1) : Below wr.heap.size wr w1 := ⟨h.os, h.tape, h.output, h.size, h.block⟩

set_option maxHeartbeats 4000000 in
theorem grown_any (A : Option Addr) (c : Nat) (xs : List Int) (q : Int) (m : Nat) (w : World) (hr : Rs w w.heap.size A xs) (hl : xs.length = m) (hm0 : 1 ≤ m) (hm : m ≤ 20) (hq : -32768 ≤ q ∧ q ≤ 32768) (hx : Within 4294967296 xs) :
    Calls Tryz.prog 115 #[.slice A m c, .int .i64 q] w (NewS w (growL xs q m)) := by
  have HR := hid hr
  have HL := hid hl
  have HX := hid hx
  clear hr hx
  subst hl
  go_enter Tryz.func115, Tryz.ntmps115
  go_wp2_with (first
    | (at_builtin; refine wpList_cat rfl (.const (.slice none 0 0)) (.tmp 7) rfl w.heap.size none 0 [] rfl Own.nil w.heap.size A c xs rfl HR.out (by simp; omega) (Nat.le_refl _) ?_; intro A1 c1 w1 hO hG hA; simp only [List.nil_append] at hO; have O1 := hid hO; have B1 := hid ((Below.refl w.heap.size w).grown hG (Nat.le_refl _) (by simp)); clear hO hG hA)
    | (at_builtin; refine wpList_push rfl (.tmp 8) (.tmp 9) rfl w.heap.size A1 c1 xs rfl (O1.out.alloc _) ⟨w1.heap.size, 0, none⟩ 0 rfl (cell_new w1 _ _) (by omega) (Nat.le_trans B1.out.size (by simp)) ?_; intro A2 c2 w2 hO hG hA; obtain ⟨g, rfl, hg1, hg2⟩ := hO.head (by simp); have O2 := hid hO; have B2 := hid ((B1.out.alloc B1.out.size _).grown hG (Nat.le_trans B1.out.size (by simp)) (by intro k hk; cases A1 with | none => cases hk | some ad => (simp at hk; subst hk; exact (O1.out.lt _ rfl).1))); clear hO hG hA))
  have MID := hid (show GrowMid xs (xs ++ [0]) q xs.length 1 from ⟨by simp, fun j hj => by
    by_cases h : j < 1
    · obtain rfl : j = 0 := by omega
      rw [if_pos h, growL_get _ _ _ _ (by omega), if_pos rfl]
      simp only [List.getD_eq_getElem?_getD]
      rw [List.getElem?_append_left (by omega)]
    · rw [if_neg h]
      simp only [List.getD_eq_getElem?_getD]
      by_cases h2 : j < xs.length
      · rw [List.getElem?_append_left h2]
      · obtain rfl : j = xs.length := by omega
        simp⟩)
  clear O1 B1
  go_loopw [6] (fun iv wr => ∃ (i : Nat) (zs : List Int), 1 ≤ i ∧ i ≤ xs.length + 1 ∧ iv = .int .i64 i ∧ Hid (GrowMid xs zs q xs.length i) ∧ Hid (Own wr w.heap.size (some ⟨g, 0, none⟩) c2 zs) ∧ Hid (Below w.heap.size w wr)) (fun iv _ => xs.length + 1 - (intOf iv).toNat)
  case atStart => exact ⟨1, xs ++ [0], by omega, by omega, rfl, MID, O2, B2⟩
  case round =>
    clear O2 B2 MID
    obtain ⟨i, zs, hi1, hi2, rfl, HM, HO, HB⟩ := hrel
    by_cases hlt : i < xs.length + 1
    · have co := HO.out.cell i (by rw [HM.out.1]; omega)
      have fo := HO.out.frozen i
      obtain ⟨d, hd⟩ : ∃ d : Nat, xs.length = i + d := ⟨xs.length - i, by omega⟩
      have hsub : (xs.length : Int) - (i : Int) = (d : Nat) := by omega
      have hw1 : IntKind.i64.wrap (xs.length : Int) = (xs.length : Int) := by rw [IntKind.wrap_i64]; omega
      have hw2 : IntKind.i64.wrap ((xs.length : Int) - (i : Int)) = (d : Nat) := by rw [IntKind.wrap_i64]; omega
      rw [HM.out.2 i (by omega), if_neg (by omega)] at co
      have KT := hid (fun W (h : Rs W w.heap.size A xs) => at_any A c w.heap.size xs d xs.length W h rfl (by omega))
      have RW := hid ((HR.out.below HB.out).drew)
      have NEXT := hid (HM.out.step hi1 (by omega))
      rw [show xs.length - i = d from by omega] at NEXT
      have bx := HX.out i
      have by' := HX.out d
      generalize xs.getD i 0 = x at *
      generalize xs.getD d 0 = y at *
      obtain ⟨bx1, bx2⟩ := bx
      obtain ⟨by1, by2⟩ := by'
      have pr := mul_bound (x := q) (X := 32768) (y := y) (Y := 4294967296) (by omega) (by omega) hq ⟨by omega, by omega⟩
      have p1 : -140737488355328 ≤ q * y := by omega
      have p2 : q * y ≤ 140737488355328 := by omega
      have hw3 : IntKind.i64.wrap (q * y) = q * y := by rw [IntKind.wrap_i64]; omega
      have hw4 : IntKind.i64.wrap (x + q * y / 32768) = x + q * y / 32768 := by rw [IntKind.wrap_i64]; omega
      have KD := hid (fun W => down15 (q * y) W (by omega) (by omega))
      have HD := hid hd
      clear pr hd hsub
      go_wp2
      go_region_with (first
        | (go_at_call 172; ((with_reducible refine (KT.out _ RW.out).mono ?_); rintro e w' ⟨rfl, rfl⟩))
        | (go_at_call 110; (with_reducible refine (KD.out _).mono ?_); rintro e w3 ⟨rfl, hB⟩; have k1 := keep_cell hB co; have k2 := keep_frozen hB co fo; have q1 := hid hB; clear hB))
      all_goals
        clear hw1 hw2 hw3 hw4
        have OB := hid ((HO.out.below (below_undrew q1.out)).set_ i (by rw [HM.out.1]; omega) (x + q * y / 32768))
        have BB := hid ((HB.out.trans ((below_undrew q1.out).mono HB.out.size)).setCell (p := ⟨g, i, none⟩) hg1 (.int .i64 (x + q * y / 32768)))
        go_wp2
        go_roundw
        case rel => exact ⟨i + 1, _, by omega, by omega, by go_num, NEXT, OB, BB⟩
        case measure => simp [intOf] <;> omega
    · obtain rfl : i = xs.length + 1 := by omega
      have HF := hid (show zs = growL xs q xs.length from list_ext (by rw [HM.out.1, growL_len]) (fun j hj => by
        rw [HM.out.2 j (by rw [HM.out.1] at hj; omega), if_pos (by rw [HM.out.1] at hj; omega)]))
      have HL2 := HM.out.1
      go_wp2
      go_ret
      refine ⟨_, _, ?_, by rw [← HF.out]; exact HO.out, HB.out⟩
      rw [growL_len]
      rfl
end Go.Proofs.YthoiikkjjaldnaaGreatDoor

/- The walks of the functions on slices that many statements call: ints, Same, right, Right, sat. -/
namespace Go.Proofs.YthoiikkjjaldnaaGreatDoor
set_option linter.unusedVariables false
set_option linter.unusedSimpArgs false
set_option maxRecDepth 100000
open Go.RowKit

/-- Is it a number of 16 bits? -/
def ok16 (x : Int) : Bool := decide (-32768 ≤ x ∧ x ≤ 32767)
theorem ok16_yes {x : Int} (h1 : -32768 ≤ x) (h2 : x ≤ 32767) : ok16 x = true := by unfold ok16; simp; omega
theorem ok16_no {x : Int} (h : x < -32768 ∨ 32767 < x) : ok16 x = false := by unfold ok16; simp; omega
def all16 (xs : List Int) : Bool := xs.all ok16
theorem all16_at {xs : List Int} (h : all16 xs = true) (i : Nat) : -32768 ≤ xs.getD i 0 ∧ xs.getD i 0 ≤ 32767 := by
  by_cases hi : i < xs.length
  · have := all_at h i hi
    unfold ok16 at this
    simpa using this
  · rw [List.getD_eq_getElem?_getD, List.getElem?_eq_none (by omega)]; simp
/-- A function that answers a Bool and makes new memory at most. -/
def AnsB' (w : World) (b : Bool) (e : Ending) (w' : World) : Prop := e = .returned (.bool b) ∧ Below w.heap.size w w'
theorem s16_id {x : Int} (h1 : -32768 ≤ x) (h2 : x ≤ 32767) : s16 x = x := by unfold s16 lim; rw [if_neg (by omega), if_neg (by omega)]
theorem s16_ne {x : Int} (h : x < -32768 ∨ 32767 < x) : s16 x ≠ x := by have := s16_range x; omega

theorem ints_any (A : Option Addr) (c : Nat) (xs : List Int) (w : World) (hr : Rs w w.heap.size A xs) (hl : xs.length ≤ 17592186044416) :
    Calls Tryz.prog 12 #[.slice A xs.length c] w (NewS w xs) := by
  have HR := hid hr
  clear hr
  go_enter Tryz.func12, Tryz.ntmps12
  go_wp2_with (at_builtin; refine wpList_cat rfl (.const (.slice none 0 0)) (.tmp 3) rfl w.heap.size none 0 [] rfl Own.nil w.heap.size A c xs rfl HR.out (by simpa using hl) (Nat.le_refl _) ?_; intro A1 c1 w1 hO hG hA; simp only [List.nil_append] at hO; have O1 := hid hO; have B1 := hid ((Below.refl w.heap.size w).grown hG (Nat.le_refl _) (by simp)); clear hO hG hA)
  go_ret
  exact ⟨A1, c1, by simp, O1.out, B1.out⟩

set_option maxHeartbeats 1000000 in
theorem same_yes (A A2 : Option Addr) (c c2 n B B2 : Nat) (xs : List Int) (w : World) (hr : Rs w B A xs) (hr2 : Rs w B2 A2 xs) (hn : xs.length = n) (hl : n ≤ 17592186044416) :
    Calls Tryz.prog 36 #[.slice A n c, .slice A2 n c2] w (AnsB' w true) := by
  have HR := hid (And.intro hr hr2)
  have HN := hid hn
  clear hr hr2 hn
  go_enter Tryz.func36, Tryz.ntmps36
  go_wp2
  go_loopw [13] (fun iv wr => ∃ (k d : Nat), k ≤ n ∧ iv = .int .i64 k ∧ Hid (wr = w.drewN d)) (fun iv _ => n - (intOf iv).toNat)
  case atStart => exact ⟨0, 0, by omega, rfl, hid rfl⟩
  case round =>
    obtain ⟨k, d, hk, rfl, HW⟩ := hrel
    obtain rfl := HW.out
    by_cases hlt : k < n
    · obtain ⟨ad, rfl, _, c1⟩ := HR.out.1.at_ (k := k) (by rw [HN.out]; exact hlt)
      obtain ⟨ad2, rfl, _, c2'⟩ := HR.out.2.at_ (k := k) (by rw [HN.out]; exact hlt)
      generalize xs.getD k 0 = x at *
      have hI : (k : Int) < (n : Int) := by omega
      have hI0 : (0 : Int) ≤ (k : Int) := by omega
      clear HW
      go_wp2
      go_quiet (fail)
      go_wp2
      go_roundw
      case rel => exact ⟨k + 1, _, by omega, by go_num, hid (by first | rfl | simp)⟩
      case measure => simp [intOf] <;> omega
    · go_wp2
      go_ret
      exact ⟨rfl, ⟨rfl, rfl, rfl, Nat.le_refl _, fun _ _ => rfl⟩⟩
theorem Same_yes (A A2 : Option Addr) (c c2 n B B2 : Nat) (xs : List Int) (w : World) (hr : Rs w B A xs) (hr2 : Rs w B2 A2 xs) (hn : xs.length = n) (hl : n ≤ 17592186044416) :
    Calls Tryz.prog 10 #[.slice A n c, .slice A2 n c2] w (AnsB' w true) := by
  have K := hid (same_yes A A2 c c2 n B B2 xs w hr hr2 hn hl)
  clear hr hr2 hn
  go_enter Tryz.func10, Tryz.ntmps10
  go_wp2_with (go_at_call 36; refine K.out.mono ?_; rintro e w1 ⟨rfl, hB⟩; have q1 := hid hB; clear hB)
  go_ret
  exact ⟨rfl, q1.out⟩

theorem frontsat_any (x : Int) (w : World) : Calls Tryz.prog 84 #[.int .i64 x] w fun e w' => e = .returned (.int .i64 (s16 x)) ∧ w = w' := by
  go_enter Tryz.func84, Tryz.ntmps84
  go_wp2_with (go_at_call 142; refine (sat16_any _ _).mono ?_; rintro e w' ⟨rfl, rfl⟩)
  go_ret
  exact ⟨rfl, rfl⟩
theorem pitchsat_any (x : Int) (w : World) : Calls Tryz.prog 189 #[.int .i64 x] w fun e w' => e = .returned (.int .i64 (s16 x)) ∧ w = w' := by
  go_enter Tryz.func189, Tryz.ntmps189
  go_wp2_with (go_at_call 142; refine (sat16_any _ _).mono ?_; rintro e w' ⟨rfl, rfl⟩)
  go_ret
  exact ⟨rfl, rfl⟩
theorem pulsessat_any (x : Int) (w : World) : Calls Tryz.prog 163 #[.int .i64 x] w fun e w' => e = .returned (.int .i64 (s16 x)) ∧ w = w' := by
  go_enter Tryz.func163, Tryz.ntmps163
  go_wp2_with (go_at_call 142; refine (sat16_any _ _).mono ?_; rintro e w' ⟨rfl, rfl⟩)
  go_ret
  exact ⟨rfl, rfl⟩
theorem concealsat_any (x : Int) (w : World) : Calls Tryz.prog 61 #[.int .i64 x] w fun e w' => e = .returned (.int .i64 (s16 x)) ∧ w = w' := by
  go_enter Tryz.func61, Tryz.ntmps61
  go_wp2_with (go_at_call 142; refine (sat16_any _ _).mono ?_; rintro e w' ⟨rfl, rfl⟩)
  go_ret
  exact ⟨rfl, rfl⟩
theorem synthsat_any (x : Int) (w : World) : Calls Tryz.prog 156 #[.int .i64 x] w fun e w' => e = .returned (.int .i64 (s16 x)) ∧ w = w' := by
  go_enter Tryz.func156, Tryz.ntmps156
  go_wp2_with (go_at_call 142; refine (sat16_any _ _).mono ?_; rintro e w' ⟨rfl, rfl⟩)
  go_ret
  exact ⟨rfl, rfl⟩
theorem codersat_any (x : Int) (w : World) : Calls Tryz.prog 159 #[.int .i64 x] w fun e w' => e = .returned (.int .i64 (s16 x)) ∧ w = w' := by
  go_enter Tryz.func159, Tryz.ntmps159
  go_wp2_with (go_at_call 142; refine (sat16_any _ _).mono ?_; rintro e w' ⟨rfl, rfl⟩)
  go_ret
  exact ⟨rfl, rfl⟩
set_option maxHeartbeats 1000000 in
theorem frontright_any (A : Option Addr) (c n B : Nat) (xs : List Int) (w : World) (hr : Rs w B A xs) (hn : xs.length = n) (hl : n ≤ 17592186044416) :
    Calls Tryz.prog 83 #[.slice A n c] w fun e w' => e = .returned (.bool (all16 xs)) ∧ w = w' := by
  have HR := hid hr
  have HN := hid hn
  clear hr hn
  go_enter Tryz.func83, Tryz.ntmps83
  go_wp2
  go_loop [7] (fun iv => ∃ k : Nat, k ≤ n ∧ iv = .int .i64 k ∧ Hid (allTo ok16 xs k)) (fun iv => n - (intOf iv).toNat)
  case atStart => exact ⟨0, by omega, rfl, hid allTo.zero⟩
  case round =>
    obtain ⟨k, hk, rfl, HY⟩ := hrel
    by_cases hlt : k < n
    · obtain ⟨ad, rfl, _, c1⟩ := HR.out.at_ (k := k) (by rw [HN.out]; exact hlt)
      obtain ⟨x, hx⟩ : ∃ x, x = xs.getD k 0 := ⟨_, rfl⟩
      rw [← hx] at c1
      have HX := hid hx
      clear hx
      by_cases hbad : x < -32768 ∨ 32767 < x
      · have HF := hid (show all16 xs = false from all_no (i := k) (by rw [HN.out]; exact hlt) (ok16_no (by rw [← HX.out]; exact hbad)))
        have e1 : (x == s16 x) = false := by rw [beq_eq_false_iff_ne]; exact fun h => s16_ne hbad h.symm
        have e2 : (x != s16 x) = true := by rw [bne_iff_ne]; exact fun h => s16_ne hbad h.symm
        clear hbad
        go_wp2_with (go_at_call 84; refine (frontsat_any _ _).mono ?_; rintro e w' ⟨rfl, rfl⟩)
        go_ret
        exact ⟨by rw [HF.out]; rfl, rfl⟩
      · have HN2 := hid (HY.out.succ (by rw [← HX.out]; exact ok16_yes (by omega) (by omega)))
        have e0 := s16_id (x := x) (by omega) (by omega)
        clear hbad
        go_wp2_with (go_at_call 84; refine (frontsat_any _ _).mono ?_; rintro e w' ⟨rfl, rfl⟩)
        go_round
        case rel => exact ⟨k + 1, by omega, by go_num, HN2⟩
        case measure => simp [intOf] <;> omega
    · have HF := hid (show all16 xs = true from HY.out.all (by rw [HN.out]; omega))
      go_wp2
      go_ret
      exact ⟨by rw [HF.out]; rfl, rfl⟩
set_option maxHeartbeats 1000000 in
theorem pitchright_any (A : Option Addr) (c n B : Nat) (xs : List Int) (w : World) (hr : Rs w B A xs) (hn : xs.length = n) (hl : n ≤ 17592186044416) :
    Calls Tryz.prog 160 #[.slice A n c] w fun e w' => e = .returned (.bool (all16 xs)) ∧ w = w' := by
  have HR := hid hr
  have HN := hid hn
  clear hr hn
  go_enter Tryz.func160, Tryz.ntmps160
  go_wp2
  go_loop [7] (fun iv => ∃ k : Nat, k ≤ n ∧ iv = .int .i64 k ∧ Hid (allTo ok16 xs k)) (fun iv => n - (intOf iv).toNat)
  case atStart => exact ⟨0, by omega, rfl, hid allTo.zero⟩
  case round =>
    obtain ⟨k, hk, rfl, HY⟩ := hrel
    by_cases hlt : k < n
    · obtain ⟨ad, rfl, _, c1⟩ := HR.out.at_ (k := k) (by rw [HN.out]; exact hlt)
      obtain ⟨x, hx⟩ : ∃ x, x = xs.getD k 0 := ⟨_, rfl⟩
      rw [← hx] at c1
      have HX := hid hx
      clear hx
      by_cases hbad : x < -32768 ∨ 32767 < x
      · have HF := hid (show all16 xs = false from all_no (i := k) (by rw [HN.out]; exact hlt) (ok16_no (by rw [← HX.out]; exact hbad)))
        have e1 : (x == s16 x) = false := by rw [beq_eq_false_iff_ne]; exact fun h => s16_ne hbad h.symm
        have e2 : (x != s16 x) = true := by rw [bne_iff_ne]; exact fun h => s16_ne hbad h.symm
        clear hbad
        go_wp2_with (go_at_call 189; refine (pitchsat_any _ _).mono ?_; rintro e w' ⟨rfl, rfl⟩)
        go_ret
        exact ⟨by rw [HF.out]; rfl, rfl⟩
      · have HN2 := hid (HY.out.succ (by rw [← HX.out]; exact ok16_yes (by omega) (by omega)))
        have e0 := s16_id (x := x) (by omega) (by omega)
        clear hbad
        go_wp2_with (go_at_call 189; refine (pitchsat_any _ _).mono ?_; rintro e w' ⟨rfl, rfl⟩)
        go_round
        case rel => exact ⟨k + 1, by omega, by go_num, HN2⟩
        case measure => simp [intOf] <;> omega
    · have HF := hid (show all16 xs = true from HY.out.all (by rw [HN.out]; omega))
      go_wp2
      go_ret
      exact ⟨by rw [HF.out]; rfl, rfl⟩

set_option maxHeartbeats 1000000 in
theorem Right_any (A : Option Addr) (c n B : Nat) (xs : List Int) (w : World) (hr : Rs w B A xs) (hn : xs.length = n) (hl : n ≤ 17592186044416) :
    Calls Tryz.prog 70 #[.slice A n c] w fun e w' => e = .returned (.bool (all16 xs)) ∧ w = w' := by
  have HR := hid hr
  have HN := hid hn
  clear hr hn
  go_enter Tryz.func70, Tryz.ntmps70
  go_wp2
  go_loop [7] (fun iv => ∃ k : Nat, k ≤ n ∧ iv = .int .i64 k ∧ Hid (allTo ok16 xs k)) (fun iv => n - (intOf iv).toNat)
  case atStart => exact ⟨0, by omega, rfl, hid allTo.zero⟩
  case round =>
    obtain ⟨k, hk, rfl, HY⟩ := hrel
    by_cases hlt : k < n
    · obtain ⟨ad, rfl, _, c1⟩ := HR.out.at_ (k := k) (by rw [HN.out]; exact hlt)
      obtain ⟨x, hx⟩ : ∃ x, x = xs.getD k 0 := ⟨_, rfl⟩
      rw [← hx] at c1
      have HX := hid hx
      clear hx
      by_cases b1 : x < -32768
      · have HF := hid (show all16 xs = false from all_no (i := k) (by rw [HN.out]; exact hlt) (ok16_no (by rw [← HX.out]; exact .inl b1)))
        go_wp2
        go_ret
        exact ⟨by rw [HF.out]; rfl, rfl⟩
      by_cases b2 : 32767 < x
      · have HF := hid (show all16 xs = false from all_no (i := k) (by rw [HN.out]; exact hlt) (ok16_no (by rw [← HX.out]; exact .inr b2)))
        go_wp2
        go_ret
        exact ⟨by rw [HF.out]; rfl, rfl⟩
      have HN2 := hid (HY.out.succ (by rw [← HX.out]; exact ok16_yes (by omega) (by omega)))
      go_wp2
      go_round
      case rel => exact ⟨k + 1, by omega, by go_num, HN2⟩
      case measure => simp [intOf] <;> omega
    · have HF := hid (show all16 xs = true from HY.out.all (by rw [HN.out]; omega))
      go_wp2
      go_ret
      exact ⟨by rw [HF.out]; rfl, rfl⟩
end Go.Proofs.YthoiikkjjaldnaaGreatDoor

/- make of a slice of numbers. -/
namespace Go.Proofs.YthoiikkjjaldnaaGreatDoor
set_option linter.unusedVariables false
set_option linter.unusedSimpArgs false
set_option maxRecDepth 100000
open Go.RowKit

theorem made_ints (n : Nat) : (madeCells (Value.int .i64 0).cells (n * 1)).toList = ints (List.replicate n 0) := by
  rw [Nat.mul_one]
  show (madeCells #[Value.int .i64 0] n).toList = _
  rw [toList_madeCells_one]
  simp [ints]

theorem wpList_makeI {ops : Array Oper} {rest : List Oper} {o : Oper} {a : Act} {w : World} {Q : Exit → Act → World → Prop} (hgd : o.guard = none) (l c : Operand)
    (ho : o.op = .makeSlice 27 l c) (kl kc : IntKind) (n : Nat) (hl : a.eval l = .int kl (n : Int)) (hc : a.eval c = .int kc (n : Int)) (base : Nat) (hn : n ≤ 17592186044416) (hbase : base ≤ w.heap.size)
    (h : ∀ w1, Own w1 base (some ⟨w.heap.size, 0, none⟩) n (List.replicate n 0) → w.grownBy w1 none → wpList Tryz.prog ops Q rest (a.put o.dst (.slice (some ⟨w.heap.size, 0, none⟩) n n)) w1) :
    wpList Tryz.prog ops Q (o :: rest) a w := by
  obtain ⟨i0, hi, hz0, hz1, hz2⟩ := info_parts infoI
  refine wpList_make_full w hgd l c 27 ho base 3 i0 (.int .i64 0) 1 Tryz.underlying27 hi hz0 hz1 kl kc (n : Int) (n : Int) n hl hc rfl rfl (by rw [hz2]; omega) (by unfold maxLen; omega) hbase ?_
  intro w1 hown hgrow
  refine h w1 ?_ hgrow
  unfold Own
  rw [List.length_replicate]
  rw [← made_ints]
  simpa using hown
end Go.Proofs.YthoiikkjjaldnaaGreatDoor

/- Plain facts on the excitation a lag ago. No program in sight. -/
namespace Go.Proofs.YthoiikkjjaldnaaGreatDoor
set_option linter.unusedVariables false
set_option linter.unusedSimpArgs false
set_option maxRecDepth 100000

def pastE (h : List Int) (lag : Nat) (i : Nat) : Int := h.getD (80 - lag + i % lag) 0
def pastB (lag : Int) : Bool := decide (20 ≤ lag ∧ lag ≤ 79)
def pastL (h : List Int) (lag : Int) : List Int := if pastB lag then (List.range 40).map (pastE h lag.toNat) else []
theorem pastB_yes {lag : Int} (h1 : 20 ≤ lag) (h2 : lag ≤ 79) : pastB lag = true := by unfold pastB; simp; omega
theorem pastB_no {lag : Int} (h : lag < 20 ∨ 79 < lag) : pastB lag = false := by unfold pastB; simp; omega
theorem pastL_len {h : List Int} {lag : Int} (hb : pastB lag = true) : (pastL h lag).length = 40 := by unfold pastL; rw [hb]; simp
theorem range_get {n j : Nat} (f : Nat → Int) (h : j < n) : ((List.range n).map f).getD j 0 = f j := by
  rw [List.getD_eq_getElem?_getD, List.getElem?_map, List.getElem?_range h]
  rfl
theorem pastL_get {h : List Int} {lag : Int} (hb : pastB lag = true) (j : Nat) (hj : j < 40) : (pastL h lag).getD j 0 = pastE h lag.toNat j := by
  unfold pastL; rw [if_pos hb, range_get _ hj]
theorem pastE_low {h : List Int} {lag i : Nat} (hi : i < lag) : pastE h lag i = h.getD (80 - lag + i) 0 := by
  unfold pastE; rw [Nat.mod_eq_of_lt hi]
theorem pastE_high {h : List Int} {lag i : Nat} (hi : lag ≤ i) : pastE h lag i = pastE h lag (i - lag) := by
  unfold pastE; rw [Nat.mod_eq_sub_mod hi]
theorem snoc_range {n : Nat} (f : Nat → Int) : (List.range n).map f ++ [f n] = (List.range (n + 1)).map f := by
  rw [List.range_succ, List.map_append]; rfl
end Go.Proofs.YthoiikkjjaldnaaGreatDoor

/- The walks of Past, the program's and the reference's. -/
namespace Go.Proofs.YthoiikkjjaldnaaGreatDoor
set_option linter.unusedVariables false
set_option linter.unusedSimpArgs false
set_option maxRecDepth 100000
open Go.RowKit

/-- What a function answers that gives new numbers and an error. -/
def NewSE (w : World) (xs : List Int) (er : Int) (e : Ending) (w' : World) : Prop := ∃ A c, e = .returned (.tuple #[.slice A xs.length c, .int .i64 er]) ∧ Own w' w.heap.size A c xs ∧ Below w.heap.size w w'
theorem NewSE.none_ {w w' : World} {er : Int} (hB : Below w.heap.size w w') : NewSE w [] er (.returned (.tuple #[.slice none 0 0, .int .i64 er])) w' := ⟨none, 0, rfl, Own.nil, hB⟩

set_option maxHeartbeats 4000000 in
theorem past_any (h : List Int) (lag : Int) (w : World) (hl : h.length = 80) : Calls Tryz.prog 98 #[.agg (agi h), .int .i64 lag] w (NewSE w (pastL h lag) (errOf (pastB lag))) := by
  by_cases h1 : lag < 20 ∨ 79 < lag
  · rw [show pastL h lag = [] from by unfold pastL; rw [pastB_no h1]; rfl, pastB_no h1]
    have FIN := hid (NewSE.none_ (er := 2) ((Below.refl _ w).alloc (Nat.le_refl _) (.cells (agi h) 23)))
    rcases h1 with h1 | h1
    · have d1 : decide (lag < 20) = true := by simpa using h1
      go_enter Tryz.func98, Tryz.ntmps98
      go_wp2
      go_ret2
      exact FIN.out
    · have d1 : decide (lag < 20) = false := by simp; omega
      have d2 : decide (79 < lag) = true := by simpa using h1
      go_enter Tryz.func98, Tryz.ntmps98
      go_wp2
      go_ret2
      exact FIN.out
  · have hb : pastB lag = true := pastB_yes (by omega) (by omega)
    have hlen := pastL_len (h := h) hb
    obtain ⟨L, rfl⟩ := Int.eq_ofNat_of_zero_le (show 0 ≤ lag by omega)
    have hP := hid (fun j hj => pastL_get (h := h) hb j hj)
    rw [hb]
    have hL1 : 20 ≤ L := by omega
    have hL2 : L ≤ 79 := by omega
    obtain ⟨E, hE⟩ : ∃ E, E = 80 - L := ⟨_, rfl⟩
    have hEi : (80 : Int) - (L : Nat) = (E : Nat) := by omega
    have hE2 : E + L = 80 := by omega
    have A0 := hid (IB.new w 23 h)
    have d1 : decide ((L : Int) < 20) = false := by simp; omega
    have d2 : decide (79 < (L : Int)) = false := by simp; omega
    have HL := hid hl
    have HN := hid hlen
    have HE := hid hE
    clear h1 hb hl hlen hE
    go_enter Tryz.func98, Tryz.ntmps98
    go_wp2_with (at_make; refine wpList_makeI rfl _ _ rfl .i64 .i64 40 rfl rfl w.heap.size (by omega) (by simp) ?_; intro w1 hO hG; have O1 := hid hO; have A1 := hid (Blk.grown A0.out hG (by simp)); have B1 := hid (((Below.refl w.heap.size w).alloc (Nat.le_refl _) (.cells (agi h) 23)).grown hG (by simp) (by simp)); clear hO hG)
    simp only [World.size_alloc] at O1
    go_loopw [17] (fun iv wr => ∃ (k : Nat) (ys : List Int), k ≤ 40 ∧ iv = .int .i64 k ∧ Hid (ys.length = 40 ∧ ∀ j, j < k → ys.getD j 0 = pastE h L j) ∧ Hid (Own wr w.heap.size (some ⟨w.heap.size + 1, 0, none⟩) 40 ys) ∧ Hid (IB wr w.heap.size 23 h) ∧ Hid (Below w.heap.size w wr)) (fun iv _ => 40 - (intOf iv).toNat)
    case atStart => exact ⟨0, _, by omega, rfl, hid ⟨by simp, fun j h => by omega⟩, O1, A1, B1⟩
    case round =>
      clear O1 A1 B1
      obtain ⟨k, ys, hk, rfl, HY, HO, HA, HB⟩ := hrel
      by_cases hlt : k < 40
      · have co := HO.out.cell k (by rw [HY.out.1]; exact hlt)
        have fo := HO.out.frozen k
        have NO := hid (fun v => HO.out.set_ k (by rw [HY.out.1]; exact hlt) v)
        have NA := hid (fun v => Blk.far HA.out (p := ⟨w.heap.size + 1, k, none⟩) (by show w.heap.size ≠ w.heap.size + 1; omega) v)
        have NB := hid (fun v => HB.out.setCell (p := ⟨w.heap.size + 1, k, none⟩) (by show w.heap.size ≤ w.heap.size + 1; omega) v)
        have NEXT := hid (fun (v : Int) (hv : v = pastE h L k) => show Hid ((ys.set k v).length = 40 ∧ ∀ j, j < k + 1 → (ys.set k v).getD j 0 = pastE h L j) from by
          obtain ⟨q1, q3⟩ := HY.out
          refine ⟨by simpa using q1, fun j hj => ?_⟩
          by_cases he : k = j
          · subst he
            rw [get_set_same _ _ _ (by omega), hv]
          · rw [get_set_other _ _ he]
            exact q3 j (by omega))
        by_cases hlow : k < L
        · have ci := HA.out.cell (E + k) (by rw [HL.out]; omega)
          have hEk : E + k < 80 := by omega
          have HV := hid (show h.getD (E + k) 0 = pastE h L k by rw [pastE_low hlow, ← HE.out])
          generalize h.getD (E + k) 0 = x at *
          go_wp2
          go_roundw
          case rel => exact ⟨k + 1, _, by omega, by go_num, NEXT.out _ HV.out, NO.out _, hid (NA.out _), hid (NB.out _)⟩
          case measure => simp [intOf] <;> omega
        · obtain ⟨d, hd⟩ : ∃ d, k = L + d := ⟨k - L, by omega⟩
          have hsub : (k : Int) - (L : Nat) = (d : Nat) := by omega
          have cd := HO.out.cell d (by rw [HY.out.1]; omega)
          have hd40 : d < 40 := by omega
          have HV := hid (show ys.getD d 0 = pastE h L k by rw [HY.out.2 d (by omega), pastE_high (h := h) (lag := L) (i := k) (by omega), show k - L = d from by omega])
          have HD := hid hd
          clear hd
          generalize ys.getD d 0 = x at *
          go_wp2
          go_roundw
          case rel => exact ⟨k + 1, _, by omega, by go_num, NEXT.out _ HV.out, NO.out _, hid (NA.out _), hid (NB.out _)⟩
          case measure => simp [intOf] <;> omega
      · obtain rfl : k = 40 := by omega
        have HF := hid (show ys = pastL h (L : Nat) from list_ext (by rw [HY.out.1, HN.out]) (fun j hj => by rw [HY.out.2 j (by rw [HY.out.1] at hj; exact hj), hP.out j (by rw [HY.out.1] at hj; exact hj)]; rfl))
        go_wp2
        go_ret2
        exact ⟨_, _, by rw [HN.out]; rfl, by rw [← HF.out]; exact HO.out, HB.out⟩
end Go.Proofs.YthoiikkjjaldnaaGreatDoor

/- copy into a row of numbers that is known whole, as a step of a drawing region; an answer that lies in a block. -/
namespace Go.Proofs.YthoiikkjjaldnaaGreatDoor
set_option linter.unusedVariables false
set_option linter.unusedSimpArgs false
set_option maxRecDepth 100000
open Go.RowKit

theorem infoSz : (Tryz.prog.info? 3).map (·.size) = some 1 := by kernel_rfl

theorem step_copyI {ops : Array Oper} {o : Oper} {a : Act} {w : World} {K : Act → World → Prop} {Q : Exit → Act → World → Prop} {E : Prop} (hgd : o.guard = none) (d s : Operand) (dT sT : TypeId)
    (ho : o.op = .call { callee := .builtin .copy, args := #[d, s], argTypes := #[dT, sT] }) (hu : Tryz.prog.underlying dT = some (.slice 3))
    (g off dLen dCap : Nat) (ad : Addr) (sLen sCap : Nat) (hd : a.eval d = .slice (some ⟨g, off, none⟩) dLen dCap) (hs : a.eval s = .slice (some ad) sLen sCap)
    (t : TypeId) (xs ys zs : List Int) (hg : IB w g t xs) (hn : ys.length = Nat.min sLen dLen) (hsrc : ∀ j, j < ys.length → w.cell? (ad.add j) = some (.int .i64 (ys.getD j 0)))
    (hfit : off + ys.length ≤ xs.length) (hz : zs = xs.take off ++ ys ++ xs.drop (off + ys.length))
    (h : K (a.put o.dst (goInt ys.length)) (w.setRow g (agi zs))) :
    if Region.wanted o (yielded ops a.tmps) = true then Oper.wp Tryz.prog o a w K Q else E := by
  have hw : Region.wanted o (yielded ops a.tmps) = true := by simp [Region.wanted, hgd]
  rw [if_pos hw]
  have hrun := run_copy_row (P := Tryz.prog) w dT sT o.type 3 g off dLen dCap ad sLen sCap (agi xs) t (ints ys) hu infoSz hg (by rw [ints_len]; exact hn)
    (fun j v hv => by
      have hj : j < ys.length := by
        have := (List.getElem?_eq_some_iff.mp hv).1
        rwa [ints_len] at this
      rw [ints_get ys j hj] at hv
      rw [← hv]
      exact hsrc j hj) (by rw [ints_len, agi_size]; exact hfit) (ints_one ys)
  have e : ((agi xs).toList.take off ++ ints ys ++ (agi xs).toList.drop (off + (ints ys).length)).toArray = agi zs := by
    subst hz
    simp [agi, ints, List.map_take, List.map_drop]
  rw [e, ints_len] at hrun
  unfold Oper.wp
  simp [execOp, ho, resolve, invoke, builtin, hd, hs, hrun, Result.andThen]
  exact h

/-- The answer of a function whose one result lies in a block. -/
theorem results_row1 {fn : Func} {p : Tmp} {ty : TypeId} (h : fn.results = #[.cell p ty]) (tmps : Array Value) (w : World) (g : Nat) (t : TypeId) (xs : List Int) (d : TypeDesc) (n : Nat)
    (hp : tmps.getD p undef = .pointer (some ⟨g, 0, none⟩)) (hg : IB w g t xs) (hu : Tryz.prog.underlying ty = some d) (hd : isAggD d = true) (hi : (Tryz.prog.info? ty).map (·.size) = some n) (hl : xs.length = n) :
    (results fn tmps).run Tryz.prog w = .ok (.agg (agi xs)) w := by
  have hp' : tmps[p]?.getD undef = .pointer (some ⟨g, 0, none⟩) := by simpa using hp
  have hr := run_loadVar_row (P := Tryz.prog) w g t ty (agi xs) (0, 0) d hg hu (by cases d <;> first | rfl | (simp [isAggD] at hd)) (by rw [hi, agi_size, hl])
  simp [results, h, hp', asAddr, hr]
end Go.Proofs.YthoiikkjjaldnaaGreatDoor

/- Package conceal's Keep. -/
namespace Go.Proofs.YthoiikkjjaldnaaGreatDoor
set_option linter.unusedVariables false
set_option linter.unusedSimpArgs false
set_option maxRecDepth 100000
open Go.RowKit

/-! Plain facts. -/
def keepL (h x : List Int) : List Int := h.drop 40 ++ x.map s16
def keepA (h x : List Int) (n : Nat) : List Int := if n = 40 then keepL h x else List.replicate 80 0
def keepE (n : Nat) : Int := if n = 40 then 0 else 1
theorem keepL_len {h x : List Int} (hh : h.length = 80) (hx : x.length = 40) : (keepL h x).length = 80 := by unfold keepL; simp [hh, hx]
theorem keepL_lo {h x : List Int} (hh : h.length = 80) (j : Nat) (hj : j < 40) : (keepL h x).getD j 0 = h.getD (40 + j) 0 := by
  unfold keepL
  simp [List.getD_eq_getElem?_getD, List.getElem?_append_left (show j < (h.drop 40).length by simp; omega)]
theorem keepL_hi {h x : List Int} (hh : h.length = 80) (hx : x.length = 40) (j : Nat) (hj : j < 40) : (keepL h x).getD (40 + j) 0 = s16 (x.getD j 0) := by
  unfold keepL
  have hl : (h.drop 40).length = 40 := by simp [hh]
  rw [List.getD_eq_getElem?_getD, List.getElem?_append_right (by omega), hl, Nat.add_sub_cancel_left]
  simp [List.getD_eq_getElem?_getD, List.getElem?_eq_getElem (show j < x.length by omega)]
theorem keep_end {h x ys : List Int} (hh : h.length = 80) (hx : x.length = 40) (h1 : ys.length = 80) (h2 : ∀ j, j < 40 → ys.getD j 0 = h.getD (40 + j) 0) (h3 : ∀ j, j < 40 → ys.getD (40 + j) 0 = s16 (x.getD j 0)) : ys = keepL h x := by
  refine list_ext (by rw [h1, keepL_len hh hx]) (fun k hk => ?_)
  by_cases hlt : k < 40
  · rw [h2 k hlt, keepL_lo hh k hlt]
  · obtain ⟨j, rfl⟩ : ∃ j, k = 40 + j := ⟨k - 40, by omega⟩
    rw [h3 j (by omega), keepL_hi hh hx j (by omega)]
theorem keepA_len {h x : List Int} {n : Nat} (hh : h.length = 80) (hx : x.length = n) : (keepA h x n).length = 80 := by
  unfold keepA
  split
  · exact keepL_len hh (by omega)
  · simp
def Keeps (w : World) (h x : List Int) (n : Nat) (e : Ending) (w' : World) : Prop := e = .returned (.tuple #[.agg (agi (keepA h x n)), .int .i64 (keepE n)]) ∧ Below w.heap.size w w'
def Z80 : List Int := List.replicate 80 0
theorem z80_ag : Tryz.zeroCells23 = agi Z80 := by kernel_rfl
theorem size80k : (Tryz.prog.info? 23).map (·.size) = some 80 := by kernel_rfl

/-- The two boxes: the samples that are kept, the answer's. -/
structure Kx (w wr : World) (ys : List Int) : Prop where
  A : IB wr w.heap.size 23 ys
  R : IB wr (w.heap.size + 1) 23 Z80
  bel : Below w.heap.size w wr
theorem Kx.start (w : World) (h : List Int) : Kx w ((w.alloc (.cells (agi h) 23)).alloc (.cells Tryz.zeroCells23 23)) h := by
  have h1 := IB.new w 23 h
  have h2 := IB.new (w.alloc (.cells (agi h) 23)) 23 Z80
  simp only [World.size_alloc] at h2
  rw [z80_ag]
  exact ⟨Blk.alloc h1 _, h2, ((Below.refl _ _).alloc (Nat.le_refl _) _).alloc (by simp) _⟩
theorem Kx.set_ {w wr : World} {ys : List Int} (s : Kx w wr ys) (k : Nat) (x : Int) : Kx w (wr.setCell ⟨w.heap.size, k, none⟩ (.int .i64 x)) (ys.set k x) :=
  ⟨IB.set_ s.A k x, Blk.far s.R (by simp) _, s.bel.setCell (by simp) _⟩
theorem Kx.drew {w wr : World} {ys : List Int} (s : Kx w wr ys) : Kx w wr.drew ys := ⟨s.A, s.R, s.bel.drew⟩

set_option maxHeartbeats 4000000 in
theorem keep_any (h x : List Int) (A : Option Addr) (c n : Nat) (w : World) (hh : h.length = 80) (hr : Rs w w.heap.size A x) (hn : x.length = n) (hl : n ≤ 17592186044416) :
    Calls Tryz.prog 107 #[.agg (agi h), .slice A n c] w (Keeps w h x n) := by
  have hR := results_row2 (fn := Tryz.f107) (p := 4) (q := 5) (ty := 23) rfl
  have S0 := hid (Kx.start w h)
  have HR := hid hr
  have HN := hid hn
  have HH := hid hh
  by_cases h40 : n = 40
  · subst h40
    have FA : keepA h x 40 = keepL h x := if_pos rfl
    have KL := hid (keepL_len hh hn)
    have FA := hid FA
    have D40 := hid (show (h.drop 40).length = 40 by simp [hh])
    have HZ := hid (show h.drop 40 ++ h.drop 40 = h.take 0 ++ h.drop 40 ++ h.drop (0 + (h.drop 40).length) by simp [hh])
    have HZ1 := hid (show (h.drop 40 ++ h.drop 40).length = 80 by simp [hh])
    have HZ2 := hid (fun (j : Nat) (hj : j < 40) => show (h.drop 40 ++ h.drop 40).getD j 0 = h.getD (40 + j) 0 by
      simp [List.getD_eq_getElem?_getD, List.getElem?_append_left (show j < (h.drop 40).length by simp; omega)])
    have HD := hid (fun (j : Nat) (hj : j < 40) => show (h.drop 40).getD j 0 = h.getD (40 + j) 0 by simp [List.getD_eq_getElem?_getD])
    clear hr hn hh
    go_enter Tryz.func107, Tryz.ntmps107
    go_wp2
    go_region_law (refine step_copyI rfl (.tmp 12) (.tmp 13) 27 27 rfl Tryz.underlying27 w.heap.size 0 80 80 ⟨w.heap.size, 40, none⟩ 40 40 (by simp [Act.eval, Act.put]) (by simp [Act.eval, Act.put]) 23 h (h.drop 40) (h.drop 40 ++ h.drop 40) S0.out.A (by rw [D40.out]; rfl) (fun j hj => by rw [D40.out] at hj; rw [HD.out j hj, Addr.add_mid]; exact IB.cell S0.out.A (40 + j) (by rw [HH.out]; omega)) (by rw [D40.out, HH.out]; omega) HZ.out ?_)
    generalize hw4 : World.setRow _ _ _ = w4
    have S4 : Kx w w4 (h.drop 40 ++ h.drop 40) := by
      rw [← hw4]
      exact ⟨IB.setRow (Blk.drew S0.out.A) _, Blk.rowFar (Blk.drew S0.out.R) (by omega), below_setRow (Below.drew S0.out.bel) (Nat.le_refl _) _⟩
    have S4 := hid S4
    clear hw4 S0
    obtain ⟨ys0, hys0⟩ : ∃ ys0, ys0 = h.drop 40 ++ h.drop 40 := ⟨_, rfl⟩
    rw [← hys0] at S4 HZ1 HZ2
    clear hys0
    generalize ((h.length - 40 : Nat) : Int) = u14
    simp only [Exit.then]
    go_wp2
    go_loopw [17] (fun iv wr => ∃ (k : Nat) (ys : List Int), k ≤ 40 ∧ iv = .int .i64 k ∧ Hid (ys.length = 80 ∧ (∀ j, j < 40 → ys.getD j 0 = h.getD (40 + j) 0) ∧ ∀ j, j < k → ys.getD (40 + j) 0 = s16 (x.getD j 0)) ∧ Hid (Kx w wr ys)) (fun iv _ => 40 - (intOf iv).toNat)
    case atStart => exact ⟨0, _, by omega, rfl, hid ⟨HZ1.out, HZ2.out, fun j h => by omega⟩, S4⟩
    case round =>
      clear S4
      obtain ⟨k, ys, hk, rfl, HY, HS⟩ := hrel
      by_cases hlt : k < 40
      · obtain ⟨ad, rfl, _, c1⟩ := (HR.out.below HS.out.bel).at_ (k := k) (by rw [HN.out]; exact hlt)
        obtain ⟨J, hJ⟩ : ∃ J : Nat, J = 40 + k := ⟨_, rfl⟩
        obtain ⟨v, hv⟩ : ∃ v, v = x.getD k 0 := ⟨_, rfl⟩
        rw [← hv] at c1
        have co := IB.cell HS.out.A J (by rw [HY.out.1]; omega)
        have fo := Blk.frozen HS.out.A J
        have hwJ : IntKind.i64.wrap (40 + (k : Int)) = (J : Nat) := by rw [IntKind.wrap_i64]; omega
        have hJ80 : (J : Int) < 80 := by omega
        have SX := hid (HS.out.set_ J (s16 v))
        have NEXT := hid (show (ys.set J (s16 v)).length = 80 ∧ (∀ j, j < 40 → (ys.set J (s16 v)).getD j 0 = h.getD (40 + j) 0) ∧ ∀ j, j < k + 1 → (ys.set J (s16 v)).getD (40 + j) 0 = s16 (x.getD j 0) from by
          obtain ⟨q1, q2, q3⟩ := HY.out
          refine ⟨by simpa using q1, fun j hj => ?_, fun j hj => ?_⟩
          · rw [get_set_other _ _ (by omega)]; exact q2 j hj
          · by_cases he : j = k
            · subst he
              rw [← hJ, get_set_same _ _ _ (by omega), hv]
            · rw [get_set_other _ _ (by omega)]
              exact q3 j (by omega))
        clear hJ hv
        go_wp2_with (go_at_call 61; refine (concealsat_any _ _).mono ?_; rintro e w' ⟨rfl, rfl⟩)
        go_roundw
        case rel => exact ⟨k + 1, _, by omega, by go_num, NEXT, SX⟩
        case measure => simp [intOf] <;> omega
      · obtain rfl : k = 40 := by omega
        have HF := keep_end HH.out HN.out HY.out.1 HY.out.2.1 HY.out.2.2
        subst HF
        have FIN := hid (below_setRow HS.out.bel (g := w.heap.size + 1) (by omega) (agi (keepL h x)))
        have hRow := hid (IB.setRow HS.out.R (keepL h x))
        go_wp2_with (first
          | (refine wpList_loadI rfl 23 (.tmp 2) rfl _ 23 (keepL h x) 80 _ rfl HS.out.A Tryz.underlying23 rfl size80k KL.out ?_)
          | (refine wpList_storeI rfl 23 (.tmp 4) (.tmp 28) rfl _ 23 Z80 (keepL h x) 80 rfl rfl HS.out.R size80k rfl KL.out ?_))
        refine bodyPost_ret (v := _) (hR _ _ _ 23 (keepL h x) _ 80 rfl hRow.out Tryz.underlying23 rfl size80k KL.out) rfl ?_
        exact ⟨by rw [FA.out]; rfl, FIN.out⟩
  · have FA := hid (show keepA h x n = Z80 from if_neg h40)
    have FE := hid (show keepE n = 1 from if_neg h40)
    have d1 : ((n : Int) == 40) = false := by simp; omega
    have d2 : ((n : Int) != 40) = true := by simp; omega
    clear h40
    have FIN := hid (below_setRow S0.out.bel (g := w.heap.size + 1) (by omega) (agi Z80))
    have hRow := hid (IB.setRow S0.out.R Z80)
    go_enter Tryz.func107, Tryz.ntmps107
    go_wp2_with (refine wpList_storeI rfl 23 (.tmp 4) (.tmp 11) rfl _ 23 Z80 Z80 80 rfl (congrArg Value.agg z80_ag) S0.out.R size80k rfl rfl ?_)
    refine bodyPost_ret (v := _) (hR _ _ _ 23 Z80 _ 80 rfl hRow.out Tryz.underlying23 rfl size80k rfl) rfl ?_
    exact ⟨by rw [FA.out, FE.out]; rfl, FIN.out⟩
end Go.Proofs.YthoiikkjjaldnaaGreatDoor

/- Package conceal's noise, and the reference's noises. -/
namespace Go.Proofs.YthoiikkjjaldnaaGreatDoor
set_option linter.unusedVariables false
set_option linter.unusedSimpArgs false
set_option maxRecDepth 100000
open Go.RowKit

/-! Plain facts. -/
def nzE (s : Int) : Nat → Int
  | 0 => s
  | k + 1 => nzE (nzS s) k
def nzL (s z : Int) : Nat → List Int
  | 0 => []
  | k + 1 => nzX s z :: nzL (nzS s) z k
theorem nzE_succ (s : Int) (k : Nat) : nzE s (k + 1) = nzS (nzE s k) := by
  induction k generalizing s with
  | zero => rfl
  | succ k ih => rw [nzE, ih, nzE]
theorem nzL_succ (s z : Int) (k : Nat) : nzL s z (k + 1) = nzL s z k ++ [nzX (nzE s k) z] := by
  induction k generalizing s with
  | zero => rfl
  | succ k ih => rw [nzL, ih, nzL]; rfl
theorem nzL_len (s z : Int) (k : Nat) : (nzL s z k).length = k := by
  induction k generalizing s with
  | zero => rfl
  | succ k ih => simp [nzL, ih]
theorem nzX_range (s z : Int) : -32768 ≤ nzX s z ∧ nzX s z ≤ 32767 := by
  have h1 := nzS_range s
  have h2 := nzZ_range z
  have h3 : -1073709056 ≤ (nzS s - 32768) * nzZ z ∧ (nzS s - 32768) * nzZ z ≤ 1073709056 := by
    have e1 : (nzS s - 32768) * nzZ z ≤ 32767 * nzZ z := Int.mul_le_mul_of_nonneg_right (by omega) h2.1
    have e2 : (-32768) * nzZ z ≤ (nzS s - 32768) * nzZ z := Int.mul_le_mul_of_nonneg_right (by omega) h2.1
    omega
  unfold nzX
  omega
theorem nzL_in (s z : Int) (k : Nat) : all16 (nzL s z k) = true := by
  unfold all16
  rw [List.all_eq_true]
  intro x hx
  induction k generalizing s with
  | zero => cases hx
  | succ k ih =>
    rcases List.mem_cons.1 hx with rfl | h
    · have := nzX_range s z
      exact ok16_yes this.1 this.2
    · exact ih _ h
theorem nzE_range {s : Int} (h1 : -9223372036854775808 ≤ s) (h2 : s ≤ 9223372036854775807) (k : Nat) : -9223372036854775808 ≤ nzE s k ∧ nzE s k ≤ 9223372036854775807 := by
  induction k generalizing s with
  | zero => exact ⟨h1, h2⟩
  | succ k ih => have := nzS_range s; exact ih (by omega) (by omega)
theorem fill_next (s z : Int) (n k : Nat) (h : k < n) : (nzL s z k ++ List.replicate (n - k) 0).set k (nzX (nzE s k) z) = nzL s z (k + 1) ++ List.replicate (n - (k + 1)) 0 := by
  have hl := nzL_len s z k
  obtain ⟨d, rfl⟩ : ∃ d, n = k + 1 + d := ⟨n - (k + 1), by omega⟩
  have e : k + 1 + d - k = d + 1 := by omega
  have e2 : k + 1 + d - (k + 1) = d := by omega
  rw [e, e2, List.replicate_succ, List.set_append_right _ _ (by omega), hl, Nat.sub_self, List.set_cons_zero, nzL_succ, List.append_assoc]
  rfl
theorem fill_len (s z : Int) (n k : Nat) (h : k ≤ n) : (nzL s z k ++ List.replicate (n - k) 0).length = n := by rw [List.length_append, nzL_len, List.length_replicate]; omega

theorem own_lit1' (w : World) (v : Int) (base : Nat) (hb : base ≤ w.heap.size) : Own (w.alloc (.cells #[.int .i64 v] 3)) base (some ⟨w.heap.size, 0, none⟩) 1 [v] :=
  World.ownsRow_lit (base := base) (e := 3) (size := 1) w #[.int .i64 v] 1 hb (by unfold maxLen; omega) rfl
def NzA (w : World) (s z : Int) (n : Nat) (e : Ending) (w' : World) : Prop := ∃ A c, e = .returned (.tuple #[.int .i64 (nzE s n), .slice A n c]) ∧ Own w' w.heap.size A c (nzL s z n) ∧ Below w.heap.size w w'

set_option maxHeartbeats 2000000 in
theorem cnoise_any (s z : Int) (n : Nat) (w : World) (hn : n ≤ 1000) : Calls Tryz.prog 144 #[.int .i64 s, .int .i64 z, .int .i64 n] w (NzA w s z n) := by
  have hn2 : (n : Int) ≤ 1000 := by omega
  go_enter Tryz.func144, Tryz.ntmps144
  go_wp2_with (at_make; refine wpList_makeI rfl _ _ rfl .i64 .i64 n rfl rfl w.heap.size (by omega) (Nat.le_refl _) ?_; intro w1 hO hG; have O1 := hid hO; have B1 := hid ((Below.refl w.heap.size w).grown hG (Nat.le_refl _) (by simp)); clear hO hG)
  go_loopw [0, 14] (fun sv iv wr => ∃ (k : Nat), k ≤ n ∧ iv = .int .i64 k ∧ sv = .int .i64 (nzE s k) ∧ Hid (Own wr w.heap.size (some ⟨w.heap.size, 0, none⟩) n (nzL s z k ++ List.replicate (n - k) 0)) ∧ Hid (Below w.heap.size w wr)) (fun _ iv _ => n - (intOf iv).toNat)
  case atStart => exact ⟨0, by omega, rfl, rfl, O1, B1⟩
  case round =>
    clear O1 B1
    obtain ⟨k, hk, rfl, rfl, HO, HB⟩ := hrel
    by_cases hlt : k < n
    · have HL := hid (fill_len s z n k hk)
      have co := HO.out.cell k (by rw [HL.out]; exact hlt)
      have fo := HO.out.frozen k
      have NO := hid (show Own _ _ _ _ _ from by have := HO.out.set_ k (by rw [HL.out]; exact hlt) (nzX (nzE s k) z); rwa [fill_next s z n k hlt] at this)
      have NB := hid (HB.out.setCell (p := ⟨w.heap.size, k, none⟩) (Nat.le_refl _) (.int .i64 (nzX (nzE s k) z)))
      have hkn : (k : Int) < n := by omega
      have NE := hid (nzE_succ s k)
      have KN := hid (fun W => noise_any (nzE s k) z W)
      generalize nzX (nzE s k) z = x at *
      generalize (nzL s z k ++ List.replicate (n - k) 0).getD k 0 = x0 at *
      generalize hE : nzE s k = E at *
      clear hE
      go_wp2_with (go_at_call 187; refine (KN.out _).mono ?_; rintro e w' ⟨rfl, rfl⟩)
      go_roundw
      case rel => exact ⟨k + 1, by omega, by go_num, by rw [NE.out], NO, NB⟩
      case measure => simp [intOf] <;> omega
    · obtain rfl : k = n := by omega
      have OF := hid (show Own wr w.heap.size (some ⟨w.heap.size, 0, none⟩) k (nzL s z k) from by have := HO.out; rwa [Nat.sub_self, List.replicate_zero, List.append_nil] at this)
      clear HO
      go_wp2
      go_ret2
      exact ⟨_, _, rfl, OF.out, HB.out⟩
set_option maxHeartbeats 2000000 in
theorem refNoises_any (z : Int) : ∀ (n : Nat) (s : Int) (w : World), n ≤ 1000 → -9223372036854775808 ≤ s → s ≤ 9223372036854775807 → Calls Tryz.prog 150 #[.int .i64 s, .int .i64 z, .int .i64 n] w (NzA w s z n)
  | 0, s, w, _, _, _ => by
    go_enter Tryz.func150, Tryz.ntmps150
    go_wp2
    go_ret2
    exact ⟨none, 0, rfl, Own.nil, Below.refl _ _⟩
  | n + 1, s, w, hn, h1, h2 => by
    have K1 := hid (fun W => refNoise_any s z W h1 h2)
    have K2 := hid (fun W => refNoises_any z n (nzS s) W (by omega) (by have := nzS_range s; omega) (by have := nzS_range s; omega))
    obtain ⟨m, hm⟩ : ∃ m, m = n + 1 := ⟨_, rfl⟩
    rw [← hm]
    have d1 : ((m : Int) == 0) = false := by simp; omega
    have d2 : ¬ (m : Int) = 0 := by omega
    have hw1 : IntKind.i64.wrap ((m : Int) - 1) = (n : Nat) := by rw [IntKind.wrap_i64]; omega
    have HM := hid hm
    clear hm h1 h2
    go_enter Tryz.func150, Tryz.ntmps150
    go_wp2_with fail
    refine (K1.out _).mono ?_
    rintro e w1 ⟨rfl, hB⟩
    have B1 := hid hB
    clear hB
    go_wp2_with fail
    refine (K2.out _).mono ?_
    rintro e w2 ⟨A2, c2, rfl, hO, hB⟩
    have B2 := hid (B1.out.trans (hB.mono B1.out.size))
    have R2 := hid hO.reads
    have NL := hid (nzL_len (nzS s) z n)
    clear hO hB B1
    have LE := hid B2.out.size
    have F1 := hid (show nzE s m = nzE (nzS s) n by rw [HM.out]; rfl)
    have F2 := hid (show nzL s z m = [nzX s z] ++ nzL (nzS s) z n by rw [HM.out]; rfl)
    generalize nzL (nzS s) z n = l at *
    generalize nzE (nzS s) n = E at *
    generalize nzX s z = x at *
    go_wp2_with (at_builtin; refine wpList_catN rfl (.tmp 30) (.tmp 31) rfl w.heap.size (some ⟨w2.heap.size, 0, none⟩) 1 1 [x] rfl rfl (own_lit1' w2 x _ LE.out) w2.heap.size A2 c2 n l rfl NL.out (R2.out.below ((Below.refl _ _).alloc (Nat.le_refl _) _)) (by omega) (by simp; have := LE.out; omega) ?_; intro A3 c3 w5 hO hG hA; have O5 := hid hO; have B5 := hid ((B2.out.alloc LE.out (.cells #[.int .i64 x] 3)).grown hG (by simp; have := LE.out; omega) (fun k hk => by injection hk with hk; have := LE.out; show w.heap.size ≤ k; rw [← hk]; exact LE.out)); clear hO hG hA)
    go_ret2
    exact ⟨A3, c3, by rw [F1.out, HM.out, Nat.add_comm n 1]; rfl, by rw [F2.out]; exact O5.out, B5.out⟩
end Go.Proofs.YthoiikkjjaldnaaGreatDoor

/- The reference's Keep. -/
namespace Go.Proofs.YthoiikkjjaldnaaGreatDoor
set_option linter.unusedVariables false
set_option linter.unusedSimpArgs false
set_option maxRecDepth 100000
open Go.RowKit

/-- The three boxes: the past, the answer's, what is filled. -/
structure Kr (w wr : World) (h ys : List Int) : Prop where
  A : IB wr w.heap.size 23 h
  R : IB wr (w.heap.size + 1) 23 Z80
  O : IB wr (w.heap.size + 2) 23 ys
  bel : Below w.heap.size w wr
theorem Kr.start (w : World) (h : List Int) : Kr w (((w.alloc (.cells (agi h) 23)).alloc (.cells Tryz.zeroCells23 23)).alloc (.cells Tryz.zeroCells23 23)) h Z80 := by
  have h1 := IB.new w 23 h
  have h2 := IB.new (w.alloc (.cells (agi h) 23)) 23 Z80
  have h3 := IB.new ((w.alloc (.cells (agi h) 23)).alloc (.cells (agi Z80) 23)) 23 Z80
  simp only [World.size_alloc] at h2 h3
  rw [z80_ag]
  exact ⟨Blk.alloc (Blk.alloc h1 _) _, Blk.alloc h2 _, h3, (((Below.refl _ _).alloc (Nat.le_refl _) _).alloc (by simp) _).alloc (by simp; omega) _⟩
theorem Kr.set_ {w wr : World} {h ys : List Int} (s : Kr w wr h ys) (k : Nat) (x : Int) : Kr w (wr.setCell ⟨w.heap.size + 2, k, none⟩ (.int .i64 x)) h (ys.set k x) :=
  ⟨Blk.far s.A (by simp) _, Blk.far s.R (by simp) _, IB.set_ s.O k x, s.bel.setCell (p := ⟨w.heap.size + 2, k, none⟩) (by show w.heap.size ≤ w.heap.size + 2; omega) _⟩
theorem Kr.below {w wr w' : World} {h ys : List Int} (s : Kr w wr h ys) (hb : Below wr.heap.size wr w') : Kr w w' h ys :=
  ⟨Blk.below' s.A hb, Blk.below' s.R hb, Blk.below' s.O hb, s.bel.trans (hb.mono s.bel.size)⟩
theorem Kr.lt {w wr : World} {h ys : List Int} (s : Kr w wr h ys) : w.heap.size + 3 ≤ wr.heap.size := Blk.lt s.O

set_option maxHeartbeats 4000000 in
theorem refKeep_any (h x : List Int) (A : Option Addr) (c n : Nat) (w : World) (hh : h.length = 80) (hr : Rs w w.heap.size A x) (hn : x.length = n) (hl : n ≤ 17592186044416) (hw : W64 x) :
    Calls Tryz.prog 134 #[.agg (agi h), .slice A n c] w (Keeps w h x n) := by
  have hR := results_row2 (fn := Tryz.f134) (p := 4) (q := 5) (ty := 23) rfl
  have S0 := hid (Kr.start w h)
  have HR := hid hr
  have HN := hid hn
  have HH := hid hh
  have HW := hid hw
  by_cases h40 : n = 40
  · subst h40
    have FA : keepA h x 40 = keepL h x := if_pos rfl
    have KL := hid (keepL_len hh hn)
    have LO := hid (fun j hj => keepL_lo (x := x) hh j hj)
    have HI := hid (fun j hj => keepL_hi hh hn j hj)
    have FA' := hid FA
    clear hr hn hh hw FA
    go_enter Tryz.func134, Tryz.ntmps134
    go_wp2
    go_loopw [12] (fun iv wr => ∃ (k : Nat) (ys : List Int), k ≤ 80 ∧ iv = .int .i64 k ∧ Hid (ys.length = 80 ∧ ∀ j, j < k → ys.getD j 0 = (keepL h x).getD j 0) ∧ Hid (Kr w wr h ys)) (fun iv _ => 80 - (intOf iv).toNat)
    case atStart => exact ⟨0, _, by omega, rfl, hid ⟨rfl, fun j h => by omega⟩, S0⟩
    case round =>
      clear S0
      obtain ⟨k, ys, hk, rfl, HY, HS⟩ := hrel
      by_cases hlt : k < 80
      · have NEXT := fun v (hv : v = (keepL h x).getD k 0) => hid (show (ys.set k v).length = 80 ∧ ∀ j, j < k + 1 → (ys.set k v).getD j 0 = (keepL h x).getD j 0 from by
          obtain ⟨q1, q3⟩ := HY.out
          refine ⟨by simpa using q1, fun j hj => ?_⟩
          by_cases he : k = j
          · subst he
            rw [get_set_same _ _ _ (by omega), hv]
          · rw [get_set_other _ _ he]
            exact q3 j (by omega))
        have hk80 : (k : Int) < 80 := by omega
        by_cases hlow : k < 40
        · obtain ⟨J, hJ⟩ : ∃ J : Nat, J = k + 40 := ⟨_, rfl⟩
          have ci := IB.cell HS.out.A J (by rw [HH.out]; omega)
          have NX := NEXT (h.getD J 0) (by rw [LO.out k hlow, hJ, Nat.add_comm])
          have SX := hid (HS.out.set_ k (h.getD J 0))
          have co := IB.cell HS.out.O k (by rw [HY.out.1]; exact hlt)
          have fo := Blk.frozen HS.out.O k
          have hwJ : IntKind.i64.wrap ((k : Int) + 40) = (J : Nat) := by rw [IntKind.wrap_i64]; omega
          have hJ80 : (J : Int) < 80 := by omega
          generalize h.getD J 0 = v at *
          clear hJ NEXT
          go_wp2
          go_roundw
          case rel => exact ⟨k + 1, _, by omega, by go_num, NX, SX⟩
          case measure => simp [intOf] <;> omega
        · obtain ⟨d, hd⟩ : ∃ d : Nat, k = 40 + d := ⟨k - 40, by omega⟩
          obtain ⟨ad, rfl, _, c1⟩ := (HR.out.below HS.out.bel).at_ (k := d) (by rw [HN.out]; omega)
          have vb := HW.out.at_ d
          have hv2 : s16 (x.getD d 0) = (keepL h x).getD k 0 := by rw [hd, HI.out d (by omega)]
          generalize x.getD d 0 = v at *
          have NX := NEXT (s16 v) hv2
          have SX := hid (fun w' (hb : Below wr.heap.size wr w') => (HS.out.below hb).set_ k (s16 v))
          have KS := hid (fun W => S_any v W vb.1 vb.2)
          have LT := hid HS.out.lt
          have hwd : IntKind.i64.wrap ((k : Int) - 40) = (d : Nat) := by rw [IntKind.wrap_i64]; omega
          have hd40 : (d : Int) < 40 := by omega
          have hd0 : ¬ (k : Int) < 40 := by omega
          have HK := hid hd
          clear hd NEXT hv2 vb hlow
          go_wp2_with fail
          refine (KS.out _).mono ?_
          rintro e w9 ⟨rfl, hB⟩
          have SX9 := hid (SX.out _ hB)
          have S9 := HS.out.below hB
          have co := IB.cell S9.O k (by rw [HY.out.1]; exact hlt)
          have fo := Blk.frozen S9.O k
          clear hB S9
          go_wp2
          go_roundw
          case rel => exact ⟨k + 1, _, by omega, by go_num, NX, SX9⟩
          case measure => simp [intOf] <;> omega
      · obtain rfl : k = 80 := by omega
        have HF : ys = keepL h x := list_ext (by rw [HY.out.1, KL.out]) (fun k hk => HY.out.2 k (by rw [HY.out.1] at hk; exact hk))
        subst HF
        have FIN := hid (below_setRow HS.out.bel (g := w.heap.size + 1) (by omega) (agi (keepL h x)))
        have hRow := hid (IB.setRow HS.out.R (keepL h x))
        go_wp2_with (first
          | (refine wpList_loadI rfl 23 (.tmp 6) rfl _ 23 (keepL h x) 80 _ rfl HS.out.O Tryz.underlying23 rfl size80k KL.out ?_)
          | (refine wpList_storeI rfl 23 (.tmp 4) (.tmp 32) rfl _ 23 Z80 (keepL h x) 80 rfl rfl HS.out.R size80k rfl KL.out ?_))
        refine bodyPost_ret (v := _) (hR _ _ _ 23 (keepL h x) _ 80 rfl hRow.out Tryz.underlying23 rfl size80k KL.out) rfl ?_
        exact ⟨by rw [FA'.out]; rfl, FIN.out⟩
  · have FA := hid (show keepA h x n = Z80 from if_neg h40)
    have FE := hid (show keepE n = 1 from if_neg h40)
    have d1 : ((n : Int) == 40) = false := by simp; omega
    have d2 : ((n : Int) != 40) = true := by simp; omega
    clear h40
    have FIN := hid (below_setRow S0.out.bel (g := w.heap.size + 1) (by omega) (agi Z80))
    have hRow := hid (IB.setRow S0.out.R Z80)
    go_enter Tryz.func134, Tryz.ntmps134
    go_wp2_with (first
      | (refine wpList_loadI rfl 23 (.tmp 6) rfl _ 23 Z80 80 _ rfl S0.out.O Tryz.underlying23 rfl size80k rfl ?_)
      | (refine wpList_storeI rfl 23 (.tmp 4) (.tmp 11) rfl _ 23 Z80 Z80 80 rfl rfl S0.out.R size80k rfl rfl ?_))
    refine bodyPost_ret (v := _) (hR _ _ _ 23 Z80 _ 80 rfl hRow.out Tryz.underlying23 rfl size80k rfl) rfl ?_
    exact ⟨by rw [FA.out, FE.out]; rfl, FIN.out⟩
end Go.Proofs.YthoiikkjjaldnaaGreatDoor

/- The memory of a session as a struct: its cells, its block, its fields set. -/
namespace Go.Proofs.YthoiikkjjaldnaaGreatDoor
set_option linter.unusedVariables false
set_option linter.unusedSimpArgs false
set_option maxRecDepth 100000
open Go.RowKit

/-- A memory. -/
structure Mm where
  r : List Int
  p : List Int
  e : List Int
  ga : Int
  pi : Int
  la : Int
  er : Int
  se : Int
  si : Bool
structure Mm.ok (m : Mm) : Prop where
  r : m.r.length = 8
  p : m.p.length = 8
  e : m.e.length = 80
def Mm.nums (m : Mm) : List Int := m.r ++ (m.p ++ (m.e ++ [m.ga, m.pi, m.la, m.er, m.se]))
def Mm.cs (m : Mm) : List Value := ints m.r ++ (ints m.p ++ (ints m.e ++ [.int .i64 m.ga, .int .i64 m.pi, .int .i64 m.la, .int .i64 m.er, .int .i64 m.se, .bool m.si]))
def Mm.ag (m : Mm) : Array Value := m.cs.toArray
def MB (w : World) (g : Nat) (m : Mm) : Prop := Blk w g 25 m.ag
/-- The fields but for the arrays. -/
def Mm.tl (m : Mm) : List Value := [.int .i64 m.ga, .int .i64 m.pi, .int .i64 m.la, .int .i64 m.er, .int .i64 m.se, .bool m.si]

section
variable {w w' : World} {g : Nat} {t : TypeId}
theorem range_of {cs : List Value} (h : Blk w g t cs.toArray) (A xs B : List Value) (he : cs = A ++ (xs ++ B)) {o : Nat} (ho : A.length = o) : w.rangeAt g o xs := fun j v hv => by
  subst he; subst ho
  rw [Blk.cell h]
  have hj := (List.getElem?_eq_some_iff.1 hv).1
  simp only [List.getElem?_toArray]
  rw [List.getElem?_append_right (by omega), Nat.add_sub_cancel_left, List.getElem?_append_left hj, hv]
theorem set_one {A B : List Value} {x y : Value} {o : Nat} (ho : A.length = o) : (A ++ x :: B).toArray.setIfInBounds o y = (A ++ y :: B).toArray := by
  subst ho
  simp
theorem blk_setCells : ∀ (vs xs A B : List Value) (w : World), Blk w g t (A ++ (xs ++ B)).toArray → vs.length = xs.length → Blk (w.setCells g A.length vs) g t (A ++ (vs ++ B)).toArray
  | [], [], A, B, w, h, _ => by simpa [World.setCells] using h
  | v :: vs, x :: xs, A, B, w, h, hl => by
    have h1 := Blk.set_ h A.length v
    rw [List.cons_append, set_one rfl] at h1
    have h2 := blk_setCells vs xs (A ++ [v]) B (w.setCell ⟨g, A.length, none⟩ v) (by simpa using h1) (by simpa using hl)
    simpa [World.setCells] using h2
theorem below_sc {B b : Nat} {a : World} (hb : B ≤ b) : ∀ (vs : List Value) (o : Nat) (w : World), Below B a w → Below B a (w.setCells b o vs)
  | [], _, _, h => h
  | v :: vs, o, w, h => below_sc hb vs (o + 1) _ (h.setCell hb v)
theorem blk_sc {k b : Nat} {tt : TypeId} {cs : Array Value} (hk : k ≠ b) : ∀ (vs : List Value) (o : Nat) (w : World), Blk w k tt cs → Blk (w.setCells b o vs) k tt cs
  | [], _, _, h => h
  | v :: vs, o, w, h => blk_sc hk vs (o + 1) _ (Blk.far h (p := ⟨b, o, none⟩) hk v)
end

section
variable {w w' : World} {g : Nat} {m : Mm}
theorem MB.R (h : MB w g m) (_ : m.ok) : w.rangeAt g 0 (ints m.r) := range_of h [] (ints m.r) _ rfl rfl
theorem MB.P (h : MB w g m) (k : m.ok) : w.rangeAt g 8 (ints m.p) := range_of h (ints m.r) (ints m.p) (ints m.e ++ m.tl) rfl (by rw [ints_len, k.r])
theorem MB.E (h : MB w g m) (k : m.ok) : w.rangeAt g 16 (ints m.e) := range_of h (ints m.r ++ ints m.p) (ints m.e) m.tl (by unfold Mm.cs Mm.tl; simp only [List.append_assoc]) (by simp only [List.length_append, ints_len, k.r, k.p])
theorem MB.T (h : MB w g m) (k : m.ok) : w.rangeAt g 96 m.tl := range_of h (ints m.r ++ (ints m.p ++ ints m.e)) m.tl [] (by unfold Mm.cs Mm.tl; simp only [List.append_assoc, List.append_nil]) (by simp only [List.length_append, ints_len, k.r, k.p, k.e])
theorem MB.cga (h : MB w g m) (k : m.ok) : w.cell? ⟨g, 96, none⟩ = some (.int .i64 m.ga) := h.T k 0 _ rfl
theorem MB.cpi (h : MB w g m) (k : m.ok) : w.cell? ⟨g, 97, none⟩ = some (.int .i64 m.pi) := h.T k 1 _ rfl
theorem MB.cla (h : MB w g m) (k : m.ok) : w.cell? ⟨g, 98, none⟩ = some (.int .i64 m.la) := h.T k 2 _ rfl
theorem MB.cer (h : MB w g m) (k : m.ok) : w.cell? ⟨g, 99, none⟩ = some (.int .i64 m.er) := h.T k 3 _ rfl
theorem MB.cse (h : MB w g m) (k : m.ok) : w.cell? ⟨g, 100, none⟩ = some (.int .i64 m.se) := h.T k 4 _ rfl
theorem MB.csi (h : MB w g m) (k : m.ok) : w.cell? ⟨g, 101, none⟩ = some (.bool m.si) := h.T k 5 _ rfl
theorem MB.whole (h : MB w g m) : w.rangeAt g 0 m.cs := range_of h [] m.cs [] (by simp) rfl
theorem MB.frozen (h : MB w g m) (i : Nat) : w.frozen? ⟨g, i, none⟩ = false := Blk.frozen h i
theorem MB.new (w : World) (m : Mm) : MB (w.alloc (.cells m.ag 25)) w.heap.size m := Blk.new w _ _
theorem Mm.len (m : Mm) (k : m.ok) : m.cs.length = 102 := by unfold Mm.cs; simp only [List.length_append, ints_len, k.r, k.p, k.e, List.length_cons, List.length_nil]
theorem Mm.size (m : Mm) (k : m.ok) : m.ag.size = 102 := by unfold Mm.ag; rw [List.size_toArray, m.len k]
theorem Mm.one (m : Mm) : m.ag.all (·.oneCell') = true := by
  rw [Array.all_eq_true_iff_forall_mem]
  intro v hv
  have : v ∈ m.cs := by simpa [Mm.ag] using hv
  unfold Mm.cs at this
  simp only [List.mem_append, List.mem_cons, List.not_mem_nil, or_false] at this
  rcases this with h | h | h | h | h | h | h | h | h
  · exact ints_one _ _ h
  · exact ints_one _ _ h
  · exact ints_one _ _ h
  all_goals (subst h; rfl)
theorem MB.there (h : MB w g m) (k : m.ok) : w.there g 0 102 := fun j hj => by
  refine ⟨?_, Blk.frozen h _⟩
  rw [Blk.cell h]
  have : 0 + j < m.ag.size := by rw [m.size k]; omega
  rw [Array.getElem?_eq_getElem this]; rfl
theorem MB.thereE (h : MB w g m) (k : m.ok) : w.there g 16 80 := fun j hj => by
  have h1 := h.there k (16 + j) (by omega)
  rwa [Nat.zero_add] at h1
theorem MB.set_e (h : MB w g m) (k : m.ok) (e : List Int) (he : e.length = 80) : MB (w.setCells g 16 (ints e)) g { m with e := e } := by
  have h0 : Blk w g 25 ((ints m.r ++ ints m.p) ++ (ints m.e ++ m.tl)).toArray := by
    have e1 : m.ag = ((ints m.r ++ ints m.p) ++ (ints m.e ++ m.tl)).toArray := by unfold Mm.ag Mm.cs Mm.tl; simp only [List.append_assoc]
    rw [← e1]; exact h
  have h1 := blk_setCells (ints e) (ints m.e) _ _ w h0 (by rw [ints_len, ints_len, he, k.e])
  have hl : (ints m.r ++ ints m.p).length = 16 := by simp only [List.length_append, ints_len, k.r, k.p]
  rw [hl] at h1
  have e2 : ({ m with e := e } : Mm).ag = ((ints m.r ++ ints m.p) ++ (ints e ++ m.tl)).toArray := by unfold Mm.ag Mm.cs Mm.tl; simp only [List.append_assoc]
  unfold MB; rw [e2]; exact h1
theorem MB.set_tl (h : MB w g m) (k : m.ok) (j : Nat) (v : Value) (m' : Mm) (hr : m'.r = m.r) (hp : m'.p = m.p) (he : m'.e = m.e) (ht : m'.tl = m.tl.set j v) (hj : j < 6) : MB (w.setCell ⟨g, 96 + j, none⟩ v) g m' := by
  have h1 := Blk.set_ h (96 + j) v
  have e0 : ∀ m : Mm, m.ag = ((ints m.r ++ (ints m.p ++ ints m.e)) ++ m.tl).toArray := fun m => by unfold Mm.ag Mm.cs Mm.tl; simp only [List.append_assoc]
  have hl : (ints m.r ++ (ints m.p ++ ints m.e)).length = 96 := by simp only [List.length_append, ints_len, k.r, k.p, k.e]
  have e1 : m.ag.setIfInBounds (96 + j) v = m'.ag := by
    rw [e0 m, e0 m', hr, hp, he, ht]
    simp only [List.setIfInBounds_toArray]
    rw [List.set_append_right _ _ (by omega), hl, Nat.add_sub_cancel_left]
  rw [e1] at h1
  exact h1
theorem MB.set_se (h : MB w g m) (k : m.ok) (x : Int) : MB (w.setCell ⟨g, 100, none⟩ (.int .i64 x)) g { m with se := x } := h.set_tl k 4 (.int .i64 x) _ rfl rfl rfl rfl (by omega)
theorem MB.set_er (h : MB w g m) (k : m.ok) (x : Int) : MB (w.setCell ⟨g, 99, none⟩ (.int .i64 x)) g { m with er := x } := h.set_tl k 3 (.int .i64 x) _ rfl rfl rfl rfl (by omega)
theorem Mm.ok.se {m : Mm} (k : m.ok) (x : Int) : ({ m with se := x } : Mm).ok := ⟨k.r, k.p, k.e⟩
theorem Mm.ok.er {m : Mm} (k : m.ok) (x : Int) : ({ m with er := x } : Mm).ok := ⟨k.r, k.p, k.e⟩
theorem Mm.ok.ex {m : Mm} (k : m.ok) {e : List Int} (he : e.length = 80) : ({ m with e := e } : Mm).ok := ⟨k.r, k.p, he⟩
end

theorem sizeM : (Tryz.prog.info? 25).map (·.size) = some 102 := by kernel_rfl

/-- An aggregate whose cells are numbers and a last Bool. -/
theorem value_agb {P : Program} {w : World} {r : Reach} {b : Nat} {t : TypeId} {v : Value} {d : TypeDesc} {n : Nat} {ti tb : TypeId} (ht : P.underlying t = some d) (hd : isAggD d = true) (hc : P.cellTypes P.depth t = some (List.replicate n ti ++ [tb])) (hn : P.cellsOf t = n + 1)
    (hti : P.underlying ti = some (.int .i64)) (htb : P.underlying tb = some .bool)
    (h : Value.okWide P w r b t v) : ∃ xs q, v = .agg (ints xs ++ [Value.bool q]).toArray ∧ xs.length = n ∧ W64 xs := by
  unfold Value.okWide at h
  rw [ht] at h
  have h' : ∃ cs, v = .agg cs ∧ cs.size = P.cellsOf t ∧ Row.okWide P w r b t cs := by
    cases d <;> first | exact h | (simp [isAggD] at hd)
  obtain ⟨cs, rfl, hs, ts, hts, _, hall⟩ := h'
  rw [hc] at hts
  obtain rfl : List.replicate n ti ++ [tb] = ts := by simpa using hts
  rw [hn] at hs
  have each : ∀ (i : Nat) (u : Value), i < n → cs[i]? = some u → ∃ z, u = Value.int .i64 z ∧ IntKind.i64.has z := by
    intro i u hi hu
    obtain ⟨q, hq, hk⟩ := hall i u hu
    have hq2 : q = ti := by
      rw [Nat.mod_eq_of_lt (by rw [List.length_append, List.length_replicate, List.length_singleton]; omega), List.getElem?_append_left (by rw [List.length_replicate]; exact hi)] at hq
      exact (List.mem_replicate.1 (List.mem_of_getElem? hq)).2
    subst hq2
    exact cell_int hti hk
  obtain ⟨q, hq⟩ : ∃ q, cs[n]? = some (.bool q) := by
    have hu : cs[n]? = some cs[n] := Array.getElem?_eq_getElem (by omega)
    obtain ⟨q, hq, hk⟩ := hall n _ hu
    have hq2 : q = tb := by
      rw [Nat.mod_eq_of_lt (by rw [List.length_append, List.length_replicate, List.length_singleton]; omega), List.getElem?_append_right (by rw [List.length_replicate]; exact Nat.le_refl _)] at hq
      simpa using hq.symm
    subst hq2
    obtain ⟨z, hz⟩ := cell_bool htb hk
    exact ⟨z, by rw [hu, hz]⟩
  have hl : cs.toList.length = n + 1 := by simpa using hs
  refine ⟨(cs.toList.take n).map intOf, q, ?_, by rw [List.length_map, List.length_take, hl]; omega, ?_⟩
  · have : cs.toList = ints ((cs.toList.take n).map intOf) ++ [Value.bool q] := by
      apply List.ext_getElem?
      intro i
      rcases Nat.lt_trichotomy i n with hi | hi | hi
      · rw [List.getElem?_append_left (by simp [ints]; omega)]
        unfold ints
        rw [List.map_map, List.getElem?_map, List.getElem?_take, if_pos hi]
        have hu : cs.toList[i]? = some (cs.toList[i]'(by omega)) := List.getElem?_eq_getElem _
        rw [hu]
        obtain ⟨z, hz, _⟩ := each i _ hi (by rw [← Array.getElem?_toList]; exact hu)
        rw [hz]; rfl
      · subst hi
        rw [List.getElem?_append_right (by rw [ints_len, List.length_map, List.length_take]; omega)]
        have : (ints ((cs.toList.take i).map intOf)).length = i := by rw [ints_len, List.length_map, List.length_take, hl]; omega
        rw [this, Nat.sub_self]
        simpa using hq
      · rw [List.getElem?_eq_none (by omega), List.getElem?_eq_none (by rw [List.length_append, ints_len, List.length_map, List.length_take, hl]; simp; omega)]
    rw [← this]
  · intro x hx
    obtain ⟨u, hu, rfl⟩ := List.mem_map.1 hx
    obtain ⟨i, hi⟩ := List.getElem?_of_mem hu
    rw [List.getElem?_take] at hi
    split at hi
    · next hlt =>
      obtain ⟨z, rfl, hz⟩ := each i u hlt (by simpa using hi)
      exact range_i64 hz
    · cases hi
theorem mm_of {xs : List Int} (h : xs.length = 101) (q : Bool) : ∃ m : Mm, m.ok ∧ m.nums = xs ∧ (ints xs ++ [Value.bool q]).toArray = m.ag := by
  obtain ⟨a, b, ha, hl, rfl⟩ : ∃ a b : List Int, a.length = 8 ∧ b.length = 93 ∧ xs = a ++ b := ⟨xs.take 8, xs.drop 8, by rw [List.length_take]; omega, by rw [List.length_drop]; omega, (List.take_append_drop 8 xs).symm⟩
  obtain ⟨p, c, hp, hl2, rfl⟩ : ∃ p c : List Int, p.length = 8 ∧ c.length = 85 ∧ b = p ++ c := ⟨b.take 8, b.drop 8, by rw [List.length_take]; omega, by rw [List.length_drop]; omega, (List.take_append_drop 8 b).symm⟩
  obtain ⟨e, f, he, hl3, rfl⟩ : ∃ e f : List Int, e.length = 80 ∧ f.length = 5 ∧ c = e ++ f := ⟨c.take 80, c.drop 80, by rw [List.length_take]; omega, by rw [List.length_drop]; omega, (List.take_append_drop 80 c).symm⟩
  match f, hl3 with
  | [x0, x1, x2, x3, x4], _ => exact ⟨⟨a, p, e, x0, x1, x2, x3, x4, q⟩, ⟨ha, hp, he⟩, rfl, by unfold Mm.ag Mm.cs; simp [ints]⟩
/-- A memory, handed in. -/
theorem value_mem {w : World} {r : Reach} {b : Nat} {v : Value} (h : Value.okWide Tryz.prog w r b 25 v) : ∃ m : Mm, v = .agg m.ag ∧ m.ok ∧ W64 m.nums := by
  obtain ⟨xs, q, rfl, hl, hw⟩ := value_agb (n := 101) (ti := 3) (tb := 4) Tryz.underlying25 rfl (by kernel_rfl) (by kernel_rfl) Tryz.underlying3 Tryz.underlying4 h
  obtain ⟨m, hk, e1, e2⟩ := mm_of hl q
  exact ⟨m, by rw [e2], hk, by rw [e1]; exact hw⟩

/-! A whole struct out of a block, into a block; as an answer. -/
section
variable {w : World} {g : Nat} {m : Mm}
theorem wpList_storeM {ops : Array Oper} {rest : List Oper} {o : Oper} {a : Act} {Q : Exit → Act → World → Prop} (hgd : o.guard = none) (x y : Operand) (ho : o.op = .store 25 x y)
    (g : Nat) (m0 : Mm) (m : Mm) (hx : a.eval x = .pointer (some ⟨g, 0, none⟩)) (hy : a.eval y = .agg m.ag) (h : MB w g m0) (k0 : m0.ok) (k : m.ok)
    (kk : wpList Tryz.prog ops Q rest (a.put o.dst undef) (w.setRow g m.ag)) : wpList Tryz.prog ops Q (o :: rest) a w :=
  wpList_store_row hgd 25 x y ho g m.ag hx hy 25 m0.ag h (by rw [sizeM, m.size k]) (by rw [m.size k, m0.size k0]) m.one kk
theorem wpList_loadM {ops : Array Oper} {rest : List Oper} {o : Oper} {a : Act} {Q : Exit → Act → World → Prop} (hw : Region.wanted o (yielded ops a.tmps) = true) (x : Operand) (ho : o.op = .load 25 x)
    (g : Nat) (m : Mm) (hx : a.eval x = .pointer (some ⟨g, 0, none⟩)) (h : MB w g m) (k0 : m.ok)
    (kk : wpList Tryz.prog ops Q rest (a.put o.dst (.agg m.ag)) w) : wpList Tryz.prog ops Q (o :: rest) a w :=
  Go.BigFrame.wpList_want hw fun K hK => wp_load_row 25 x ho g hx 25 m.ag (0, 0) _ h Tryz.underlying25 rfl (by rw [sizeM, m.size k0]) (hK _ _ kk)
theorem MB.setRow {m0 : Mm} (h : MB w g m0) (m : Mm) : MB (w.setRow g m.ag) g m := setRow_heap w g _ _ _ _ h
theorem results_mem1 {fn : Func} {p : Tmp} (h : fn.results = #[.cell p 25]) (tmps : Array Value) (w : World) (g : Nat) (m : Mm)
    (hp : tmps.getD p undef = .pointer (some ⟨g, 0, none⟩)) (hg : MB w g m) (k : m.ok) :
    (results fn tmps).run Tryz.prog w = .ok (.agg m.ag) w := by
  have hp' : tmps[p]?.getD undef = .pointer (some ⟨g, 0, none⟩) := by simpa using hp
  have hr := run_loadVar_row (P := Tryz.prog) w g 25 25 m.ag (0, 0) _ hg Tryz.underlying25 rfl (by rw [sizeM, m.size k])
  simp [results, h, hp', asAddr, hr]
theorem results_mem3 {fn : Func} {p q r : Tmp} (h : fn.results = #[.cell p 25, .tmp q, .tmp r]) (tmps : Array Value) (w : World) (g : Nat) (m : Mm)
    (hp : tmps.getD p undef = .pointer (some ⟨g, 0, none⟩)) (hg : MB w g m) (k : m.ok) :
    (results fn tmps).run Tryz.prog w = .ok (.tuple #[.agg m.ag, tmps.getD q undef, tmps.getD r undef]) w := by
  have hp' : tmps[p]?.getD undef = .pointer (some ⟨g, 0, none⟩) := by simpa using hp
  have hr := run_loadVar_row (P := Tryz.prog) w g 25 25 m.ag (0, 0) _ hg Tryz.underlying25 rfl (by rw [sizeM, m.size k])
  simp [results, h, hp', asAddr, hr]
end
def zeroM : Mm := ⟨List.replicate 8 0, List.replicate 8 0, List.replicate 80 0, 0, 0, 0, 0, 0, false⟩
theorem zeroM_ok : zeroM.ok := ⟨rfl, rfl, rfl⟩
theorem zeroM_ag : Tryz.zeroCells25 = zeroM.ag := by kernel_rfl
end Go.Proofs.YthoiikkjjaldnaaGreatDoor

/- Package conceal's Good and Fresh, and the reference's. -/
namespace Go.Proofs.YthoiikkjjaldnaaGreatDoor
set_option linter.unusedVariables false
set_option linter.unusedSimpArgs false
set_option maxRecDepth 100000
open Go.RowKit

/-! Plain facts. -/
def okK (x : Int) : Bool := decide (-31000 ≤ x ∧ x ≤ 31000)
theorem okK_yes {x : Int} (h1 : -31000 ≤ x) (h2 : x ≤ 31000) : okK x = true := by unfold okK; simp; omega
theorem okK_no {x : Int} (h : x < -31000 ∨ 31000 < x) : okK x = false := by unfold okK; simp; omega
/-- The numbers at the end. -/
def tailM (m : Mm) : Prop := (20 ≤ m.la ∧ m.la ≤ 79) ∧ (0 ≤ m.se ∧ m.se < 65536) ∧ (0 ≤ m.ga ∧ m.ga ≤ 32767) ∧ (0 ≤ m.pi ∧ m.pi ≤ 18022) ∧ 0 ≤ m.er ∧ m.er ≤ 6
instance (m : Mm) : Decidable (tailM m) := by unfold tailM; infer_instance
def goodM (m : Mm) : Bool := m.r.all okK && (all16 m.p && (all16 m.e && decide (tailM m)))
theorem goodM_r {m : Mm} (h : m.r.all okK = false) : goodM m = false := by unfold goodM; rw [h]; rfl
theorem goodM_p {m : Mm} (h : all16 m.p = false) : goodM m = false := by unfold goodM; rw [h]; simp
theorem goodM_e {m : Mm} (h : all16 m.e = false) : goodM m = false := by unfold goodM; rw [h]; simp
theorem goodM_t {m : Mm} (h : ¬ tailM m) : goodM m = false := by unfold goodM; simp [h]
theorem goodM_yes {m : Mm} (h1 : m.r.all okK = true) (h2 : all16 m.p = true) (h3 : all16 m.e = true) (h4 : tailM m) : goodM m = true := by unfold goodM; simp [h1, h2, h3, h4]
theorem goodM_of {m : Mm} (h : goodM m = true) : m.r.all okK = true ∧ all16 m.p = true ∧ all16 m.e = true ∧ tailM m := by
  unfold goodM at h
  simpa using h

theorem size80' : (Tryz.prog.info? 23).map (·.size) = some 80 := by kernel_rfl
theorem size8' : (Tryz.prog.info? 22).map (·.size) = some 8 := by kernel_rfl

set_option maxHeartbeats 4000000 in
theorem good_any (m : Mm) (k : m.ok) (w : World) : Calls Tryz.prog 22 #[.agg m.ag] w (AnsB' w (goodM m)) := by
  have I0 := hid (MB.new w m)
  have HB := hid ((Below.refl _ w).alloc (Nat.le_refl _) (.cells m.ag 25))
  obtain ⟨W, hW⟩ : ∃ W, W = w.alloc (.cells m.ag 25) := ⟨_, rfl⟩
  rw [← hW] at I0 HB
  have HW := hid hW
  clear hW
  have K := hid k
  have HI8 := hid (fun (xs : List Int) (hx : xs.length = 8) (j : Nat) (hj : j < 8) (w : World) => show (Instr.index 22 (.agg (ints xs).toArray) (.int .i64 (j : Nat))).run Tryz.prog w = .ok (.int .i64 (xs.getD j 0)) w from run_index_agi Tryz.underlying22 xs hx j hj w)
  have HI80 := hid (fun (xs : List Int) (hx : xs.length = 80) (j : Nat) (hj : j < 80) (w : World) => show (Instr.index 23 (.agg (ints xs).toArray) (.int .i64 (j : Nat))).run Tryz.prog w = .ok (.int .i64 (xs.getD j 0)) w from run_index_agi Tryz.underlying23 xs hx j hj w)
  clear k
  go_enter Tryz.func22, Tryz.ntmps22
  go_wp2_with (first
    | (rw [← HW.out])
    | (refine wpList_load_mid rfl 22 (.tmp 10) rfl _ _ rfl (ints m.r) _ (I0.out.R K.out) Tryz.underlying22 rfl (by rw [ints_len, K.out.r]; exact size8') ?_))
  go_loop [12] (fun iv => ∃ k : Nat, k ≤ 8 ∧ iv = .int .i64 k ∧ Hid (allTo okK m.r k)) (fun iv => 8 - (intOf iv).toNat)
  case atStart => exact ⟨0, by omega, rfl, hid allTo.zero⟩
  case round =>
    obtain ⟨k, hk, rfl, HY⟩ := hrel
    by_cases hlt : k < 8
    · have hix := HI8.out m.r K.out.r k hlt
      obtain ⟨x, hx⟩ : ∃ x, x = m.r.getD k 0 := ⟨_, rfl⟩
      rw [← hx] at hix
      have HX := hid hx
      clear hx
      by_cases b1 : x < -31000
      · have HF := hid (show goodM m = false from goodM_r (all_no (i := k) (by rw [K.out.r]; exact hlt) (okK_no (by rw [← HX.out]; exact .inl b1))))
        go_wp2
        go_ret
        exact ⟨by rw [HF.out]; rfl, HB.out⟩
      by_cases b2 : 31000 < x
      · have HF := hid (show goodM m = false from goodM_r (all_no (i := k) (by rw [K.out.r]; exact hlt) (okK_no (by rw [← HX.out]; exact .inr b2))))
        go_wp2
        go_ret
        exact ⟨by rw [HF.out]; rfl, HB.out⟩
      have HN := hid (HY.out.succ (by rw [← HX.out]; exact okK_yes (by omega) (by omega)))
      go_wp2
      go_round
      case rel => exact ⟨k + 1, by omega, by go_num, HN⟩
      case measure => simp [intOf] <;> omega
    · obtain rfl : k = 8 := by omega
      have HR := hid (show m.r.all okK = true from HY.out.all (by rw [K.out.r]; exact Nat.le_refl _))
      clear HY hlt hk
      go_wp2_with (refine wpList_load_mid rfl 22 (.tmp 22) rfl _ _ rfl (ints m.p) _ (I0.out.P K.out) Tryz.underlying22 rfl (by rw [ints_len, K.out.p]; exact size8') ?_)
      go_loop [24] (fun iv => ∃ k : Nat, k ≤ 8 ∧ iv = .int .i64 k ∧ Hid (allTo ok16 m.p k)) (fun iv => 8 - (intOf iv).toNat)
      case atStart => exact ⟨0, by omega, rfl, hid allTo.zero⟩
      case round =>
        obtain ⟨k, hk, rfl, HY⟩ := hrel
        by_cases hlt : k < 8
        · have hix := HI8.out m.p K.out.p k hlt
          obtain ⟨x, hx⟩ : ∃ x, x = m.p.getD k 0 := ⟨_, rfl⟩
          rw [← hx] at hix
          have HX := hid hx
          clear hx
          by_cases hbad : x < -32768 ∨ 32767 < x
          · have HF := hid (show goodM m = false from goodM_p (all_no (i := k) (by rw [K.out.p]; exact hlt) (ok16_no (by rw [← HX.out]; exact hbad))))
            have e1 : (x == s16 x) = false := by rw [beq_eq_false_iff_ne]; exact fun h => s16_ne hbad h.symm
            have e2 : (x != s16 x) = true := by rw [bne_iff_ne]; exact fun h => s16_ne hbad h.symm
            clear hbad
            go_wp2_with (go_at_call 61; refine (concealsat_any _ _).mono ?_; rintro e w' ⟨rfl, rfl⟩)
            go_ret
            exact ⟨by rw [HF.out]; rfl, HB.out⟩
          · have HN2 := hid (HY.out.succ (by rw [← HX.out]; exact ok16_yes (by omega) (by omega)))
            have e0 := s16_id (x := x) (by omega) (by omega)
            clear hbad
            go_wp2_with (go_at_call 61; refine (concealsat_any _ _).mono ?_; rintro e w' ⟨rfl, rfl⟩)
            go_round
            case rel => exact ⟨k + 1, by omega, by go_num, HN2⟩
            case measure => simp [intOf] <;> omega
        · obtain rfl : k = 8 := by omega
          have HP := hid (show all16 m.p = true from HY.out.all (by rw [K.out.p]; exact Nat.le_refl _))
          clear HY hlt hk
          go_wp2_with (refine wpList_load_mid rfl 23 (.tmp 32) rfl _ _ rfl (ints m.e) _ (I0.out.E K.out) Tryz.underlying23 rfl (by rw [ints_len, K.out.e]; exact size80') ?_)
          go_loop [34] (fun iv => ∃ k : Nat, k ≤ 80 ∧ iv = .int .i64 k ∧ Hid (allTo ok16 m.e k)) (fun iv => 80 - (intOf iv).toNat)
          case atStart => exact ⟨0, by omega, rfl, hid allTo.zero⟩
          case round =>
            obtain ⟨k, hk, rfl, HY⟩ := hrel
            by_cases hlt : k < 80
            · have hix := HI80.out m.e K.out.e k hlt
              obtain ⟨x, hx⟩ : ∃ x, x = m.e.getD k 0 := ⟨_, rfl⟩
              rw [← hx] at hix
              have HX := hid hx
              clear hx
              by_cases hbad : x < -32768 ∨ 32767 < x
              · have HF := hid (show goodM m = false from goodM_e (all_no (i := k) (by rw [K.out.e]; exact hlt) (ok16_no (by rw [← HX.out]; exact hbad))))
                have e1 : (x == s16 x) = false := by rw [beq_eq_false_iff_ne]; exact fun h => s16_ne hbad h.symm
                have e2 : (x != s16 x) = true := by rw [bne_iff_ne]; exact fun h => s16_ne hbad h.symm
                clear hbad
                go_wp2_with (go_at_call 61; refine (concealsat_any _ _).mono ?_; rintro e w' ⟨rfl, rfl⟩)
                go_ret
                exact ⟨by rw [HF.out]; rfl, HB.out⟩
              · have HN2 := hid (HY.out.succ (by rw [← HX.out]; exact ok16_yes (by omega) (by omega)))
                have e0 := s16_id (x := x) (by omega) (by omega)
                clear hbad
                go_wp2_with (go_at_call 61; refine (concealsat_any _ _).mono ?_; rintro e w' ⟨rfl, rfl⟩)
                go_round
                case rel => exact ⟨k + 1, by omega, by go_num, HN2⟩
                case measure => simp [intOf] <;> omega
            · obtain rfl : k = 80 := by omega
              have HE := hid (show all16 m.e = true from HY.out.all (by rw [K.out.e]; exact Nat.le_refl _))
              clear HY hlt hk
              have a1 : W.cell? ⟨w.heap.size, 98, none⟩ = some (.int .i64 m.la) := I0.out.cla K.out
              have a2 : W.cell? ⟨w.heap.size, 100, none⟩ = some (.int .i64 m.se) := I0.out.cse K.out
              have a3 : W.cell? ⟨w.heap.size, 96, none⟩ = some (.int .i64 m.ga) := I0.out.cga K.out
              have a4 : W.cell? ⟨w.heap.size, 97, none⟩ = some (.int .i64 m.pi) := I0.out.cpi K.out
              have a5 : W.cell? ⟨w.heap.size, 99, none⟩ = some (.int .i64 m.er) := I0.out.cer K.out
              by_cases b0 : m.la < 20
              · have HF := hid (show goodM m = false from goodM_t (by unfold tailM; omega))
                go_wp2
                go_ret
                exact ⟨by rw [HF.out]; rfl, HB.out⟩
              by_cases b1 : 79 < m.la
              · have HF := hid (show goodM m = false from goodM_t (by unfold tailM; omega))
                go_wp2
                go_ret
                exact ⟨by rw [HF.out]; rfl, HB.out⟩
              by_cases b2 : m.se < 0
              · have HF := hid (show goodM m = false from goodM_t (by unfold tailM; omega))
                go_wp2
                go_ret
                exact ⟨by rw [HF.out]; rfl, HB.out⟩
              by_cases b3 : 65536 ≤ m.se
              · have HF := hid (show goodM m = false from goodM_t (by unfold tailM; omega))
                go_wp2
                go_ret
                exact ⟨by rw [HF.out]; rfl, HB.out⟩
              by_cases b4 : m.ga < 0
              · have HF := hid (show goodM m = false from goodM_t (by unfold tailM; omega))
                go_wp2
                go_ret
                exact ⟨by rw [HF.out]; rfl, HB.out⟩
              by_cases b5 : 32767 < m.ga
              · have HF := hid (show goodM m = false from goodM_t (by unfold tailM; omega))
                go_wp2
                go_ret
                exact ⟨by rw [HF.out]; rfl, HB.out⟩
              by_cases b6 : m.pi < 0
              · have HF := hid (show goodM m = false from goodM_t (by unfold tailM; omega))
                go_wp2
                go_ret
                exact ⟨by rw [HF.out]; rfl, HB.out⟩
              by_cases b7 : 18022 < m.pi
              · have HF := hid (show goodM m = false from goodM_t (by unfold tailM; omega))
                go_wp2
                go_ret
                exact ⟨by rw [HF.out]; rfl, HB.out⟩
              by_cases b8 : m.er < 0
              · have HF := hid (show goodM m = false from goodM_t (by unfold tailM; omega))
                go_wp2
                go_ret
                exact ⟨by rw [HF.out]; rfl, HB.out⟩
              by_cases b9 : 6 < m.er
              · have HF := hid (show goodM m = false from goodM_t (by unfold tailM; omega))
                have e9 : decide (m.er ≤ 6) = false := by simp; omega
                go_wp2
                go_ret
                exact ⟨by rw [HF.out]; rfl, HB.out⟩
              have HT := hid (show goodM m = true from goodM_yes HR.out HP.out HE.out (by unfold tailM; omega))
              go_wp2
              go_ret
              exact ⟨by rw [HT.out]; rfl, HB.out⟩
end Go.Proofs.YthoiikkjjaldnaaGreatDoor

/- The reference's GoodMemory, and both sides' Fresh. -/
namespace Go.Proofs.YthoiikkjjaldnaaGreatDoor
set_option linter.unusedVariables false
set_option linter.unusedSimpArgs false
set_option maxRecDepth 100000
open Go.RowKit

def freshM : Mm := ⟨List.replicate 8 0, List.replicate 8 0, List.replicate 80 0, 0, 0, 20, 0, 21845, false⟩
theorem freshM_ok : freshM.ok := ⟨rfl, rfl, rfl⟩
theorem freshM_ag : (Tryz.zeroCells25.setIfInBounds 98 (.int .i64 20)).setIfInBounds 100 (.int .i64 21845) = freshM.ag := by kernel_rfl
set_option maxHeartbeats 4000000 in
theorem fresh_any (w : World) : Calls Tryz.prog 41 #[] w fun e w' => e = .returned (.agg freshM.ag) ∧ Below w.heap.size w w' := by
  have hR := results_mem1 (fn := Tryz.f41) (p := 0) rfl
  have HZ : MB (w.alloc (.cells Tryz.zeroCells25 25)) w.heap.size zeroM := by rw [zeroM_ag]; exact MB.new w zeroM
  have HZ := hid HZ
  go_enter Tryz.func41, Tryz.ntmps41
  go_wp2_with (refine wpList_storeM rfl (.tmp 0) (.tmp 1) rfl _ zeroM freshM rfl (congrArg Value.agg freshM_ag) HZ.out zeroM_ok freshM_ok ?_)
  refine bodyPost_ret (v := _) (hR _ _ _ freshM rfl (MB.setRow HZ.out freshM) freshM_ok) rfl ?_
  exact ⟨rfl, below_setRow ((Below.refl _ w).alloc (Nat.le_refl _) _) (Nat.le_refl _) _⟩
set_option maxHeartbeats 4000000 in
theorem refFresh_any (w : World) : Calls Tryz.prog 9 #[] w fun e w' => e = .returned (.agg freshM.ag) ∧ Below w.heap.size w w' := by
  have hR := results_mem1 (fn := Tryz.f9) (p := 0) rfl
  have HZ : MB (w.alloc (.cells Tryz.zeroCells25 25)) w.heap.size zeroM := by rw [zeroM_ag]; exact MB.new w zeroM
  have HZ := hid HZ
  go_enter Tryz.func9, Tryz.ntmps9
  go_wp2_with (refine wpList_storeM rfl (.tmp 0) (.tmp 1) rfl _ zeroM freshM rfl (congrArg Value.agg freshM_ag) HZ.out zeroM_ok freshM_ok ?_)
  refine bodyPost_ret (v := _) (hR _ _ _ freshM rfl (MB.setRow HZ.out freshM) freshM_ok) rfl ?_
  exact ⟨rfl, below_setRow ((Below.refl _ w).alloc (Nat.le_refl _) _) (Nat.le_refl _) _⟩

theorem rs_midRange {w : World} {g o B : Nat} {xs : List Int} (h : w.rangeAt g o (ints xs)) (hg : g < B) : Rs w B (some ⟨g, o, none⟩) xs :=
  ⟨by simp [ints], fun _ => ⟨_, rfl, hg, fun j u hu => by
    have e : (⟨g, o, none⟩ : Addr).add j = ⟨g, o + j, none⟩ := Addr.add_mid g o j
    rw [e]
    exact h j u hu⟩⟩
theorem refIn_any (x hi : Int) (w : World) : Calls Tryz.prog 69 #[.int .i64 x, .int .i64 hi] w fun e w' => e = .returned (.bool (decide (0 ≤ x ∧ x ≤ hi))) ∧ w = w' := by
  go_enter Tryz.func69, Tryz.ntmps69
  by_cases h1 : 0 ≤ x
  · go_wp2
    go_ret
    exact ⟨by simp [h1], rfl⟩
  · have h2 : decide (0 ≤ x ∧ x ≤ hi) = false := decide_eq_false (fun h => h1 h.1)
    go_wp2
    go_ret
    exact ⟨by first | rfl | (rw [h2]; rfl), rfl⟩
theorem refIn_yes {x hi : Int} {w : World} (h : 0 ≤ x ∧ x ≤ hi) : Calls Tryz.prog 69 #[.int .i64 x, .int .i64 hi] w fun e w' => e = .returned (.bool true) ∧ w = w' := by
  have := refIn_any x hi w
  rwa [decide_eq_true h] at this
theorem refIn_no {x hi : Int} {w : World} (h : ¬ (0 ≤ x ∧ x ≤ hi)) : Calls Tryz.prog 69 #[.int .i64 x, .int .i64 hi] w fun e w' => e = .returned (.bool false) ∧ w = w' := by
  have := refIn_any x hi w
  rwa [decide_eq_false h] at this
set_option maxHeartbeats 4000000 in
theorem refGood_any (m : Mm) (k : m.ok) (hw64 : W64 m.nums) (w : World) : Calls Tryz.prog 25 #[.agg m.ag] w (AnsB' w (goodM m)) := by
  have I0 := hid (MB.new w m)
  have HB := hid ((Below.refl _ w).alloc (Nat.le_refl _) (.cells m.ag 25))
  have hlt : w.heap.size < (w.alloc (.cells m.ag 25)).heap.size := by simp
  obtain ⟨W, hW⟩ : ∃ W, W = w.alloc (.cells m.ag 25) := ⟨_, rfl⟩
  rw [← hW] at I0 HB hlt
  have HW := hid hW
  have HLT := hid hlt
  clear hW hlt
  have K := hid k
  have HI8 := hid (fun (xs : List Int) (hx : xs.length = 8) (j : Nat) (hj : j < 8) (w : World) => show (Instr.index 22 (.agg (ints xs).toArray) (.int .i64 (j : Nat))).run Tryz.prog w = .ok (.int .i64 (xs.getD j 0)) w from run_index_agi Tryz.underlying22 xs hx j hj w)
  have KP := hid (Right_any (some ⟨w.heap.size, 8, none⟩) 8 8 W.heap.size m.p W (rs_midRange (I0.out.P K.out) HLT.out) k.p (by omega))
  have KE := hid (Right_any (some ⟨w.heap.size, 16, none⟩) 80 80 W.heap.size m.e W (rs_midRange (I0.out.E K.out) HLT.out) k.e (by omega))
  clear k
  go_enter Tryz.func25, Tryz.ntmps25
  go_wp2_with (first
    | (rw [← HW.out])
    | (refine wpList_load_mid rfl 22 (.tmp 6) rfl _ _ rfl (ints m.r) _ (I0.out.R K.out) Tryz.underlying22 rfl (by rw [ints_len, K.out.r]; exact size8') ?_))
  go_loop [8] (fun iv => ∃ k : Nat, k ≤ 8 ∧ iv = .int .i64 k ∧ Hid (allTo okK m.r k)) (fun iv => 8 - (intOf iv).toNat)
  case atStart => exact ⟨0, by omega, rfl, hid allTo.zero⟩
  case round =>
    obtain ⟨k, hk, rfl, HY⟩ := hrel
    by_cases hlt : k < 8
    · have hix := HI8.out m.r K.out.r k hlt
      obtain ⟨x, hx⟩ : ∃ x, x = m.r.getD k 0 := ⟨_, rfl⟩
      rw [← hx] at hix
      have HX := hid hx
      clear hx
      by_cases b1 : x < -31000
      · have HF := hid (show goodM m = false from goodM_r (all_no (i := k) (by rw [K.out.r]; exact hlt) (okK_no (by rw [← HX.out]; exact .inl b1))))
        go_wp2
        go_ret
        exact ⟨by rw [HF.out]; rfl, HB.out⟩
      by_cases b2 : 31000 < x
      · have HF := hid (show goodM m = false from goodM_r (all_no (i := k) (by rw [K.out.r]; exact hlt) (okK_no (by rw [← HX.out]; exact .inr b2))))
        go_wp2
        go_ret
        exact ⟨by rw [HF.out]; rfl, HB.out⟩
      have HN := hid (HY.out.succ (by rw [← HX.out]; exact okK_yes (by omega) (by omega)))
      go_wp2
      go_round
      case rel => exact ⟨k + 1, by omega, by go_num, HN⟩
      case measure => simp [intOf] <;> omega
    · obtain rfl : k = 8 := by omega
      have HR := hid (show m.r.all okK = true from HY.out.all (by rw [K.out.r]; exact Nat.le_refl _))
      clear HY hlt hk
      have a1 : W.cell? ⟨w.heap.size, 98, none⟩ = some (.int .i64 m.la) := I0.out.cla K.out
      have a2 : W.cell? ⟨w.heap.size, 100, none⟩ = some (.int .i64 m.se) := I0.out.cse K.out
      have a3 : W.cell? ⟨w.heap.size, 96, none⟩ = some (.int .i64 m.ga) := I0.out.cga K.out
      have a4 : W.cell? ⟨w.heap.size, 97, none⟩ = some (.int .i64 m.pi) := I0.out.cpi K.out
      have a5 : W.cell? ⟨w.heap.size, 99, none⟩ = some (.int .i64 m.er) := I0.out.cer K.out
      have wla := hw64 m.la (by unfold Mm.nums; simp)
      obtain ⟨x, hx⟩ : ∃ x, IntKind.i64.wrap (m.la - 20) = x := ⟨_, rfl⟩
      have hx' : x = (m.la - 20 + 9223372036854775808) % 18446744073709551616 - 9223372036854775808 := by rw [← hx, IntKind.wrap_i64]
      have HX := hid hx'
      clear hx'
      cases g1 : all16 m.p with
      | false =>
        have KP' := KP.out
        rw [g1] at KP'
        have C1 := hid KP'
        have HF := hid (show goodM m = false from goodM_p g1)
        clear KP'
        go_wp2_with (first
          | (go_at_call 70; (first | (with_reducible refine C1.out.mono ?_) | (with_reducible refine C2.out.mono ?_)); rintro e w' ⟨rfl, rfl⟩)
          | (go_at_call 69; (first | (with_reducible refine C3.out.mono ?_) | (with_reducible refine C4.out.mono ?_) | (with_reducible refine C5.out.mono ?_) | (with_reducible refine C6.out.mono ?_) | (with_reducible refine C7.out.mono ?_)); rintro e w' ⟨rfl, rfl⟩))
        go_ret
        exact ⟨by rw [HF.out]; rfl, HB.out⟩
      | true =>
      have KP' := KP.out
      rw [g1] at KP'
      have C1 := hid KP'
      have HP := hid g1
      clear KP' g1
      cases g2 : all16 m.e with
      | false =>
        have KE' := KE.out
        rw [g2] at KE'
        have C2 := hid KE'
        have HF := hid (show goodM m = false from goodM_e g2)
        clear KE'
        go_wp2_with (first
          | (go_at_call 70; (first | (with_reducible refine C1.out.mono ?_) | (with_reducible refine C2.out.mono ?_)); rintro e w' ⟨rfl, rfl⟩)
          | (go_at_call 69; (first | (with_reducible refine C3.out.mono ?_) | (with_reducible refine C4.out.mono ?_) | (with_reducible refine C5.out.mono ?_) | (with_reducible refine C6.out.mono ?_) | (with_reducible refine C7.out.mono ?_)); rintro e w' ⟨rfl, rfl⟩))
        go_ret
        exact ⟨by rw [HF.out]; rfl, HB.out⟩
      | true =>
      have KE' := KE.out
      rw [g2] at KE'
      have C2 := hid KE'
      have HE := hid g2
      clear KE' g2
      by_cases gC3 : 20 ≤ m.la ∧ m.la ≤ 79
      rotate_left
      · have C3 := hid (refIn_no (x := x) (hi := 59) (w := W) (by have := HX.out; omega))
        have HF := hid (show goodM m = false from goodM_t (by unfold tailM; intro h; omega))
        clear gC3
        go_wp2_with (first
          | (go_at_call 70; (first | (with_reducible refine C1.out.mono ?_) | (with_reducible refine C2.out.mono ?_)); rintro e w' ⟨rfl, rfl⟩)
          | (go_at_call 69; (first | (with_reducible refine C3.out.mono ?_) | (with_reducible refine C4.out.mono ?_) | (with_reducible refine C5.out.mono ?_) | (with_reducible refine C6.out.mono ?_) | (with_reducible refine C7.out.mono ?_)); rintro e w' ⟨rfl, rfl⟩))
        go_ret
        exact ⟨by rw [HF.out]; rfl, HB.out⟩
      have C3 := hid (refIn_yes (x := x) (hi := 59) (w := W) (by have := HX.out; omega))
      have GC3 := hid gC3
      clear gC3
      by_cases gC4 : 0 ≤ m.se ∧ m.se < 65536
      rotate_left
      · have C4 := hid (refIn_no (x := m.se) (hi := 65535) (w := W) (by have := HX.out; omega))
        have HF := hid (show goodM m = false from goodM_t (by unfold tailM; intro h; omega))
        clear gC4
        go_wp2_with (first
          | (go_at_call 70; (first | (with_reducible refine C1.out.mono ?_) | (with_reducible refine C2.out.mono ?_)); rintro e w' ⟨rfl, rfl⟩)
          | (go_at_call 69; (first | (with_reducible refine C3.out.mono ?_) | (with_reducible refine C4.out.mono ?_) | (with_reducible refine C5.out.mono ?_) | (with_reducible refine C6.out.mono ?_) | (with_reducible refine C7.out.mono ?_)); rintro e w' ⟨rfl, rfl⟩))
        go_ret
        exact ⟨by rw [HF.out]; rfl, HB.out⟩
      have C4 := hid (refIn_yes (x := m.se) (hi := 65535) (w := W) (by have := HX.out; omega))
      have GC4 := hid gC4
      clear gC4
      by_cases gC5 : 0 ≤ m.ga ∧ m.ga ≤ 32767
      rotate_left
      · have C5 := hid (refIn_no (x := m.ga) (hi := 32767) (w := W) (by have := HX.out; omega))
        have HF := hid (show goodM m = false from goodM_t (by unfold tailM; intro h; omega))
        clear gC5
        go_wp2_with (first
          | (go_at_call 70; (first | (with_reducible refine C1.out.mono ?_) | (with_reducible refine C2.out.mono ?_)); rintro e w' ⟨rfl, rfl⟩)
          | (go_at_call 69; (first | (with_reducible refine C3.out.mono ?_) | (with_reducible refine C4.out.mono ?_) | (with_reducible refine C5.out.mono ?_) | (with_reducible refine C6.out.mono ?_) | (with_reducible refine C7.out.mono ?_)); rintro e w' ⟨rfl, rfl⟩))
        go_ret
        exact ⟨by rw [HF.out]; rfl, HB.out⟩
      have C5 := hid (refIn_yes (x := m.ga) (hi := 32767) (w := W) (by have := HX.out; omega))
      have GC5 := hid gC5
      clear gC5
      by_cases gC6 : 0 ≤ m.pi ∧ m.pi ≤ 18022
      rotate_left
      · have C6 := hid (refIn_no (x := m.pi) (hi := 18022) (w := W) (by have := HX.out; omega))
        have HF := hid (show goodM m = false from goodM_t (by unfold tailM; intro h; omega))
        clear gC6
        go_wp2_with (first
          | (go_at_call 70; (first | (with_reducible refine C1.out.mono ?_) | (with_reducible refine C2.out.mono ?_)); rintro e w' ⟨rfl, rfl⟩)
          | (go_at_call 69; (first | (with_reducible refine C3.out.mono ?_) | (with_reducible refine C4.out.mono ?_) | (with_reducible refine C5.out.mono ?_) | (with_reducible refine C6.out.mono ?_) | (with_reducible refine C7.out.mono ?_)); rintro e w' ⟨rfl, rfl⟩))
        go_ret
        exact ⟨by rw [HF.out]; rfl, HB.out⟩
      have C6 := hid (refIn_yes (x := m.pi) (hi := 18022) (w := W) (by have := HX.out; omega))
      have GC6 := hid gC6
      clear gC6
      by_cases gC7 : 0 ≤ m.er ∧ m.er ≤ 6
      rotate_left
      · have C7 := hid (refIn_no (x := m.er) (hi := 6) (w := W) (by have := HX.out; omega))
        have HF := hid (show goodM m = false from goodM_t (by unfold tailM; intro h; omega))
        clear gC7
        go_wp2_with (first
          | (go_at_call 70; (first | (with_reducible refine C1.out.mono ?_) | (with_reducible refine C2.out.mono ?_)); rintro e w' ⟨rfl, rfl⟩)
          | (go_at_call 69; (first | (with_reducible refine C3.out.mono ?_) | (with_reducible refine C4.out.mono ?_) | (with_reducible refine C5.out.mono ?_) | (with_reducible refine C6.out.mono ?_) | (with_reducible refine C7.out.mono ?_)); rintro e w' ⟨rfl, rfl⟩))
        go_ret
        exact ⟨by rw [HF.out]; rfl, HB.out⟩
      have C7 := hid (refIn_yes (x := m.er) (hi := 6) (w := W) (by have := HX.out; omega))
      have GC7 := hid gC7
      clear gC7
      have HF := hid (show goodM m = true from goodM_yes HR.out HP.out HE.out ⟨GC3.out, GC4.out, GC5.out, GC6.out, GC7.out⟩)
      go_wp2_with (first
        | (go_at_call 70; (first | (with_reducible refine C1.out.mono ?_) | (with_reducible refine C2.out.mono ?_)); rintro e w' ⟨rfl, rfl⟩)
        | (go_at_call 69; (first | (with_reducible refine C3.out.mono ?_) | (with_reducible refine C4.out.mono ?_) | (with_reducible refine C5.out.mono ?_) | (with_reducible refine C6.out.mono ?_) | (with_reducible refine C7.out.mono ?_)); rintro e w' ⟨rfl, rfl⟩))
      go_ret
      exact ⟨by rw [HF.out]; rfl, HB.out⟩
end Go.Proofs.YthoiikkjjaldnaaGreatDoor

/- Package conceal's Silent. -/
namespace Go.Proofs.YthoiikkjjaldnaaGreatDoor
set_option linter.unusedVariables false
set_option linter.unusedSimpArgs false
set_option maxRecDepth 100000
open Go.RowKit

/-! Plain facts. -/
def silM (m : Mm) : Mm := { m with se := nzE m.se 40, e := keepL m.e (nzL m.se 8 40) }
def silR (m : Mm) : Mm := if goodM m then silM m else zeroM
def silY (m : Mm) : List Int := if goodM m then nzL m.se 8 40 else []
theorem silM_ok {m : Mm} (k : m.ok) : (silM m).ok := ⟨k.r, k.p, keepL_len k.e (nzL_len _ _ _)⟩
theorem silR_ok {m : Mm} (k : m.ok) : (silR m).ok := by unfold silR; split; exact silM_ok k; exact zeroM_ok
def NewM (w : World) (mm : Mm) (ys : List Int) (er : Int) (e : Ending) (w' : World) : Prop := ∃ A c, e = .returned (.tuple #[.agg mm.ag, .slice A ys.length c, .int .i64 er]) ∧ Own w' w.heap.size A c ys ∧ Below w.heap.size w w'

theorem Own.setCs {base g c : Nat} {A : Option Addr} {xs : List Int} (hg : g < base) : ∀ (vs : List Value) (o : Nat) (w : World), Own w base A c xs → Own (w.setCells g o vs) base A c xs
  | [], _, _, h => h
  | v :: vs, o, _, h => Own.setCs hg vs (o + 1) _ (Own.setC h hg o v)

/-- The two boxes: the memory, the answer's. -/
structure Ms (w wr : World) (m : Mm) : Prop where
  A : MB wr w.heap.size m
  R : MB wr (w.heap.size + 1) zeroM
  bel : Below w.heap.size w wr
theorem Ms.start (w : World) (m : Mm) : Ms w ((w.alloc (.cells m.ag 25)).alloc (.cells Tryz.zeroCells25 25)) m := by
  have h1 := MB.new w m
  have h2 := MB.new (w.alloc (.cells m.ag 25)) zeroM
  simp only [World.size_alloc] at h2
  rw [zeroM_ag]
  exact ⟨Blk.alloc h1 _, h2, ((Below.refl _ _).alloc (Nat.le_refl _) _).alloc (by simp) _⟩
theorem Ms.below {w wr w' : World} {m : Mm} (s : Ms w wr m) (hb : Below wr.heap.size wr w') : Ms w w' m :=
  ⟨Blk.below' s.A hb, Blk.below' s.R hb, s.bel.trans (hb.mono s.bel.size)⟩
theorem Ms.drew {w wr : World} {m : Mm} (s : Ms w wr m) : Ms w wr.drew m := ⟨s.A, s.R, s.bel.drew⟩
theorem Ms.lt {w wr : World} {m : Mm} (s : Ms w wr m) : w.heap.size + 2 ≤ wr.heap.size := Blk.lt s.R
theorem Ms.se {w wr : World} {m : Mm} (s : Ms w wr m) (k : m.ok) (x : Int) : Ms w (wr.setCell ⟨w.heap.size, 100, none⟩ (.int .i64 x)) { m with se := x } :=
  ⟨s.A.set_se k x, Blk.far s.R (by simp) _, s.bel.setCell (by simp) _⟩
theorem Ms.er {w wr : World} {m : Mm} (s : Ms w wr m) (k : m.ok) (x : Int) : Ms w (wr.setCell ⟨w.heap.size, 99, none⟩ (.int .i64 x)) { m with er := x } :=
  ⟨s.A.set_er k x, Blk.far s.R (by simp) _, s.bel.setCell (by simp) _⟩
theorem Ms.ex {w wr : World} {m : Mm} (s : Ms w wr m) (k : m.ok) (e : List Int) (he : e.length = 80) : Ms w (wr.setCells w.heap.size 16 (ints e)) { m with e := e } :=
  ⟨s.A.set_e k e he, blk_sc (by omega) _ _ _ s.R, below_sc (Nat.le_refl _) _ _ _ s.bel⟩

set_option maxHeartbeats 4000000 in
theorem silent_any (m : Mm) (k : m.ok) (w : World) : Calls Tryz.prog 67 #[.agg m.ag] w (NewM w (silR m) (silY m) (errOf (goodM m))) := by
  have hR := results_mem3 (fn := Tryz.f67) (p := 2) (q := 3) (r := 4) rfl
  have S0 := hid (Ms.start w m)
  have K := hid k
  have KG := hid (fun W => good_any m k W)
  have KN := hid (fun W => cnoise_any m.se 8 40 W (by omega))
  have NL := hid (nzL_len m.se 8 40)
  have KL := hid (keepL_len k.e (nzL_len m.se 8 40))
  have FR := hid (show silR m = if goodM m then silM m else zeroM from rfl)
  have FY := hid (show silY m = if goodM m then nzL m.se 8 40 else [] from rfl)
  have FM := hid (show silM m = { m with se := nzE m.se 40, e := keepL m.e (nzL m.se 8 40) } from rfl)
  have KK := hid (fun W A c (h : Rs W W.heap.size A (nzL m.se 8 40)) => show Calls Tryz.prog 107 #[.agg (ints m.e).toArray, .slice A 40 c] W (Keeps W m.e (nzL m.se 8 40) 40) from keep_any m.e _ A c 40 W k.e h (nzL_len _ _ _) (by omega))
  have hi80 : (Tryz.prog.info? 23).map (·.size) = some (ints m.e).length := by rw [ints_len, k.e]; exact size80k
  have HI80 := hid hi80
  clear k hi80
  go_enter Tryz.func67, Tryz.ntmps67
  go_wp2_with (refine wpList_loadM rfl (.tmp 1) rfl _ m rfl S0.out.A K.out ?_)
  refine (KG.out _).mono ?_
  rintro e w1 ⟨rfl, hB⟩
  have S1 := hid (S0.out.below hB)
  clear hB S0 KG
  cases hg : goodM m with
  | false =>
    have HG := hid hg
    clear hg
    have hRow := hid (MB.setRow S1.out.R zeroM)
    have FIN := hid (below_setRow S1.out.bel (g := w.heap.size + 1) (by omega) zeroM.ag)
    go_wp2_with (refine wpList_storeM rfl (.tmp 2) (.tmp 9) rfl _ zeroM zeroM rfl (congrArg Value.agg zeroM_ag) S1.out.R zeroM_ok zeroM_ok ?_)
    refine bodyPost_ret (v := _) (hR _ _ _ zeroM rfl hRow.out zeroM_ok) rfl ?_
    rw [FR.out, FY.out, HG.out]
    exact ⟨none, 0, rfl, Own.nil, FIN.out⟩
  | true =>
    have HG := hid hg
    clear hg
    have cse := S1.out.A.cse K.out
    go_wp2_with fail
    refine (KN.out _).mono ?_
    rintro e w2 ⟨A2, c2, rfl, hO, hB⟩
    have S2 := hid (S1.out.below hB)
    have LT := hid S1.out.lt
    have O2 := hid hO
    clear hB hO
    have cse2 := S2.out.A.cse K.out
    have fse2 := MB.frozen S2.out.A 100
    have S3 := hid (S2.out.se K.out (nzE m.se 40))
    have O3 := hid (Own.setC (g := w.heap.size) O2.out (by have := LT.out; omega) 100 (.int .i64 (nzE m.se 40)))
    obtain ⟨w3, hw3⟩ : ∃ w3, w3 = w2.setCell ⟨w.heap.size, 100, none⟩ (.int .i64 (nzE m.se 40)) := ⟨_, rfl⟩
    rw [← hw3] at S3 O3
    have HW3 := hid hw3
    clear hw3 LT
    have K3 := hid (K.out.se (nzE m.se 40))
    go_wp2_with (first
      | (rw [← HW3.out])
      | (refine wpList_load_mid rfl 23 (.tmp 18) rfl _ _ rfl (ints m.e) _ (S3.out.A.E K3.out) Tryz.underlying23 rfl HI80.out ?_))
    refine (KK.out w3 A2 c2 O3.out.reads).mono ?_
    rintro e w4 ⟨rfl, hB⟩
    have S4 := hid (S3.out.below hB)
    have O4 := hid (O3.out.below hB)
    have LT := hid S1.out.lt
    clear hB
    have hKE := hid (show keepA m.e (nzL m.se 8 40) 40 = keepL m.e (nzL m.se 8 40) from rfl)
    rw [hKE.out]
    have S5 := hid (S4.out.ex K3.out _ KL.out)
    have O5 := hid (Own.setCs (g := w.heap.size) (by have := LT.out; omega) (ints (keepL m.e (nzL m.se 8 40))) 16 _ O4.out)
    obtain ⟨w5, hw5⟩ : ∃ w5, w5 = w4.setCells w.heap.size 16 (ints (keepL m.e (nzL m.se 8 40))) := ⟨_, rfl⟩
    rw [← hw5] at S5 O5
    have HW5 := hid hw5
    clear hw5
    have OK5 := hid (show Mm.ok _ from (K3.out.ex KL.out))
    have T5 := hid (show Ms w w5 (silM m) from S5.out)
    have OKS := hid (silM_ok K.out)
    have hRow := hid (MB.setRow T5.out.R (silM m))
    have FIN := hid (below_setRow T5.out.bel (g := w.heap.size + 1) (by omega) (silM m).ag)
    have OF := hid ((O5.out.setRow (g := w.heap.size + 1) (by have := LT.out; omega) (silM m).ag).more (base' := w.heap.size) (by have := LT.out; omega))
    have SZ := hid (show (Tryz.prog.info? 23).map (·.size) = some (agi (keepL m.e (nzL m.se 8 40))).size from by rw [agi_size, KL.out]; exact size80k)
    have TH := hid (show w4.there w.heap.size 16 (agi (keepL m.e (nzL m.se 8 40))).size from by rw [agi_size, KL.out]; exact S4.out.A.thereE K3.out)
    go_wp2_with (first
      | (refine wpList_store_mid rfl 23 (.tmp 24) (.tmp 22) rfl w.heap.size 16 (agi (keepL m.e (nzL m.se 8 40))) rfl rfl TH.out SZ.out (agi_one _) ?_; rw [show (agi (keepL m.e (nzL m.se 8 40))).toList = ints (keepL m.e (nzL m.se 8 40)) from rfl, ← HW5.out])
      | (refine wpList_loadM rfl (.tmp 1) rfl _ (silM m) rfl T5.out.A OKS.out ?_)
      | (refine wpList_storeM rfl (.tmp 2) (.tmp 25) rfl _ zeroM (silM m) rfl rfl T5.out.R zeroM_ok OKS.out ?_))
    refine bodyPost_ret (v := _) (hR _ _ _ (silM m) rfl hRow.out OKS.out) rfl ?_
    rw [FR.out, FY.out, HG.out]
    exact ⟨A2, c2, by rw [if_pos rfl, if_pos rfl, NL.out]; rfl, by rw [if_pos rfl]; exact OF.out, FIN.out⟩
end Go.Proofs.YthoiikkjjaldnaaGreatDoor

/- The walk of the reference's Past, and of the law PitchPasts. -/
namespace Go.Proofs.YthoiikkjjaldnaaGreatDoor
set_option linter.unusedVariables false
set_option linter.unusedSimpArgs false
set_option maxRecDepth 100000
open Go.RowKit

set_option maxHeartbeats 4000000 in
theorem refPast_any (h : List Int) (lag : Int) (w : World) (hl : h.length = 80) : Calls Tryz.prog 126 #[.agg (agi h), .int .i64 lag] w (NewSE w (pastL h lag) (errOf (pastB lag))) := by
  by_cases h1 : lag < 20 ∨ 79 < lag
  · rw [show pastL h lag = [] from by unfold pastL; rw [pastB_no h1]; rfl, pastB_no h1]
    have FIN := hid (NewSE.none_ (er := 2) ((Below.refl _ w).alloc (Nat.le_refl _) (.cells (agi h) 23)))
    rcases h1 with h1 | h1
    · have d1 : decide (lag < 20) = true := by simpa using h1
      go_enter Tryz.func126, Tryz.ntmps126
      go_wp2
      go_ret2
      exact FIN.out
    · have d1 : decide (lag < 20) = false := by simp; omega
      have d2 : decide (79 < lag) = true := by simpa using h1
      go_enter Tryz.func126, Tryz.ntmps126
      go_wp2
      go_ret2
      exact FIN.out
  · have hb : pastB lag = true := pastB_yes (by omega) (by omega)
    have hlen := pastL_len (h := h) hb
    obtain ⟨L, rfl⟩ := Int.eq_ofNat_of_zero_le (show 0 ≤ lag by omega)
    have hP := hid (show pastL h (L : Nat) = (List.range 40).map (pastE h L) by unfold pastL; rw [if_pos hb]; rfl)
    rw [hb]
    have hL1 : 20 ≤ L := by omega
    have hL2 : L ≤ 79 := by omega
    obtain ⟨E, hE⟩ : ∃ E, E = 80 - L := ⟨_, rfl⟩
    have hEi : (80 : Int) - (L : Nat) = (E : Nat) := by omega
    have hE2 : E + L = 80 := by omega
    have A0 := hid (IB.new w 23 h)
    have B0 := hid ((Below.refl w.heap.size w).alloc (Nat.le_refl _) (.cells (agi h) 23))
    have d1 : decide ((L : Int) < 20) = false := by simp; omega
    have d2 : decide (79 < (L : Int)) = false := by simp; omega
    have HL := hid hl
    have HN := hid hlen
    have HE := hid hE
    clear h1 hb hl hlen hE
    go_enter Tryz.func126, Tryz.ntmps126
    go_wp2
    go_loopw [6, 7] (fun ov iv wr => ∃ (k : Nat) (A : Option Addr) (c : Nat), k ≤ 40 ∧ iv = .int .i64 k ∧ ov = .slice A k c ∧ Hid (Own wr w.heap.size A c ((List.range k).map (pastE h L))) ∧ Hid (∀ ad, A = some ad → ad.block ≠ w.heap.size) ∧ Hid (IB wr w.heap.size 23 h) ∧ Hid (Below w.heap.size w wr)) (fun _ iv _ => 40 - (intOf iv).toNat)
    case atStart => exact ⟨0, none, 0, by omega, rfl, rfl, hid Own.nil, hid (fun ad h => by cases h), A0, B0⟩
    case round =>
      clear A0 B0
      obtain ⟨k, A, c, hk, rfl, rfl, HO, HX, HA, HB⟩ := hrel
      by_cases hlt : k < 40
      · have hm : k % L < L := Nat.mod_lt _ (by omega)
        obtain ⟨r, hr⟩ : ∃ r, r = k % L := ⟨_, rfl⟩
        have ci := HA.out.cell (E + r) (by rw [HL.out]; omega)
        have hEr : E + r < 80 := by omega
        have hmod : (k : Int) % (L : Nat) = (r : Nat) := by rw [hr]; simp
        have hmod2 : (k : Int).tmod (L : Nat) = (r : Nat) := by rw [Int.tmod_eq_emod_of_nonneg (by omega), hmod]
        have hL0 : ¬ ((L : Nat) : Int) = 0 := by omega
        have HV := hid (show h.getD (E + r) 0 = pastE h L k by unfold pastE; rw [← hr, ← HE.out])
        generalize h.getD (E + r) 0 = x at *
        have HR := hid hr
        clear hr
        go_wp2_with (at_builtin; refine wpList_pushN rfl (.tmp 18) (.tmp 27) rfl w.heap.size A c k ((List.range k).map (pastE h L)) rfl (by simp) (HO.out.alloc _) ⟨wr.heap.size, 0, none⟩ x rfl (cell_new wr _ _) (by omega) (Nat.le_trans HB.out.size (by simp)) ?_; intro A2 c2 w2 hO hG hA; have O2 := hid hO; have G2 := hid hG; have Y2 := hid hA; clear hO hG hA)
        have hlt2 := Blk.lt HA.out
        have N1 := hid (show Own w2 w.heap.size A2 c2 ((List.range (k + 1)).map (pastE h L)) by rw [← snoc_range, ← HV.out]; exact O2.out)
        have N2 := hid (moved_ne (g := w.heap.size) Y2.out HX.out (by simp; omega))
        have N3 := hid (Blk.grownA (Blk.alloc HA.out _) G2.out HX.out)
        have N4 := hid (below_grown (HB.out.alloc HB.out.size _) (HO.out.alloc _) G2.out (Nat.le_trans HB.out.size (by simp)))
        go_wp2
        go_roundw
        case rel => exact ⟨k + 1, A2, c2, by omega, by go_num, rfl, N1, N2, N3, N4⟩
        case measure => simp [intOf] <;> omega
      · obtain rfl : k = 40 := by omega
        go_wp2
        go_ret2
        exact ⟨_, _, by rw [HN.out]; rfl, by rw [hP.out]; exact HO.out, HB.out⟩
end Go.Proofs.YthoiikkjjaldnaaGreatDoor

/- Package conceal's Mix. -/
namespace Go.Proofs.YthoiikkjjaldnaaGreatDoor
set_option linter.unusedVariables false
set_option linter.unusedSimpArgs false
set_option maxRecDepth 100000
open Go.RowKit

/-! Plain facts. -/
def mxV (p g b : Int) : Int := s16 ((s16 p * g + 8192) / 16384 + s16 b)
def mxB (lag g : Int) : Bool := pastB lag && decide (0 ≤ g ∧ g ≤ 32767)
def mxE (h x : List Int) (lag g : Int) (i : Nat) : Int := mxV ((pastL h lag).getD i 0) g (x.getD i 0)
def mxL (h x : List Int) (lag g : Int) (n : Nat) : List Int := if n = 40 ∧ mxB lag g = true then (List.range 40).map (mxE h x lag g) else []
def mxR (lag g : Int) (n : Nat) : Int := if n = 40 then errOf (mxB lag g) else 1
theorem mx_size {h x : List Int} {lag g : Int} {n : Nat} (hn : n ≠ 40) : mxL h x lag g n = [] ∧ mxR lag g n = 1 := ⟨if_neg (fun h => hn h.1), if_neg hn⟩
theorem mx_bad {h x : List Int} {lag g : Int} (hb : mxB lag g = false) : mxL h x lag g 40 = [] ∧ mxR lag g 40 = 2 := ⟨if_neg (fun h => by rw [hb] at h; exact absurd h.2 (by simp)), by unfold mxR; rw [if_pos rfl, hb]; rfl⟩
theorem mx_good {h x : List Int} {lag g : Int} (hb : mxB lag g = true) : mxL h x lag g 40 = (List.range 40).map (mxE h x lag g) ∧ mxR lag g 40 = 0 := ⟨if_pos ⟨rfl, hb⟩, by unfold mxR; rw [if_pos rfl, hb]; rfl⟩
theorem mxL_in (h x : List Int) (lag g : Int) (n : Nat) : all16 (mxL h x lag g n) = true := by
  unfold mxL
  split
  · unfold all16
    rw [List.all_eq_true]
    intro y hy
    obtain ⟨i, _, rfl⟩ := List.mem_map.1 hy
    have := s16_range ((s16 ((pastL h lag).getD i 0) * g + 8192) / 16384 + s16 (x.getD i 0))
    exact ok16_yes this.1 this.2
  · rfl
theorem mx_mul {a g : Int} (h1 : -32768 ≤ a) (h2 : a ≤ 32767) (h3 : 0 ≤ g) (h4 : g ≤ 32767) : -1073741824 ≤ a * g ∧ a * g ≤ 1073741824 := by
  have := mul_bound (x := a) (X := 32768) (y := g) (Y := 32768) (by omega) (by omega) ⟨by omega, by omega⟩ ⟨by omega, by omega⟩
  omega

set_option maxHeartbeats 4000000 in
theorem mix_any (h x : List Int) (lag g : Int) (A : Option Addr) (c n : Nat) (w : World) (hh : h.length = 80) (hr : Rs w w.heap.size A x) (hn : x.length = n) (hl : n ≤ 17592186044416) :
    Calls Tryz.prog 106 #[.agg (agi h), .int .i64 lag, .int .i64 g, .slice A n c] w (NewSE w (mxL h x lag g n) (mxR lag g n)) := by
  have A0 := hid (IB.new w 23 h)
  have B0 := hid ((Below.refl w.heap.size w).alloc (Nat.le_refl _) (.cells (agi h) 23))
  have HH := hid hh
  have HR := hid hr
  have HN := hid hn
  by_cases h40 : n = 40
  · subst h40
    have KP := hid (fun W => past_any h lag W hh)
    clear hr hn hh
    cases hb : pastB lag with
    | false =>
      obtain ⟨e1, e2⟩ := mx_bad (h := h) (x := x) (lag := lag) (g := g) (by unfold mxB; rw [hb]; rfl)
      rw [e1, e2]
      have hp : pastL h lag = [] := by unfold pastL; rw [hb]; rfl
      rw [hp, hb] at KP
      clear e1 e2 hp hb
      go_enter Tryz.func106, Tryz.ntmps106
      go_wp2_with (refine wpList_loadI rfl 23 (.tmp 4) rfl _ 23 h 80 _ rfl A0.out Tryz.underlying23 rfl size80k HH.out ?_)
      refine (KP.out _).mono ?_
      rintro e w1 ⟨A1, c1, rfl, hO, hB⟩
      have FIN := hid (NewSE.none_ (er := 2) (B0.out.trans (hB.mono B0.out.size)))
      clear hO hB
      go_wp2
      go_ret2
      exact FIN.out
    | true =>
      have hlen := pastL_len (h := h) hb
      by_cases hg : 0 ≤ g ∧ g ≤ 32767
      · obtain ⟨g1, g2⟩ := hg
        obtain ⟨e1, e2⟩ := mx_good (h := h) (x := x) (lag := lag) (g := g) (by unfold mxB; rw [hb]; simp; omega)
        have E1 := hid e1
        rw [e2]
        rw [hb] at KP
        have HPL := hid hlen
        have HE := hid (fun i => show mxE h x lag g i = mxV ((pastL h lag).getD i 0) g (x.getD i 0) from rfl)
        generalize pastL h lag = P at *
        clear e1 e2 hb hlen
        go_enter Tryz.func106, Tryz.ntmps106
        go_wp2_with (refine wpList_loadI rfl 23 (.tmp 4) rfl _ 23 h 80 _ rfl A0.out Tryz.underlying23 rfl size80k HH.out ?_)
        refine (KP.out _).mono ?_
        rintro e w1 ⟨A1, c1, rfl, hO, hB⟩
        have L1 := hid (B0.out.trans (hB.mono B0.out.size))
        obtain ⟨gv, rfl, gv1, gv2⟩ := hO.head (by rw [HPL.out]; omega)
        have O1 := hid (hO.more (base' := w.heap.size) (by simp))
        have hgv : w.heap.size ≤ gv := by simp at gv1; omega
        rw [HPL.out]
        clear hO hB gv1 gv2
        go_wp2
        go_loopw [34] (fun iv wr => ∃ (k : Nat) (ys : List Int), k ≤ 40 ∧ iv = .int .i64 k ∧ Hid (ys.length = 40 ∧ (∀ j, j < k → ys.getD j 0 = mxE h x lag g j) ∧ ∀ j, k ≤ j → ys.getD j 0 = P.getD j 0) ∧ Hid (Own wr w.heap.size (some ⟨gv, 0, none⟩) c1 ys) ∧ Hid (Below w.heap.size w wr)) (fun iv _ => 40 - (intOf iv).toNat)
        case atStart => exact ⟨0, P, by omega, rfl, hid ⟨HPL.out, fun j h => by omega, fun j h => rfl⟩, O1, L1⟩
        case round =>
          clear O1 L1
          obtain ⟨k, ys, hk, rfl, HY, HO, HB⟩ := hrel
          by_cases hlt : k < 40
          · obtain ⟨ad, rfl, _, cb⟩ := (HR.out.below HB.out).at_ (k := k) (by rw [HN.out]; exact hlt)
            have cp := HO.out.cell k (by rw [HY.out.1]; exact hlt)
            rw [HY.out.2.2 k (Nat.le_refl _)] at cp
            have fp := HO.out.frozen k
            have NO := hid (fun v => HO.out.set_ k (by rw [HY.out.1]; exact hlt) v)
            have NB := hid (fun v => HB.out.setCell (p := ⟨gv, k, none⟩) hgv v)
            have NEXT := hid (fun (v : Int) (hv : v = mxE h x lag g k) => show Hid ((ys.set k v).length = 40 ∧ (∀ j, j < k + 1 → (ys.set k v).getD j 0 = mxE h x lag g j) ∧ ∀ j, k + 1 ≤ j → (ys.set k v).getD j 0 = P.getD j 0) from by
              obtain ⟨q1, q2, q3⟩ := HY.out
              refine ⟨by simpa using q1, fun j hj => ?_, fun j hj => ?_⟩
              · by_cases he : k = j
                · subst he
                  rw [get_set_same _ _ _ (by omega), hv]
                · rw [get_set_other _ _ he]
                  exact q2 j (by omega)
              · rw [get_set_other _ _ (by omega)]
                exact q3 j (by omega))
            have hk40 : (k : Int) < 40 := by omega
            have HV := HE.out k
            obtain ⟨p, hp⟩ : ∃ p, p = P.getD k 0 := ⟨_, rfl⟩
            obtain ⟨b, hb⟩ : ∃ b, b = x.getD k 0 := ⟨_, rfl⟩
            rw [← hp] at cp HV
            rw [← hb] at cb HV
            unfold mxV at HV
            have KA := hid (fun W => concealsat_any p W)
            have KB := hid (fun W => concealsat_any b W)
            have ra := s16_range p
            have rb := s16_range b
            generalize s16 p = sa at KA HV ra
            generalize s16 b = sb at KB HV rb
            have hq := mx_mul ra.1 ra.2 g1 g2
            obtain ⟨q, hqe⟩ : ∃ q, sa * g = q := ⟨_, rfl⟩
            rw [hqe] at hq HV
            have hw1 : IntKind.i64.wrap (sa * g) = q := by rw [hqe, IntKind.wrap_i64]; omega
            have hw2 : IntKind.i64.wrap (q + 8192) = q + 8192 := by rw [IntKind.wrap_i64]; omega
            obtain ⟨t, ht⟩ : ∃ t, t = (q + 8192) / 16384 + sb := ⟨_, rfl⟩
            have hw3 : IntKind.i64.wrap ((q + 8192) / 16384 + sb) = t := by rw [ht, IntKind.wrap_i64]; omega
            rw [← ht] at HV
            have KT := hid (fun W => concealsat_any t W)
            obtain ⟨y, hy⟩ : ∃ y, y = s16 t := ⟨_, rfl⟩
            rw [← hy] at KT HV
            have NX := NEXT.out y HV.symm
            have NO2 := hid (NO.out y)
            have NB2 := hid (NB.out (.int .i64 y))
            clear hp hb ra rb hq hqe ht hy HV NEXT NO NB
            go_wp2_with (first
              | (go_at_call 61; (with_reducible refine (KA.out _).mono ?_); rintro e w' ⟨rfl, rfl⟩)
              | (go_at_call 61; (with_reducible refine (KB.out _).mono ?_); rintro e w' ⟨rfl, rfl⟩)
              | (go_at_call 61; (with_reducible refine (KT.out _).mono ?_); rintro e w' ⟨rfl, rfl⟩))
            go_roundw
            case rel => exact ⟨k + 1, _, by omega, by go_num, NX, NO2, NB2⟩
            case measure => simp [intOf] <;> omega
          · obtain rfl : k = 40 := by omega
            have HF : ys = (List.range 40).map (mxE h x lag g) := list_ext (by rw [HY.out.1]; simp) (fun k hk => by rw [HY.out.1] at hk; rw [HY.out.2.1 k hk, range_get _ hk])
            have HF := hid HF
            go_wp2
            go_ret2
            rw [E1.out, ← HF.out]
            exact ⟨_, _, by rw [HY.out.1]; rfl, HO.out, HB.out⟩
      · obtain ⟨e1, e2⟩ := mx_bad (h := h) (x := x) (lag := lag) (g := g) (by unfold mxB; rw [hb]; simp; omega)
        rw [e1, e2]
        rw [hb] at KP
        have HPL := hid hlen
        generalize pastL h lag = P at *
        clear e1 e2 hb hlen
        rcases Int.lt_or_le g 0 with hg1 | hg1
        · go_enter Tryz.func106, Tryz.ntmps106
          go_wp2_with (refine wpList_loadI rfl 23 (.tmp 4) rfl _ 23 h 80 _ rfl A0.out Tryz.underlying23 rfl size80k HH.out ?_)
          refine (KP.out _).mono ?_
          rintro e w1 ⟨A1, c1, rfl, hO, hB⟩
          have FIN := hid (NewSE.none_ (er := 2) (B0.out.trans (hB.mono B0.out.size)))
          clear hO hB
          go_wp2
          go_ret2
          exact FIN.out
        · have hg2 : 32767 < g := by omega
          have hg3 : ¬ g < 0 := by omega
          go_enter Tryz.func106, Tryz.ntmps106
          go_wp2_with (refine wpList_loadI rfl 23 (.tmp 4) rfl _ 23 h 80 _ rfl A0.out Tryz.underlying23 rfl size80k HH.out ?_)
          refine (KP.out _).mono ?_
          rintro e w1 ⟨A1, c1, rfl, hO, hB⟩
          have FIN := hid (NewSE.none_ (er := 2) (B0.out.trans (hB.mono B0.out.size)))
          clear hO hB
          go_wp2
          go_ret2
          exact FIN.out
  · obtain ⟨e1, e2⟩ := mx_size (h := h) (x := x) (lag := lag) (g := g) h40
    rw [e1, e2]
    have d1 : ((n : Int) == 40) = false := by simp; omega
    have d2 : ((n : Int) != 40) = true := by simp; omega
    have FIN := hid (NewSE.none_ (er := 1) B0.out)
    clear h40 e1 e2
    go_enter Tryz.func106, Tryz.ntmps106
    go_wp2
    go_ret2
    exact FIN.out
end Go.Proofs.YthoiikkjjaldnaaGreatDoor

/- The walks of Fade, the program's and the reference's, and of the law GainFades. -/
namespace Go.Proofs.YthoiikkjjaldnaaGreatDoor
set_option linter.unusedVariables false
set_option linter.unusedSimpArgs false
set_option maxRecDepth 100000
open Go.RowKit

/-- A gain k erased frames later. -/
def fdN (x : Int) : Nat → Int
  | 0 => x
  | k + 1 => fdN x k * 26214 / 32768
theorem fdN_range {x : Int} (h0 : 0 ≤ x) (h1 : x ≤ 32767) (k : Nat) : 0 ≤ fdN x k ∧ fdN x k ≤ 32767 := by
  induction k with
  | zero => exact ⟨h0, h1⟩
  | succ k ih => simp only [fdN]; omega

def fade (g e : Int) : Int := if g < 0 ∨ 5 < e then 0 else fdN (min g 32767) e.toNat
theorem fade_range (g e : Int) : 0 ≤ fade g e ∧ fade g e ≤ 32767 := by
  unfold fade
  split
  · omega
  · exact fdN_range (by omega) (by omega) _

set_option maxHeartbeats 1000000 in
theorem fade_any (g e : Int) (w : World) : Calls Tryz.prog 184 #[.int .i64 g, .int .i64 e] w fun en w' => en = .returned (.int .i64 (fade g e)) ∧ w = w' := by
  by_cases h1 : g < 0
  · have hv : fade g e = 0 := by unfold fade; rw [if_pos (.inl h1)]
    rw [hv]
    have d1 : decide (g < 0) = true := by simpa using h1
    clear hv
    go_enter Tryz.func184, Tryz.ntmps184
    go_wp2
    go_ret
    exact ⟨rfl, rfl⟩
  by_cases h2 : 5 < e
  · have hv : fade g e = 0 := by unfold fade; rw [if_pos (.inr h2)]
    rw [hv]
    have d1 : decide (g < 0) = false := by simpa using h1
    have d2 : decide (6 ≤ e) = true := by simp; omega
    clear hv
    go_enter Tryz.func184, Tryz.ntmps184
    go_wp2
    go_ret
    exact ⟨rfl, rfl⟩
  have hv : fade g e = fdN (min g 32767) e.toNat := by unfold fade; rw [if_neg (by omega)]
  have d1 : decide (g < 0) = false := by simpa using h1
  have d2 : decide (6 ≤ e) = false := by simp; omega
  have h3 : e ≤ 5 := by omega
  clear h2
  rcases (show (g ≤ 32767 ∧ min g 32767 = g) ∨ (32767 < g ∧ min g 32767 = 32767) by omega) with ⟨hg, hm⟩ | ⟨hg, hm⟩
  all_goals
    rw [hm] at hv
    have HV := hid hv
    clear hv hm
    go_enter Tryz.func184, Tryz.ntmps184
    go_wp2
    go_loop [0, 14] (fun gv iv => ∃ (k : Nat) (y : Int), (k = 0 ∨ (k : Int) ≤ e) ∧ iv = .int .i64 k ∧ gv = .int .i64 y ∧ 0 ≤ y ∧ y ≤ 32767 ∧ Hid (y = fdN (min g 32767) k)) (fun _ iv => (e - intOf iv).toNat)
    case atStart => exact ⟨0, _, .inl rfl, rfl, rfl, by omega, by omega, hid (by simp only [fdN]; omega)⟩
    case round =>
      obtain ⟨k, y, hk, rfl, rfl, hy0, hy1, HY⟩ := hrel
      have HS := hid (show fdN (min g 32767) (k + 1) = y * 26214 / 32768 by rw [HY.out]; rfl)
      by_cases hlt : (k : Int) < e
      · go_wp2
        go_round
        case rel => exact ⟨k + 1, y * 26214 / 32768, by omega, by go_num, rfl, by omega, by omega, hid HS.out.symm⟩
        case measure => simp [intOf] <;> omega
      · have HK := hid (show k = e.toNat by omega)
        have HF := hid (show fade g e = y by
          rw [HV.out, HY.out, HK.out]
          congr 1
          omega)
        clear hg
        go_wp2
        go_ret
        exact ⟨by rw [HF.out]; rfl, rfl⟩

set_option maxHeartbeats 1000000 in
theorem refFade_zero (g e : Int) (w : World) (he : e ≤ 0) : Calls Tryz.prog 185 #[.int .i64 g, .int .i64 e] w (GivesZ w (fade g e)) := by
  by_cases h1 : g < 0
  · have hv : fade g e = 0 := by unfold fade; rw [if_pos (.inl h1)]
    rw [hv]
    have d1 : decide (g < 0) = true := by simpa using h1
    clear hv
    go_enter Tryz.func185, Tryz.ntmps185
    go_wp2
    go_ret
    exact ⟨rfl, Below.refl _ _⟩
  · have hv : fade g e = min g 32767 := by unfold fade; rw [if_neg (by omega), show e.toNat = 0 from by omega]; rfl
    have d1 : decide (g < 0) = false := by simpa using h1
    have d2 : decide (5 < e) = false := by simp; omega
    have d3 : decide (e ≤ 0) = true := by simpa using he
    rcases (show (g ≤ 32767 ∧ min g 32767 = g) ∨ (32767 < g ∧ min g 32767 = 32767) by omega) with ⟨hg, hm⟩ | ⟨hg, hm⟩
    all_goals
      rw [hv, hm]
      clear hv hm h1
      go_enter Tryz.func185, Tryz.ntmps185
      go_wp2
      go_ret
      exact ⟨rfl, Below.refl _ _⟩

set_option maxHeartbeats 1000000 in
theorem refFade_nat (g : Int) : ∀ (n : Nat) (w : World), n ≤ 5 → Calls Tryz.prog 185 #[.int .i64 g, .int .i64 (n : Nat)] w (GivesZ w (fade g n)) := by
  intro n
  induction n with
  | zero => intro w _; exact refFade_zero g 0 w (by omega)
  | succ n ih =>
    intro w hn
    by_cases h1 : g < 0
    · have hv : fade g ((n + 1 : Nat) : Int) = 0 := by unfold fade; rw [if_pos (.inl h1)]
      rw [hv]
      have d1 : decide (g < 0) = true := by simpa using h1
      clear hv ih
      go_enter Tryz.func185, Tryz.ntmps185
      go_wp2
      go_ret
      exact ⟨rfl, Below.refl _ _⟩
    · have hv : fade g ((n + 1 : Nat) : Int) = fade g (n : Nat) * 26214 / 32768 := by
        unfold fade
        rw [if_neg (by omega), if_neg (by omega), show ((n + 1 : Nat) : Int).toNat = n + 1 from by omega, show ((n : Nat) : Int).toNat = n from by omega]
        rfl
      have hr := fade_range g (n : Nat)
      have IH := hid (fun w1 => ih w1 (by omega))
      rw [hv]
      generalize fade g (n : Nat) = y at *
      obtain ⟨m, hm⟩ : ∃ m : Int, m = ((n + 1 : Nat) : Int) := ⟨_, rfl⟩
      have hm1 : m - 1 = (n : Nat) := by omega
      have hm2 : 1 ≤ m := by omega
      have hm3 : m ≤ 5 := by omega
      rw [← hm]
      have d1 : decide (g < 0) = false := by simpa using h1
      have d2 : decide (5 < m) = false := by simp; omega
      have d3 : decide (m ≤ 0) = false := by simp; omega
      clear hv hm ih h1 hn
      go_enter Tryz.func185, Tryz.ntmps185
      go_wp2_with fail
      refine (IH.out _).mono ?_
      rintro e w1 ⟨rfl, hB⟩
      have B1 := hid hB
      clear hB
      go_wp2_with fail
      refine (down_at (y * 26214) 15 32768 (y * 26214 / 32768) _ (by omega) (by omega) (by omega) (by decide) rfl).mono ?_
      rintro e w2 ⟨rfl, hB⟩
      have B2 := hid (B1.out.trans (hB.mono B1.out.size))
      clear hB
      go_wp2
      go_ret
      exact ⟨rfl, B2.out⟩

theorem refFade_any (g e : Int) (w : World) : Calls Tryz.prog 185 #[.int .i64 g, .int .i64 e] w (GivesZ w (fade g e)) := by
  by_cases h0 : e ≤ 0
  · exact refFade_zero g e w h0
  by_cases h5 : e ≤ 5
  · obtain ⟨n, rfl⟩ := Int.eq_ofNat_of_zero_le (show 0 ≤ e by omega)
    exact refFade_nat g n w (by omega)
  · have hv : fade g e = 0 := by unfold fade; rw [if_pos (.inr (by omega))]
    rw [hv]
    have d2 : decide (5 < e) = true := by simp; omega
    clear hv h0
    by_cases h1 : g < 0
    · have d1 : decide (g < 0) = true := by simpa using h1
      go_enter Tryz.func185, Tryz.ntmps185
      go_wp2
      go_ret
      exact ⟨rfl, Below.refl _ _⟩
    · have d1 : decide (g < 0) = false := by simpa using h1
      go_enter Tryz.func185, Tryz.ntmps185
      go_wp2
      go_ret
      exact ⟨rfl, Below.refl _ _⟩

end Go.Proofs.YthoiikkjjaldnaaGreatDoor
