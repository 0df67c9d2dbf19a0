/- The walk of the closure that gets bits out of bytes. -/
import Derived.Test.YtnbenmpjpogldaaDoorUnV
import Derived.Test.YtnbenmpjpogldaaDoorPkD
import Derived.BigRegion
namespace Go.Proofs.YtnbenmpjpogldaaDoor
set_option linter.unusedVariables false
set_option linter.unusedSimpArgs false
set_option maxRecDepth 100000
open Go.RowKit

theorem and1b {y : Nat} (hy : y < 256) : bits BinOp.and IntKind.u8 (y : Int) 1 = ((y % 2 : Nat) : Int) := by
  have h : (BitVec.ofInt 8 (y : Int) &&& BitVec.ofInt 8 1).toNat = y % 2 := by
    rw [BitVec.toNat_and, BitVec.toNat_ofInt, show (BitVec.ofInt 8 1).toNat = 2 ^ 1 - 1 from by decide, Nat.and_two_pow_sub_one_eq_mod]
    omega
  show IntKind.u8.wrap ((BitVec.ofInt 8 (y : Int) &&& BitVec.ofInt 8 1).toNat : Int) = _
  rw [h, IntKind.wrap_u8]
  omega
theorem or1 {x u : Nat} (hx : x < 1000000) (hu : u < 2) : bits BinOp.or IntKind.i64 ((x * 2 : Nat) : Int) (u : Int) = ((x * 2 + u : Nat) : Int) := by
  have e : x * 2 + u = x * 2 ||| u := by
    have h1 := Nat.shiftLeft_add_eq_or_of_lt (a := x) (b := u) (i := 1) (by omega)
    rw [Nat.shiftLeft_eq] at h1
    exact h1
  have h : (BitVec.ofInt 64 ((x * 2 : Nat) : Int) ||| BitVec.ofInt 64 (u : Int)).toNat = x * 2 + u := by
    rw [BitVec.toNat_or, BitVec.toNat_ofInt, BitVec.toNat_ofInt, e]
    congr 1 <;> omega
  show IntKind.i64.wrap ((BitVec.ofInt 64 ((x * 2 : Nat) : Int) ||| BitVec.ofInt 64 (u : Int)).toNat : Int) = _
  rw [h, IntKind.wrap_i64]
  omega
/-- What the unpacking keeps: the bytes, their variable, the place. -/
structure Ust (gB gA : Nat) (A : Option Addr) (c : Nat) (xs : List Int) (n : Nat) (W : World) : Prop where
  R : Rb W gB A xs
  B : Blk W gB 31 #[.slice A 15 c]
  A : Blk W gA 3 #[.int .i64 (n : Nat)]
  l1 : gB < gA
section
variable {gB gA c n : Nat} {A : Option Addr} {xs : List Int} {W W' : World}
theorem Ust.below (s : Ust gB gA A c xs n W) (hb : Below W.heap.size W W') : Ust gB gA A c xs n W' := ⟨s.R.below (hb.mono (Nat.le_of_lt (Blk.lt s.B))), Blk.below' s.B hb, Blk.below' s.A hb, s.l1⟩
theorem Ust.drewN (s : Ust gB gA A c xs n W) (k : Nat) : Ust gB gA A c xs n (W.drewN k) := ⟨s.R, s.B, s.A, s.l1⟩
theorem Ust.put (s : Ust gB gA A c xs n W) (m : Nat) : Ust gB gA A c xs m (W.setCell ⟨gA, 0, none⟩ (.int .i64 (m : Nat))) := by
  have h1 := s.l1
  refine ⟨s.R.below ((Below.refl _ _).setCell (p := ⟨gA, 0, none⟩) (by show gB ≤ gA; omega) _), Blk.far s.B (p := ⟨gA, 0, none⟩) (by show gB ≠ gA; omega) _, ?_, h1⟩
  exact Blk.set_ s.A 0 (.int .i64 (m : Nat))
/-- A block far from the place is written. -/
theorem Ust.far (s : Ust gB gA A c xs n W) {p : Addr} (h1 : gB < p.block) (h2 : gA ≠ p.block) (v : Value) : Ust gB gA A c xs n (W.setCell p v) :=
  ⟨s.R.below ((Below.refl _ _).setCell (by omega) _), Blk.far s.B (by omega) v, Blk.far s.A h2 v, s.l1⟩
end
theorem TwoP.drewN {g h : Nat} {w w1 : World} (a : TwoP g h w w1) (k : Nat) : TwoP g h w (w1.drewN k) := ⟨a.os, a.tape, a.output, a.size, a.keep⟩
set_option maxHeartbeats 4000000 in
theorem get_any (gB gA c a n : Nat) (A : Option Addr) (xs : List Int) (w : World) (S : Ust gB gA A c xs a w) (hx : Byts xs) (hl : xs.length = 15) (hc : 15 ≤ c) (hn : n ≤ 6) (ha : a + n ≤ 112) :
    Calls Tryd.prog 23 #[.int .i64 n, .pointer (some ⟨gB, 0, none⟩), .pointer (some ⟨gA, 0, none⟩)] w
      (fun e w' => e = .returned (.int .i64 (gt (unV xs) a n : Nat)) ∧ Ust gB gA A c xs (a + n) w' ∧ TwoP gA gA w w') := by
  have S0 := hid S
  have HX := hid hx
  have HL := hid hl
  clear S hx hl
  go_enter Tryd.func23, Tryd.ntmps23
  go_wp2
  go_loopw [5, 7] (fun vv iv wr => ∃ m : Nat, m ≤ n ∧ iv = .int .i64 m ∧ vv = .int .i64 (gt (unV xs) a m : Nat) ∧ Hid (Ust gB gA A c xs (a + m) wr) ∧ Hid (TwoP gA gA w wr)) (fun _ iv _ => n - (intOf iv).toNat)
  case atStart => exact ⟨0, by omega, rfl, by unfold gt; simp [Nat.mod_one], S0, hid (TwoP.refl _ _ _)⟩
  case round =>
    clear S0
    obtain ⟨m, hm, rfl, rfl, HS, HT⟩ := hrel
    by_cases hlt : m < n
    · obtain ⟨K, hA⟩ : ∃ K, K = a + m := ⟨_, rfl⟩
      rw [← hA] at HS
      obtain ⟨j, hj⟩ : ∃ j, j = K / 8 := ⟨_, rfl⟩
      obtain ⟨q, hq⟩ : ∃ q, q = 7 - K % 8 := ⟨_, rfl⟩
      obtain ⟨P, hP⟩ : ∃ P, P = 112 - a - (m + 1) := ⟨_, rfl⟩
      have hj14 : j < 14 := by omega
      have hq8 : q < 8 := by omega
      have hPe : 8 * (13 - j) + q = P := by omega
      obtain ⟨ad, rfl, had, c0⟩ := HS.out.R.at_ (k := j) (by rw [HL.out]; omega)
      have hd := nb_dig HX.out hj14
      have hxj := HX.out j
      have hbit := gt_bit (V := unV xs) (e := 8 * (13 - j)) hq8
      obtain ⟨e0, he0⟩ : ∃ e0, e0 = digE (unV xs) (8 * (13 - j)) := ⟨_, rfl⟩
      have he256 : e0 < 256 := by rw [he0]; exact digE_lt _ _
      have hxe : xs.getD j 0 = (e0 : Nat) := by
        have : e0 = (xs.getD j 0).toNat := by rw [he0]; exact hd
        omega
      rw [hxe] at c0
      rw [← he0, hPe] at hbit
      obtain ⟨y, hy⟩ : ∃ y, y = e0 / 2 ^ q := ⟨_, rfl⟩
      rw [← hy] at hbit
      have hy256 : y < 256 := by rw [hy]; exact Nat.lt_of_le_of_lt (Nat.div_le_self _ _) he256
      obtain ⟨u, hu⟩ : ∃ u, u = y % 2 := ⟨_, rfl⟩
      have hu2 : u < 2 := by omega
      have G1 := hid (show gt (unV xs) a (m + 1) = gt (unV xs) a m * 2 + u from by
        unfold gt
        rw [← hP, show 112 - a - m = P + 1 by omega, hu, hbit, Nat.shiftRight_succ]
        exact (gt_step _ _).symm)
      have hv64 : gt (unV xs) a m < 64 := Nat.lt_of_lt_of_le (gt_lt _ _ _) (show 2 ^ m ≤ 2 ^ 6 from Nat.pow_le_pow_right (by decide) (by omega))
      generalize gt (unV xs) a m = v at *
      have hyd : (e0 : Int) / 2 ^ q = (y : Nat) := by rw [hy]; simp
      have hand := and1b hy256
      rw [← hu] at hand
      have hor := or1 (x := v) (u := u) (by omega) hu2
      obtain ⟨v2, hv2⟩ : ∃ v2, v2 = v * 2 := ⟨_, rfl⟩
      obtain ⟨v3, hv3⟩ : ∃ v3, v3 = v * 2 + u := ⟨_, rfl⟩
      rw [← hv3] at hor G1
      rw [← hv2] at hor
      have hvd : (v : Int) * 2 = ((v2 : Nat) : Int) := by omega
      have hvw : IntKind.i64.wrap ((v2 : Nat) : Int) = ((v2 : Nat) : Int) := by rw [IntKind.wrap_i64]; omega
      clear hv2 hv3
      have hdj : (K : Int) / 8 = (j : Nat) := by omega
      have hdr : IntKind.i64.wrap (7 - (K : Int) % 8) = (q : Nat) := by rw [IntKind.wrap_i64]; omega
      have hqu : IntKind.u64.wrap ((q : Nat) : Int) = (q : Nat) := by rw [IntKind.wrap_u64]; omega
      have hui : IntKind.i64.wrap ((u : Nat) : Int) = (u : Nat) := by rw [IntKind.wrap_i64]; omega
      have q0 : (0 : Int) ≤ q := by omega
      have q64 : (q : Int) < 64 := by omega
      have j0 : (0 : Int) ≤ j := by omega
      have j15 : (j : Int) < 15 := by omega
      have cB : wr.cell? ⟨gB, 0, none⟩ = some (.slice (some ad) 15 c) := Blk.cell HS.out.B 0
      have cA : wr.cell? ⟨gA, 0, none⟩ = some (.int .i64 (K : Nat)) := Blk.cell HS.out.A 0
      have fA := Blk.frozen HS.out.A 0
      have hK1 : IntKind.i64.wrap ((K : Int) + 1) = (K : Int) + 1 := by rw [IntKind.wrap_i64]; omega
      have SN := hid ((HS.out.drewN 1).put (K + 1))
      have TN := hid ((HT.out.drewN 1).set1 0 (.int .i64 ((K + 1 : Nat) : Int)))
      have HA := hid hA
      clear hA hj hq hP hPe hd hxj hbit he0 hxe hy hu had
      go_wp2
      go_region
      go_wp2
      go_roundw
      case rel => exact ⟨m + 1, by omega, by go_num, by rw [G1.out], hid (by rw [show a + (m + 1) = K + 1 by have := HA.out; omega]; exact SN.out), TN⟩
      case measure => simp [intOf] <;> omega
    · obtain rfl : m = n := by omega
      go_wp2
      go_ret
      exact ⟨rfl, HS.out, HT.out⟩
end Go.Proofs.YtnbenmpjpogldaaDoor
