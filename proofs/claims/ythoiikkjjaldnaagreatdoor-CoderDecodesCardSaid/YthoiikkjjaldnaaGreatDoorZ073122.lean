/- Texts that the law rests on, laid together: BigDivMod, BigIMul. -/
import Derived.Test.YthoiikkjjaldnaaGreatDoorZ203080
import Derived.Test.YthoiikkjjaldnaaGreatDoorBigAddO
import Derived.Test.YthoiikkjjaldnaaGreatDoorZ685a03
/- The walks of DivMod, Div by a number above 0. -/
namespace Go.Proofs.YthoiikkjjaldnaaGreatDoor
set_option linter.unusedVariables false
set_option linter.unusedSimpArgs false
set_option maxRecDepth 100000
open Go.RowKit

/-- Of what was there only blocks b and m may have turned. -/
structure Two (b m : Nat) (w w' : World) : Prop where
  os : w'.os = w.os
  tape : w'.tape = w.tape
  output : w'.output = w.output
  size : w.heap.size ≤ w'.heap.size
  block : ∀ k, k < w.heap.size → k ≠ b → k ≠ m → w'.heap[k]? = w.heap[k]?

theorem Two.trans {b m : Nat} {u v w : World} (h : Two b m u v) (k : Two b m v w) : Two b m u w :=
  ⟨k.os.trans h.os, k.tape.trans h.tape, k.output.trans h.output, Nat.le_trans h.size k.size, fun i hi hb hm => (k.block i (Nat.lt_of_lt_of_le hi h.size) hb hm).trans (h.block i hi hb hm)⟩
theorem Two.left {b m : Nat} {u v : World} (h : u.grownBy v (some b)) : Two b m u v := ⟨h.os, h.tape, h.output, h.size, fun k hk hb _ => h.block k hk (by simpa using hb)⟩
theorem Two.right {b m : Nat} {u v : World} (h : u.grownBy v (some m)) : Two b m u v := ⟨h.os, h.tape, h.output, h.size, fun k hk _ hm => h.block k hk (by simpa using hm)⟩
theorem Two.below {b m : Nat} {u v : World} (h : Below u.heap.size u v) : Two b m u v := ⟨h.os, h.tape, h.output, h.size, fun k hk _ _ => h.block k hk⟩

/-- What DivMod answers. -/
def GivesDM (w : World) (b m : Nat) (q r : Int) (e : Ending) (w' : World) : Prop :=
  e = .returned (.tuple #[.pointer (some ⟨b, 0, none⟩), .pointer (some ⟨m, 0, none⟩)]) ∧ IntAt w' b q ∧ IntAt w' m r ∧ Two b m w w'

theorem tmod_add {x y : Int} (hy : 0 < y) (h : x.tmod y < 0) : x.tmod y + y = x % y := by
  have h1 := Int.mul_tdiv_add_tmod x y
  have h2 := tdiv_of_neg_rem hy h
  have h3 := Int.mul_ediv_add_emod x y
  rw [← h2, Int.mul_sub, Int.mul_one] at h3
  omega
theorem tmod_keep {x y : Int} (hy : 0 < y) (h : ¬ x.tmod y < 0) : x.tmod y = x % y := by
  have h1 := Int.mul_tdiv_add_tmod x y
  have h2 := tdiv_of_nonneg_rem hy h
  have h3 := Int.mul_ediv_add_emod x y
  rw [← h2] at h3
  omega

theorem natAbs_tdiv_le (x y : Int) : (x.tdiv y).natAbs ≤ x.natAbs := by rw [Int.natAbs_tdiv]; exact Nat.div_le_self _ _
theorem natAbs_tmod_le (x y : Int) : (x.tmod y).natAbs ≤ x.natAbs := by rw [Int.natAbs_tmod]; exact Nat.mod_le _ _

set_option maxHeartbeats 4000000 in
theorem DivMod_any (w : World) (b c d m : Nat) (x y : Int) (hb : IntBlk w b) (hc : IntAt w c x) (hd : IntAt w d y) (hm : IntBlk w m) (hbm : b ≠ m)
    (hx : x.natAbs < 18446744073709551616 ∨ y < 4294967296) (sx : Sm x.natAbs) (hy : 0 < y) (hy2 : y < 18446744073709551616) :
    Calls Tryz.prog 208 #[.pointer (some ⟨b, 0, none⟩), .pointer (some ⟨c, 0, none⟩), .pointer (some ⟨d, 0, none⟩), .pointer (some ⟨m, 0, none⟩)] w (GivesDM w b m (x / y) (x % y)) := by
  have sy : Sm y.natAbs := sm_of_lt (by omega)
  have SY := hid sy
  have SX := hid sx
  have HX := hid (show x.natAbs < 18446744073709551616 ∨ y.natAbs < 4294967296 by omega)
  clear sx hx
  have HB := hid hb
  have HC := hid hc
  have HD := hid hd
  have HM := hid hm
  have HBM := hid hbm
  have hlb := hb.lt
  have hlm := hm.lt
  have hlc := hc.lt
  have hld := hd.lt
  have dy : decide (y < 0) = false := by simp; omega
  have DY := hid dy
  clear sy hb hc hd hm hbm dy
  go_enter Tryz.func208, Tryz.ntmps208
  go_wp2_with fail
  refine (Set_any _ w.heap.size d y (IntBlk.new w _ _) (HD.out.below ((Below.refl _ _).alloc (Nat.le_refl _) _) (Nat.le_refl _)) SY.out).mono ?_
  rintro e w1 ⟨rfl, hI, hG⟩
  have D1 := hid hI
  have B1 := hid (below_of_grownBy ((Below.refl _ w).alloc (Nat.le_refl _) _) hG (Nat.le_refl _))
  have hs1 := B1.out.size
  have hl1 := D1.out.lt
  clear hI hG
  go_wp2_with fail
  refine (QuoRem_any w1 b c d m x y (HB.out.below B1.out (Nat.le_refl _)) (HC.out.below B1.out (Nat.le_refl _)) (HD.out.below B1.out (Nat.le_refl _)) (HM.out.below B1.out (Nat.le_refl _)) HBM.out HX.out (by omega) SX.out SY.out).mono ?_
  rintro e w2 ⟨rfl, hQ, hR, w1', g1, g2⟩
  have Q2 := hid hQ
  have R2 := hid hR
  have D2 := hid ((D1.out.kept (HB.out.below B1.out (Nat.le_refl _)) g1 (by omega)).kept (IntBlk.kept (HM.out.below B1.out (Nat.le_refl _)) g1 (fun h => HBM.out h.symm)) g2 (by omega))
  have T2 := hid ((Two.below (b := b) (m := m) B1.out).trans ((Two.left g1).trans (Two.right g2)))
  clear hQ hR g1 g2
  obtain ⟨v, r0, r1, _⟩ := R2.out.cells
  obtain ⟨v', e0, e1, _⟩ := D2.out.cells
  rw [DY.out] at e0
  have hs2 := T2.out.size
  by_cases hneg : x.tmod y < 0
  · have dn : decide (x.tmod y < 0) = true := by simpa using hneg
    rw [dn] at r0
    have FQ := hid (tdiv_of_neg_rem hy hneg)
    have FR := hid (tmod_add hy hneg)
    have SQ := hid (show Sm (x.tdiv y).natAbs by have := natAbs_tdiv_le x y; have := SX.out; unfold Sm at *; omega)
    have SR := hid (show Sm (x.tmod y).natAbs by have := natAbs_tmod_le x y; have := SX.out; unfold Sm at *; omega)
    clear dn hneg
    go_wp2_with fail
    refine (NewInt_any _ 1 (by omega) (by omega)).mono ?_
    rintro e w3 ⟨b3, rfl, hb3, hI3, hB3⟩
    have I3 := hid hI3
    have Q3 := hid (Q2.out.below hB3 (Nat.le_refl _))
    have R3 := hid (R2.out.below hB3 (Nat.le_refl _))
    have D3 := hid (D2.out.below hB3 (Nat.le_refl _))
    have T3 := hid (T2.out.trans (Two.below hB3))
    clear hI3 hB3 Q2 R2 D2 T2
    go_wp2_with fail
    refine (Sub_any _ b b b3 _ 1 Q3.out.blk Q3.out I3.out SQ.out (sm_of_lt (by decide))).mono ?_
    rintro e w4 ⟨rfl, hI4, hG4⟩
    have Q4 := hid hI4
    have R4 := hid (R3.out.kept Q3.out.blk hG4 (fun h => HBM.out h.symm))
    have D4 := hid (D3.out.kept Q3.out.blk hG4 (by omega))
    have T4 := hid (T3.out.trans (Two.left hG4))
    clear hI4 hG4 Q3 R3 D3 T3
    go_wp2_with fail
    refine (Add_any _ m m w.heap.size _ y R4.out.blk R4.out D4.out SR.out SY.out).mono ?_
    rintro e w5 ⟨rfl, hI5, hG5⟩
    have Q5 := hid (Q4.out.kept R4.out.blk hG5 HBM.out)
    have R5 := hid hI5
    have T5 := hid (T4.out.trans (Two.right hG5))
    clear hI5 hG5
    rw [FQ.out] at Q5
    rw [FR.out] at R5
    go_wp2
    go_ret2
    exact ⟨rfl, Q5.out, R5.out, T5.out⟩
  · have dn : decide (x.tmod y < 0) = false := by simpa using hneg
    rw [dn] at r0
    have FQ := hid (tdiv_of_nonneg_rem hy hneg)
    have FR := hid (tmod_keep hy hneg)
    clear dn hneg
    rw [FQ.out] at Q2
    rw [FR.out] at R2
    go_wp2
    go_ret2
    exact ⟨rfl, Q2.out, R2.out, T2.out⟩

set_option maxHeartbeats 2000000 in
theorem Mod_any (w : World) (b c d : Nat) (x y : Int) (hb : IntBlk w b) (hc : IntAt w c x) (hd : IntAt w d y)
    (hx : x.natAbs < 18446744073709551616 ∨ y < 4294967296) (sx : Sm x.natAbs) (hy : 0 < y) (hy2 : y < 18446744073709551616) :
    Calls Tryz.prog 199 #[.pointer (some ⟨b, 0, none⟩), .pointer (some ⟨c, 0, none⟩), .pointer (some ⟨d, 0, none⟩)] w (Gives w b (x % y)) := by
  have HB := hid hb
  have HC := hid hc
  have HD := hid hd
  have hlb := hb.lt
  clear hb hc hd
  go_enter Tryz.func199, Tryz.ntmps199
  go_wp2_with (go_at_call 208; refine (DivMod_any _ w.heap.size c d b x y (IntBlk.new w _ _) (HC.out.below ((Below.refl _ _).alloc (Nat.le_refl _) _) (Nat.le_refl _)) (HD.out.below ((Below.refl _ _).alloc (Nat.le_refl _) _) (Nat.le_refl _)) (HB.out.below ((Below.refl _ _).alloc (Nat.le_refl _) _) (Nat.le_refl _)) (by omega) hx sx hy hy2).mono ?_; rintro e w1 ⟨rfl, hQ, hR, hT⟩; have q1 := hid hR; have q2 := hid hT; clear hQ hR hT)
  go_ret
  refine ⟨rfl, q1.out, ?_⟩
  have hT := q2.out
  exact ⟨hT.os, hT.tape, hT.output, by have := hT.size; simp at this; omega, fun k hk hn => by
    rw [hT.block k (by simp; omega) (by omega) (by simpa using hn)]
    exact Below.heap_alloc _ _ _ hk⟩
end Go.Proofs.YthoiikkjjaldnaaGreatDoor

/- The walks of Mul. -/
namespace Go.Proofs.YthoiikkjjaldnaaGreatDoor
set_option linter.unusedVariables false
set_option linter.unusedSimpArgs false
set_option maxRecDepth 100000
open Go.RowKit

theorem sgn_mul (x y : Int) : sgn (!(decide (x < 0) == decide (y < 0))) (x.natAbs * y.natAbs) = x * y := by
  have hx := sgn_self x
  have hy := sgn_self y
  unfold sgn at *
  by_cases h1 : x < 0 <;> by_cases h2 : y < 0 <;> simp [h1, h2] at hx hy ⊢ <;>
    (conv => rhs; rw [← hx, ← hy]) <;> simp [Int.neg_mul, Int.mul_neg]

set_option maxHeartbeats 2000000 in
theorem Mul_far (w : World) (b c d : Nat) (x y : Int) (hb : IntBlk w b) (hc : IntAt w c x) (hd : IntAt w d y) (sx : Sm x.natAbs) (sy : Sm y.natAbs) (hbc : b ≠ c) (hbd : b ≠ d) :
    Calls Tryz.prog 118 #[.pointer (some ⟨b, 0, none⟩), .pointer (some ⟨c, 0, none⟩), .pointer (some ⟨d, 0, none⟩)] w (Gives w b (x * y)) := by
  obtain ⟨vx, h0, h1, hvx⟩ := hc.cells
  obtain ⟨vy, k0, k1, hvy⟩ := hd.cells
  have hlc := hc.lt
  have hld := hd.lt
  have hlb := hb.lt
  have HB := hid hb
  have HX := hid hvx
  have HY := hid hvy
  have NC := hid hbc
  have ND := hid hbd
  clear hb hvx hvy hc hd hbc hbd
  obtain ⟨s, hs⟩ : ∃ s, s = decide (x < 0) := ⟨_, rfl⟩
  rw [← hs] at h0
  have HSX := hid hs
  clear hs
  obtain ⟨t, ht⟩ : ∃ t, t = decide (y < 0) := ⟨_, rfl⟩
  rw [← ht] at k0
  have HSY := hid ht
  clear ht
  go_enter Tryz.func118, Tryz.ntmps118
  go_wp2_with fail
  go_region_held3 (fun w' => w'.cell? ⟨c, 0, none⟩ = some (.bool s) ∧ w'.cell? ⟨c, 1, none⟩ = some vx ∧ w'.cell? ⟨d, 0, none⟩ = some (.bool t) ∧ w'.cell? ⟨d, 1, none⟩ = some vy) (go_keep)
    (first
    | (go_at_call 175; refine (mul_any w.drew vx vy _ _ HX.out.drew HY.out.drew sx sy).mono ?_; rintro e w1 ⟨⟨v1, rfl, hnm⟩, hw⟩; obtain ⟨n1, hn1⟩ : ∃ n1, n1 = x.natAbs * y.natAbs := ⟨_, rfl⟩; rw [← hn1] at hnm; have hz : n1 = x.natAbs * y.natAbs ∧ s = s ∧ t = t := ⟨hn1, rfl, rfl⟩; clear hn1; have q1 := hid hw; have q2 := hid hnm; have q3 := hid hz; have c0 := (Below.cell hw (p := ⟨c, 0, none⟩) hlc).trans h0; have c1 := (Below.cell hw (p := ⟨c, 1, none⟩) hlc).trans h1; have d0 := (Below.cell hw (p := ⟨d, 0, none⟩) hld).trans k0; have d1 := (Below.cell hw (p := ⟨d, 1, none⟩) hld).trans k1; clear hnm hz hw)
    | (go_at_call 78; refine (give_any _ b _ _ n1 (HB.out.drew.below q1.out (Nat.le_refl _)) q2.out).mono ?_; rintro e w2 ⟨rfl, hI, hG⟩; have q4 := hid (And.intro hI hG); have c0' := (World.grownBy.cell hG c0 (fun h => NC.out (Option.some.inj h).symm)); have c1' := (World.grownBy.cell hG c1 (fun h => NC.out (Option.some.inj h).symm)); have d0' := (World.grownBy.cell hG d0 (fun h => ND.out (Option.some.inj h).symm)); have d1' := (World.grownBy.cell hG d1 (fun h => ND.out (Option.some.inj h).symm)); clear hI hG))
  all_goals
    go_wp2
    go_ret
    refine ⟨rfl, ?_, ?_⟩
    · have h1 := q4.out.1
      have h2 := q3.out
      rw [HSX.out, HSY.out, q3.out.1, sgn_mul] at h1
      exact h1
    · exact grownBy_trans (grownBy_of_below (Below.drew (Below.refl w.heap.size w)) (Nat.le_refl _) _) (grownBy_trans (grownBy_of_below q1.out (Nat.le_refl _) _) q4.out.2)

end Go.Proofs.YthoiikkjjaldnaaGreatDoor
