/- The walks of Set, Neg, Abs, Rsh. -/
import Derived.Test.YtcfmipobgljbeaaBigInt2
namespace Go.Proofs.Ytcfmipobgljbeaa
set_option linter.unusedVariables false
set_option linter.unusedSimpArgs false
set_option maxRecDepth 100000
open Go.RowKit

theorem twin_nm (w : World) (v : Value) (n : Nat) (h : Nm w v n) (hs : Sm n) : Calls Try.prog 122 #[v] w (GivesNm w n) := by
  obtain ⟨ao, len, cap, ws, rfl, hr, ht, rfl, hl⟩ := h.len hs
  refine (twin_any w ao len cap ws hr (by omega)).mono ?_
  rintro e w' ⟨v', rfl, hown, hg⟩
  obtain ⟨ao', cap', rfl, hr', _⟩ := Rd.owned hown hr.ok
  exact ⟨⟨_, rfl, ao', len, cap', ws, rfl, hr', ht, rfl⟩, (Below.refl _ _).grown hg (Nat.le_refl _) (fun k h => by cases h)⟩

set_option maxHeartbeats 2000000 in
theorem Set_any (w : World) (b c : Nat) (z : Int) (hb : IntBlk w b) (hc : IntAt w c z) (hs : Sm z.natAbs) :
    Calls Try.prog 124 #[.pointer (some ⟨b, 0, none⟩), .pointer (some ⟨c, 0, none⟩)] w (Gives w b z) := by
  obtain ⟨v, h0, h1, hv⟩ := hc.cells
  have HB := hid hb
  have HV := hid hv
  have hlt := hc.lt
  clear hb hv hc
  go_enter Try.func124, Try.ntmps124
  go_wp2_with fail
  go_region_with (first
    | (go_at_call 122; refine (twin_nm w.drew v z.natAbs HV.out.drew hs).mono ?_; rintro e w1 ⟨⟨v', rfl, hnm⟩, hb⟩; have q0 := (Below.cell hb (p := ⟨c, 0, none⟩) hlt).trans h0; have q1 := hid hb; have q2 := hid hnm; clear hb hnm)
    | (go_at_call 69; refine (give_any _ b _ _ z.natAbs (HB.out.drew.below q1.out (Nat.le_refl _)) q2.out).mono ?_; rintro e w2 ⟨rfl, hI, hG⟩; have q4 := hid (And.intro hI hG); clear hI hG))
  all_goals
    go_wp2
    go_ret
    refine ⟨rfl, ?_, ?_⟩
    · have := q4.out.1
      rw [sgn_self] at this
      exact this
    · exact grownBy_trans (grownBy_of_below (Below.drew (Below.refl w.heap.size w)) (Nat.le_refl _) _) (grownBy_trans (grownBy_of_below q1.out (Nat.le_refl _) _) q4.out.2)

theorem sgn_neg (z : Int) : sgn (!decide (z < 0)) z.natAbs = -z := by
  unfold sgn
  by_cases h : z < 0
  · simp [h]; omega
  · simp [h]; omega

set_option maxHeartbeats 2000000 in
theorem Neg_any (w : World) (b c : Nat) (z : Int) (hb : IntBlk w b) (hc : IntAt w c z) (hs : Sm z.natAbs) :
    Calls Try.prog 119 #[.pointer (some ⟨b, 0, none⟩), .pointer (some ⟨c, 0, none⟩)] w (Gives w b (-z)) := by
  obtain ⟨v, h0, h1, hv⟩ := hc.cells
  have HB := hid hb
  have HV := hid hv
  have hlt := hc.lt
  clear hb hv hc
  obtain ⟨t, ht⟩ : ∃ t, t = decide (z < 0) := ⟨_, rfl⟩
  rw [← ht] at h0
  have HT := hid ht
  clear ht
  go_enter Try.func119, Try.ntmps119
  go_wp2_with fail
  go_region_with (first
    | (go_at_call 122; refine (twin_nm w.drew v z.natAbs HV.out.drew hs).mono ?_; rintro e w1 ⟨⟨v', rfl, hnm⟩, hb⟩; have q0 := (Below.cell hb (p := ⟨c, 0, none⟩) hlt).trans h0; have q1 := hid hb; have q2 := hid hnm; clear hb hnm)
    | (go_at_call 69; refine (give_any _ b _ _ z.natAbs (HB.out.drew.below q1.out (Nat.le_refl _)) q2.out).mono ?_; rintro e w2 ⟨rfl, hI, hG⟩; have q4 := hid (And.intro hI hG); clear hI hG))
  all_goals
    go_wp2
    go_ret
    refine ⟨rfl, ?_, ?_⟩
    · have := q4.out.1
      rw [HT.out, sgn_neg] at this
      exact this
    · exact grownBy_trans (grownBy_of_below (Below.drew (Below.refl w.heap.size w)) (Nat.le_refl _) _) (grownBy_trans (grownBy_of_below q1.out (Nat.le_refl _) _) q4.out.2)

theorem Nm.one (w : World) : Nm (w.alloc (.cells #[.int .u32 1] 95)) (.slice (some ⟨w.heap.size, 0, none⟩) 1 1) 1 := by
  have hO := World.ownsRow_lit (base := w.heap.size) (e := 95) (size := 1) w #[.int .u32 ((1 : Nat) : Int)] 1 (Nat.le_refl _) (by unfold maxLen; omega) rfl
  obtain ⟨ao, cap, hv, hr, _⟩ := Rd.owned (ws := [1]) hO (by intro y hy; simp at hy; omega)
  injection hv with h1 h2 h3
  subst h1; subst h3
  exact ⟨_, 1, 1, [1], rfl, hr, by intro n hn; simp at hn; subst hn; decide, rfl⟩

theorem fdiv_neg {z : Int} (h : z < 0) (n : Nat) : z / 2 ^ n = -(((z.natAbs - 1) / 2 ^ n + 1 : Nat) : Int) := by
  have hp : (0 : Int) < 2 ^ n := Int.pow_pos (by decide)
  obtain ⟨m, rfl⟩ : ∃ m : Nat, z = -((m : Int) + 1) := ⟨z.natAbs - 1, by omega⟩
  have e1 : (-((m : Int) + 1)).natAbs - 1 = m := by omega
  rw [e1]
  have e2 : -((m : Int) + 1) / 2 ^ n = -((m : Int) / 2 ^ n) - 1 := by
    rw [show -((m : Int) + 1) = -(m : Int) - 1 from by omega]
    rw [Int.ediv_eq_iff_of_pos hp]
    have h1 := Int.mul_ediv_add_emod (m : Int) (2 ^ n)
    have h2 := Int.emod_nonneg (m : Int) (Int.ne_of_gt hp)
    have h3 := Int.emod_lt_of_pos (m : Int) hp
    generalize (m : Int) / 2 ^ n = q at *
    generalize (m : Int) % 2 ^ n = r at *
    generalize (2 : Int) ^ n = p at *
    have h4 : (-q - 1) * p = -(p * q) - p := by rw [Int.sub_mul, Int.neg_mul, Int.mul_comm q]; omega
    have h5 : (-q - 1 + 1) * p = -(p * q) := by rw [Int.sub_add_cancel, Int.neg_mul, Int.mul_comm q]
    first
      | (rw [h4, h5]; omega)
      | (constructor <;> (first | rw [h4] | rw [h5] | skip) <;> omega)
      | skip
  rw [e2]
  simp
  omega

end Go.Proofs.Ytcfmipobgljbeaa
