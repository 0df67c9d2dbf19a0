/- The walk of Rsh. -/
import Derived.Test.YtnbenmpjpogldaaDoorBigInt3
namespace Go.Proofs.YtnbenmpjpogldaaDoor
set_option linter.unusedVariables false
set_option linter.unusedSimpArgs false
set_option maxRecDepth 100000
open Go.RowKit

set_option maxHeartbeats 2000000 in
theorem Rsh_any (w : World) (b c : Nat) (z : Int) (n : Nat) (hb : IntBlk w b) (hc : IntAt w c z) (hs : Sm z.natAbs) (hn : n ≤ 10000) :
    Calls Tryd.prog 26 #[.pointer (some ⟨b, 0, none⟩), .pointer (some ⟨c, 0, none⟩), .int .u64 (n : Nat)] w (Gives w b (z / 2 ^ n)) := by
  obtain ⟨v, h0, h1, hv⟩ := hc.cells
  have HB := hid hb
  have HV := hid hv
  have HS := hid hs
  clear hb hv hc hs
  by_cases hz : z < 0
  · have hd : decide (z < 0) = true := by simpa using hz
    rw [hd] at h0
    clear hd
    go_enter Tryd.func26, Tryd.ntmps26
    go_wp2_with fail
    refine (sub_nm _ v _ z.natAbs 1 (HV.out.below ((Below.refl _ _).alloc (Nat.le_refl _) _) (Nat.le_refl _)) (Nm.one w) HS.out (by omega)).mono ?_
    rintro e w1 ⟨⟨v1, rfl, hnm⟩, hb⟩
    have q1 := hid hb; have q2 := hid hnm; clear hb hnm
    go_wp2_with fail
    refine (right_any w1 v1 (z.natAbs - 1) n q2.out (by have := HS.out; unfold Sm at *; omega) hn).mono ?_
    rintro e w2 ⟨⟨v2, rfl, hnm⟩, hb⟩
    have q3 := hid hb; have q4 := hid hnm; clear hb hnm
    go_wp2_with fail
    refine (add_nm _ v2 _ ((z.natAbs - 1) / 2 ^ n) 1 (q4.out.below ((Below.refl _ _).alloc (Nat.le_refl _) _) (Nat.le_refl _)) (Nm.one w2) (by have := HS.out; have h5 := Nat.div_le_self (z.natAbs - 1) (2 ^ n); unfold Sm at *; omega) (sm_of_lt (by decide))).mono ?_
    rintro e w3 ⟨⟨v3, rfl, hnm⟩, hb⟩
    have q5 := hid hb; have q6 := hid hnm; clear hb hnm
    go_wp2_with fail
    refine (give_any _ b _ _ _ (((((HB.out.below ((Below.refl _ _).alloc (Nat.le_refl _) _) (Nat.le_refl _)).below q1.out (Nat.le_refl _)).below q3.out (Nat.le_refl _)).below ((Below.refl _ _).alloc (Nat.le_refl _) _) (Nat.le_refl _)).below q5.out (Nat.le_refl _)) q6.out).mono ?_
    rintro e w4 ⟨rfl, hI, hG⟩
    have q7 := hid (And.intro hI hG); clear hI hG
    go_wp2
    go_ret
    refine ⟨rfl, ?_, ?_⟩
    · rw [fdiv_neg hz n]
      exact q7.out.1
    · refine grownBy_trans ?_ q7.out.2
      exact grownBy_trans (grownBy_of_below ((Below.refl _ _).alloc (Nat.le_refl _) _) (Nat.le_refl _) _) (grownBy_trans (grownBy_of_below q1.out (Nat.le_refl _) _) (grownBy_trans (grownBy_of_below q3.out (Nat.le_refl _) _) (grownBy_trans (grownBy_of_below ((Below.refl _ _).alloc (Nat.le_refl _) _) (Nat.le_refl _) _) (grownBy_of_below q5.out (Nat.le_refl _) _))))
  · have hd : decide (z < 0) = false := by simpa using hz
    rw [hd] at h0
    clear hd
    go_enter Tryd.func26, Tryd.ntmps26
    go_wp2_with (first
      | (go_at_call 38; refine (right_any w v z.natAbs n HV.out HS.out hn).mono ?_; rintro e w1 ⟨⟨v', rfl, hnm⟩, hb⟩; have q1 := hid hb; have q2 := hid hnm; clear hb hnm)
      | (go_at_call 31; refine (give_any _ b _ _ (z.natAbs / 2 ^ n) (HB.out.below q1.out (Nat.le_refl _)) q2.out).mono ?_; rintro e w2 ⟨rfl, hI, hG⟩; have q4 := hid (And.intro hI hG); clear hI hG))
    go_ret
    refine ⟨rfl, ?_, grownBy_trans (grownBy_of_below q1.out (Nat.le_refl _) _) q4.out.2⟩
    have e : z / 2 ^ n = sgn false (z.natAbs / 2 ^ n) := by
      unfold sgn
      obtain ⟨m, rfl⟩ := Int.eq_ofNat_of_zero_le (show 0 ≤ z by omega)
      simp
    rw [e]
    exact q4.out.1
end Go.Proofs.YtnbenmpjpogldaaDoor
