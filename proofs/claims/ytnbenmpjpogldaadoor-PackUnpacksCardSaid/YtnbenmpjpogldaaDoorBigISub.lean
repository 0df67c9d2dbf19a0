/- The walks of Sub. -/
import Derived.Test.YtnbenmpjpogldaaDoorBigSum
namespace Go.Proofs.YtnbenmpjpogldaaDoor
set_option linter.unusedVariables false
set_option linter.unusedSimpArgs false
set_option maxRecDepth 100000
open Go.RowKit

set_option maxHeartbeats 2000000 in
theorem Sub_far (w : World) (b c d : Nat) (x y : Int) (hb : IntBlk w b) (hc : IntAt w c x) (hd : IntAt w d y) (sx : Sm x.natAbs) (sy : Sm y.natAbs) (hbc : b ≠ c) (hbd : b ≠ d) :
    Calls Tryd.prog 27 #[.pointer (some ⟨b, 0, none⟩), .pointer (some ⟨c, 0, none⟩), .pointer (some ⟨d, 0, none⟩)] w (Gives w b (x - y)) := by
  obtain ⟨vx, h0, h1, hvx⟩ := hc.cells
  obtain ⟨vy, k0, k1, hvy⟩ := hd.cells
  have hlc := hc.lt
  have hld := hd.lt
  have hlb := hb.lt
  have HB := hid hb
  have HX := hid hvx
  have HY := hid hvy
  have NC := hid hbc
  have ND := hid hbd
  clear hb hvx hvy hc hd hbc hbd
  obtain ⟨s, hs⟩ : ∃ s, s = decide (x < 0) := ⟨_, rfl⟩
  rw [← hs] at h0
  have HSX := hid hs
  clear hs
  obtain ⟨t, ht⟩ : ∃ t, t = decide (y < 0) := ⟨_, rfl⟩
  rw [← ht] at k0
  have HSY := hid ht
  clear ht
  go_enter Tryd.func27, Tryd.ntmps27
  go_wp2_with fail
  go_region_held3 (fun w' => w'.cell? ⟨c, 0, none⟩ = some (.bool s) ∧ w'.cell? ⟨c, 1, none⟩ = some vx ∧ w'.cell? ⟨d, 0, none⟩ = some (.bool t) ∧ w'.cell? ⟨d, 1, none⟩ = some vy) (go_keep)
    (first
    | (go_at_call 33; refine (sum_any w.drew s (!t) vx vy _ _ HX.out.drew HY.out.drew sx sy).mono ?_; rintro e w1 ⟨neg, v1, n1, rfl, hnm, hz, hw'⟩; have hw := Sums.below ⟨neg, v1, n1, rfl, hnm, hz, hw'⟩; clear hw'; have q1 := hid hw; have q2 := hid hnm; have q3 := hid hz; have c0 := (Below.cell hw (p := ⟨c, 0, none⟩) hlc).trans h0; have c1 := (Below.cell hw (p := ⟨c, 1, none⟩) hlc).trans h1; have d0 := (Below.cell hw (p := ⟨d, 0, none⟩) hld).trans k0; have d1 := (Below.cell hw (p := ⟨d, 1, none⟩) hld).trans k1; clear hnm hz hw)
    | (go_at_call 31; refine (give_any _ b _ _ n1 (HB.out.drew.below q1.out (Nat.le_refl _)) q2.out).mono ?_; rintro e w2 ⟨rfl, hI, hG⟩; have q4 := hid (And.intro hI hG); have c0' := (World.grownBy.cell hG c0 (fun h => NC.out (Option.some.inj h).symm)); have c1' := (World.grownBy.cell hG c1 (fun h => NC.out (Option.some.inj h).symm)); have d0' := (World.grownBy.cell hG d0 (fun h => ND.out (Option.some.inj h).symm)); have d1' := (World.grownBy.cell hG d1 (fun h => ND.out (Option.some.inj h).symm)); clear hI hG))
  all_goals
    go_wp2
    go_ret
    refine ⟨rfl, ?_, ?_⟩
    · have h1 := q4.out.1
      have h2 := q3.out
      rw [HSX.out, HSY.out] at h2
      rw [sgn_self, sgn_neg, ← Int.sub_eq_add_neg] at h2
      rw [h2] at h1
      exact h1
    · exact grownBy_trans (grownBy_of_below (Below.drew (Below.refl w.heap.size w)) (Nat.le_refl _) _) (grownBy_trans (grownBy_of_below q1.out (Nat.le_refl _) _) q4.out.2)

end Go.Proofs.YtnbenmpjpogldaaDoor
