/- The walks of sum, Add, Sub. -/
import Derived.Test.YtnbenmpjpogldaaDoorBigInt3
namespace Go.Proofs.YtnbenmpjpogldaaDoor
set_option linter.unusedVariables false
set_option linter.unusedSimpArgs false
set_option maxRecDepth 100000
open Go.RowKit

/-- What sum answers. -/
def Sums (w : World) (z : Int) (e : Ending) (w' : World) : Prop := ∃ neg v n, e = .returned (.tuple #[.bool neg, v]) ∧ Nm w' v n ∧ sgn neg n = z ∧ ∃ w1 k, w1 = w.drewN k ∧ Below w.heap.size w1 w'

theorem Sums.below {w w' : World} {z : Int} {e : Ending} (h : Sums w z e w') : Below w.heap.size w w' := by
  obtain ⟨_, _, _, _, _, _, w1, k, rfl, hb⟩ := h
  exact Below.trans (b := w.drewN k) ⟨rfl, rfl, rfl, Nat.le_refl _, fun _ _ => rfl⟩ hb

theorem below_drewN (w : World) (k : Nat) : Below w.heap.size w (w.drewN k) := ⟨rfl, rfl, rfl, Nat.le_refl _, fun _ _ => rfl⟩

set_option maxHeartbeats 1000000 in
theorem sum_any (w : World) (s t : Bool) (va vb : Value) (a b : Nat) (ha : Nm w va a) (hb : Nm w vb b) (sa : Sm a) (sb : Sm b) :
    Calls Tryd.prog 33 #[.bool s, va, .bool t, vb] w (Sums w (sgn s a + sgn t b)) := by
  have HA := hid ha
  have HB := hid hb
  have SA := hid sa
  have SB := hid sb
  clear ha hb sa sb
  by_cases hst : s = t
  · subst hst
    have fin : ∀ v w1, GivesNm w (a + b) (.returned v) w1 → Sums w (sgn s a + sgn s b) (.returned (.tuple #[.bool s, v])) w1 := by
      rintro v w1 ⟨⟨v', hv, hnm⟩, hbel⟩
      obtain rfl : v' = v := by injection hv with h; exact h.symm
      refine ⟨s, v', a + b, rfl, hnm, ?_, _, 0, rfl, hbel⟩
      unfold sgn; split <;> omega
    have FIN := hid fin
    clear fin
    have hb : (s == s) = true := by simp
    cases s
    all_goals
      go_enter Tryd.func33, Tryd.ntmps33
      go_wp2_with (go_at_call 36; refine (add_nm _ va vb a b HA.out HB.out SA.out SB.out).mono ?_; rintro e w1 ⟨⟨v1, rfl, hnm⟩, hb⟩; have q1 := hid (And.intro hnm hb); clear hb hnm)
      go_ret2
      exact FIN.out _ _ ⟨⟨_, rfl, q1.out.1⟩, q1.out.2⟩
  · by_cases hab : b ≤ a
    · have fin : ∀ v k w1, GivesNm (w.drewN k) (a - b) (.returned v) w1 → Sums w (sgn s a + sgn t b) (.returned (.tuple #[.bool s, v])) w1 := by
        rintro v k w1 ⟨⟨v', hv, hnm⟩, hbel⟩
        obtain rfl : v' = v := by injection hv with h; exact h.symm
        refine ⟨s, v', a - b, rfl, hnm, ?_, _, k, rfl, hbel⟩
        unfold sgn
        cases s <;> cases t <;> simp at * <;> omega
      have FIN := hid fin
      clear fin
      have hc : 0 ≤ cmpN a b := by unfold cmpN; split; omega; split <;> omega
      cases s <;> cases t <;> simp only [reduceCtorEq, not_true_eq_false, not_false_eq_true] at hst
      all_goals
        go_enter Tryd.func33, Tryd.ntmps33
        go_wp2_with (first
          | (go_at_call 42; refine (cmp_nm _ va vb a b HA.out HB.out SA.out SB.out).mono ?_; rintro e w1 ⟨rfl, k, rfl⟩)
          | (go_at_call 39; refine (sub_nm _ va vb a b (HA.out.below (below_drewN w k) (Nat.le_refl _)) (HB.out.below (below_drewN w k) (Nat.le_refl _)) SA.out hab).mono ?_; rintro e w1 ⟨⟨v1, rfl, hnm⟩, hb⟩; have q1 := hid (And.intro hnm hb); clear hb hnm))
        go_ret2
        exact FIN.out _ k _ ⟨⟨_, rfl, q1.out.1⟩, q1.out.2⟩
    · have fin : ∀ v k w1, GivesNm (w.drewN k) (b - a) (.returned v) w1 → Sums w (sgn s a + sgn t b) (.returned (.tuple #[.bool t, v])) w1 := by
        rintro v k w1 ⟨⟨v', hv, hnm⟩, hbel⟩
        obtain rfl : v' = v := by injection hv with h; exact h.symm
        refine ⟨t, v', b - a, rfl, hnm, ?_, _, k, rfl, hbel⟩
        unfold sgn
        cases s <;> cases t <;> simp at * <;> omega
      have FIN := hid fin
      clear fin
      have hc : cmpN a b < 0 := by rw [cmpN_lt (by omega)]; omega
      have hba : a ≤ b := by omega
      cases s <;> cases t <;> simp only [reduceCtorEq, not_true_eq_false, not_false_eq_true] at hst
      all_goals
        go_enter Tryd.func33, Tryd.ntmps33
        go_wp2_with (first
          | (go_at_call 42; refine (cmp_nm _ va vb a b HA.out HB.out SA.out SB.out).mono ?_; rintro e w1 ⟨rfl, k, rfl⟩)
          | (go_at_call 39; refine (sub_nm _ vb va b a (HB.out.below (below_drewN w k) (Nat.le_refl _)) (HA.out.below (below_drewN w k) (Nat.le_refl _)) SB.out hba).mono ?_; rintro e w1 ⟨⟨v1, rfl, hnm⟩, hb⟩; have q1 := hid (And.intro hnm hb); clear hb hnm))
        go_ret2
        exact FIN.out _ k _ ⟨⟨_, rfl, q1.out.1⟩, q1.out.2⟩

end Go.Proofs.YtnbenmpjpogldaaDoor
