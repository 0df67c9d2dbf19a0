/- The walks of Fade, the program's and the reference's, and of the law GainFades. -/
import Derived.Test.YtcfmipobgljbeaaDown
namespace Go.Proofs.Ytcfmipobgljbeaa
set_option linter.unusedVariables false
set_option linter.unusedSimpArgs false
set_option maxRecDepth 100000
open Go.RowKit

/-- A gain k erased frames later. -/
def fdN (x : Int) : Nat → Int
  | 0 => x
  | k + 1 => fdN x k * 26214 / 32768
theorem fdN_range {x : Int} (h0 : 0 ≤ x) (h1 : x ≤ 32767) (k : Nat) : 0 ≤ fdN x k ∧ fdN x k ≤ 32767 := by
  induction k with
  | zero => exact ⟨h0, h1⟩
  | succ k ih => simp only [fdN]; omega

def fade (g e : Int) : Int := if g < 0 ∨ 5 < e then 0 else fdN (min g 32767) e.toNat
theorem fade_range (g e : Int) : 0 ≤ fade g e ∧ fade g e ≤ 32767 := by
  unfold fade
  split
  · omega
  · exact fdN_range (by omega) (by omega) _

set_option maxHeartbeats 1000000 in
theorem fade_any (g e : Int) (w : World) : Calls Try.prog 88 #[.int .i64 g, .int .i64 e] w fun en w' => en = .returned (.int .i64 (fade g e)) ∧ w = w' := by
  by_cases h1 : g < 0
  · have hv : fade g e = 0 := by unfold fade; rw [if_pos (.inl h1)]
    rw [hv]
    have d1 : decide (g < 0) = true := by simpa using h1
    clear hv
    go_enter Try.func88, Try.ntmps88
    go_wp2
    go_ret
    exact ⟨rfl, rfl⟩
  by_cases h2 : 5 < e
  · have hv : fade g e = 0 := by unfold fade; rw [if_pos (.inr h2)]
    rw [hv]
    have d1 : decide (g < 0) = false := by simpa using h1
    have d2 : decide (6 ≤ e) = true := by simp; omega
    clear hv
    go_enter Try.func88, Try.ntmps88
    go_wp2
    go_ret
    exact ⟨rfl, rfl⟩
  have hv : fade g e = fdN (min g 32767) e.toNat := by unfold fade; rw [if_neg (by omega)]
  have d1 : decide (g < 0) = false := by simpa using h1
  have d2 : decide (6 ≤ e) = false := by simp; omega
  have h3 : e ≤ 5 := by omega
  clear h2
  rcases (show (g ≤ 32767 ∧ min g 32767 = g) ∨ (32767 < g ∧ min g 32767 = 32767) by omega) with ⟨hg, hm⟩ | ⟨hg, hm⟩
  all_goals
    rw [hm] at hv
    have HV := hid hv
    clear hv hm
    go_enter Try.func88, Try.ntmps88
    go_wp2
    go_loop [0, 14] (fun gv iv => ∃ (k : Nat) (y : Int), (k = 0 ∨ (k : Int) ≤ e) ∧ iv = .int .i64 k ∧ gv = .int .i64 y ∧ 0 ≤ y ∧ y ≤ 32767 ∧ Hid (y = fdN (min g 32767) k)) (fun _ iv => (e - intOf iv).toNat)
    case atStart => exact ⟨0, _, .inl rfl, rfl, rfl, by omega, by omega, hid (by simp only [fdN]; omega)⟩
    case round =>
      obtain ⟨k, y, hk, rfl, rfl, hy0, hy1, HY⟩ := hrel
      have HS := hid (show fdN (min g 32767) (k + 1) = y * 26214 / 32768 by rw [HY.out]; rfl)
      by_cases hlt : (k : Int) < e
      · go_wp2
        go_round
        case rel => exact ⟨k + 1, y * 26214 / 32768, by omega, by go_num, rfl, by omega, by omega, hid HS.out.symm⟩
        case measure => simp [intOf] <;> omega
      · have HK := hid (show k = e.toNat by omega)
        have HF := hid (show fade g e = y by
          rw [HV.out, HY.out, HK.out]
          congr 1
          omega)
        clear hg
        go_wp2
        go_ret
        exact ⟨by rw [HF.out]; rfl, rfl⟩

set_option maxHeartbeats 1000000 in
theorem refFade_zero (g e : Int) (w : World) (he : e ≤ 0) : Calls Try.prog 96 #[.int .i64 g, .int .i64 e] w (GivesZ w (fade g e)) := by
  by_cases h1 : g < 0
  · have hv : fade g e = 0 := by unfold fade; rw [if_pos (.inl h1)]
    rw [hv]
    have d1 : decide (g < 0) = true := by simpa using h1
    clear hv
    go_enter Try.func96, Try.ntmps96
    go_wp2
    go_ret
    exact ⟨rfl, Below.refl _ _⟩
  · have hv : fade g e = min g 32767 := by unfold fade; rw [if_neg (by omega), show e.toNat = 0 from by omega]; rfl
    have d1 : decide (g < 0) = false := by simpa using h1
    have d2 : decide (5 < e) = false := by simp; omega
    have d3 : decide (e ≤ 0) = true := by simpa using he
    rcases (show (g ≤ 32767 ∧ min g 32767 = g) ∨ (32767 < g ∧ min g 32767 = 32767) by omega) with ⟨hg, hm⟩ | ⟨hg, hm⟩
    all_goals
      rw [hv, hm]
      clear hv hm h1
      go_enter Try.func96, Try.ntmps96
      go_wp2
      go_ret
      exact ⟨rfl, Below.refl _ _⟩

set_option maxHeartbeats 1000000 in
theorem refFade_nat (g : Int) : ∀ (n : Nat) (w : World), n ≤ 5 → Calls Try.prog 96 #[.int .i64 g, .int .i64 (n : Nat)] w (GivesZ w (fade g n)) := by
  intro n
  induction n with
  | zero => intro w _; exact refFade_zero g 0 w (by omega)
  | succ n ih =>
    intro w hn
    by_cases h1 : g < 0
    · have hv : fade g ((n + 1 : Nat) : Int) = 0 := by unfold fade; rw [if_pos (.inl h1)]
      rw [hv]
      have d1 : decide (g < 0) = true := by simpa using h1
      clear hv ih
      go_enter Try.func96, Try.ntmps96
      go_wp2
      go_ret
      exact ⟨rfl, Below.refl _ _⟩
    · have hv : fade g ((n + 1 : Nat) : Int) = fade g (n : Nat) * 26214 / 32768 := by
        unfold fade
        rw [if_neg (by omega), if_neg (by omega), show ((n + 1 : Nat) : Int).toNat = n + 1 from by omega, show ((n : Nat) : Int).toNat = n from by omega]
        rfl
      have hr := fade_range g (n : Nat)
      have IH := hid (fun w1 => ih w1 (by omega))
      rw [hv]
      generalize fade g (n : Nat) = y at *
      obtain ⟨m, hm⟩ : ∃ m : Int, m = ((n + 1 : Nat) : Int) := ⟨_, rfl⟩
      have hm1 : m - 1 = (n : Nat) := by omega
      have hm2 : 1 ≤ m := by omega
      have hm3 : m ≤ 5 := by omega
      rw [← hm]
      have d1 : decide (g < 0) = false := by simpa using h1
      have d2 : decide (5 < m) = false := by simp; omega
      have d3 : decide (m ≤ 0) = false := by simp; omega
      clear hv hm ih h1 hn
      go_enter Try.func96, Try.ntmps96
      go_wp2_with fail
      refine (IH.out _).mono ?_
      rintro e w1 ⟨rfl, hB⟩
      have B1 := hid hB
      clear hB
      go_wp2_with fail
      refine (down_at (y * 26214) 15 32768 (y * 26214 / 32768) _ (by omega) (by omega) (by omega) (by decide) rfl).mono ?_
      rintro e w2 ⟨rfl, hB⟩
      have B2 := hid (B1.out.trans (hB.mono B1.out.size))
      clear hB
      go_wp2
      go_ret
      exact ⟨rfl, B2.out⟩

theorem refFade_any (g e : Int) (w : World) : Calls Try.prog 96 #[.int .i64 g, .int .i64 e] w (GivesZ w (fade g e)) := by
  by_cases h0 : e ≤ 0
  · exact refFade_zero g e w h0
  by_cases h5 : e ≤ 5
  · obtain ⟨n, rfl⟩ := Int.eq_ofNat_of_zero_le (show 0 ≤ e by omega)
    exact refFade_nat g n w (by omega)
  · have hv : fade g e = 0 := by unfold fade; rw [if_pos (.inr (by omega))]
    rw [hv]
    have d2 : decide (5 < e) = true := by simp; omega
    clear hv h0
    by_cases h1 : g < 0
    · have d1 : decide (g < 0) = true := by simpa using h1
      go_enter Try.func96, Try.ntmps96
      go_wp2
      go_ret
      exact ⟨rfl, Below.refl _ _⟩
    · have d1 : decide (g < 0) = false := by simpa using h1
      go_enter Try.func96, Try.ntmps96
      go_wp2
      go_ret
      exact ⟨rfl, Below.refl _ _⟩

end Go.Proofs.Ytcfmipobgljbeaa
