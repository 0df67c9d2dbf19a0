/- The walks of Split, Join and what they stand on. -/
import Derived.Test.YtjgompeeigfdhaaRefClip
import Derived.Test.YtjgompeeigfdhaaNumB
import Derived.Deep.RegionHeld3
namespace Go.Proofs.Ytjgompeeigfdhaa
set_option linter.unusedVariables false
set_option linter.unusedSimpArgs false
open Go.RowKit

/-- Are parts such as Split makes? -/
def gdB (hi lo : Int) : Bool := decide (-32768 ≤ hi ∧ hi ≤ 32767 ∧ 0 ≤ lo ∧ lo ≤ 32767)

def GivesB (w : World) (b : Bool) (e : Ending) (w' : World) : Prop := e = .returned (.bool b) ∧ Below w.heap.size w w'

theorem gd_yes {hi lo : Int} (h1 : -32768 ≤ hi) (h2 : hi ≤ 32767) (h3 : 0 ≤ lo) (h4 : lo ≤ 32767) : gdB hi lo = true := by unfold gdB; simp; omega
theorem gd_no {hi lo : Int} (h : hi < -32768 ∨ 32767 < hi ∨ lo < 0 ∨ 32767 < lo) : gdB hi lo = false := by unfold gdB; simp; omega

set_option maxHeartbeats 1000000 in
theorem good_any (hi lo : Int) (w : World) : Calls Try.prog 74 #[.agg #[.int .i64 hi, .int .i64 lo]] w (GivesB w (gdB hi lo)) := by
  by_cases h1 : hi < -32768
  · rw [gd_no (.inl h1)]
    have d1 : decide (-32768 ≤ hi) = false := by simp; omega
    go_enter Try.func74, Try.ntmps74
    go_wp2
    go_ret
    exact ⟨rfl, (Below.refl _ _).alloc (Nat.le_refl _) _⟩
  have d1 : decide (-32768 ≤ hi) = true := by simp; omega
  by_cases h2 : 32767 < hi
  · rw [gd_no (.inr (.inl h2))]
    have d2 : decide (hi ≤ 32767) = false := by simp; omega
    go_enter Try.func74, Try.ntmps74
    go_wp2
    go_ret
    exact ⟨rfl, (Below.refl _ _).alloc (Nat.le_refl _) _⟩
  have d2 : decide (hi ≤ 32767) = true := by simp; omega
  by_cases h3 : lo < 0
  · rw [gd_no (.inr (.inr (.inl h3)))]
    have d3 : decide (0 ≤ lo) = false := by simp; omega
    go_enter Try.func74, Try.ntmps74
    go_wp2
    go_ret
    exact ⟨rfl, (Below.refl _ _).alloc (Nat.le_refl _) _⟩
  have d3 : decide (0 ≤ lo) = true := by simp; omega
  by_cases h4 : 32767 < lo
  · rw [gd_no (.inr (.inr (.inr h4)))]
    have d4 : decide (lo ≤ 32767) = false := by simp; omega
    go_enter Try.func74, Try.ntmps74
    go_wp2
    go_ret
    exact ⟨rfl, (Below.refl _ _).alloc (Nat.le_refl _) _⟩
  have d4 : decide (lo ≤ 32767) = true := by simp; omega
  rw [gd_yes (by omega) (by omega) (by omega) (by omega)]
  go_enter Try.func74, Try.ntmps74
  go_wp2
  go_ret
  exact ⟨rfl, (Below.refl _ _).alloc (Nat.le_refl _) _⟩

theorem box_cells {w w1 : World} {x y : Value} {T : TypeId} (hB : Below (w.alloc (.cells #[x, y] T)).drew.heap.size (w.alloc (.cells #[x, y] T)).drew w1) :
    w1.cell? ⟨w.heap.size, 0, none⟩ = some x ∧ w1.cell? ⟨w.heap.size, 1, none⟩ = some y ∧ Below w.heap.size w w1 := by
  have hlt : w.heap.size < (w.alloc (.cells #[x, y] T)).drew.heap.size := by
    show w.heap.size < (w.heap.push _).size
    simp
  refine ⟨(hB.cell (p := ⟨w.heap.size, 0, none⟩) hlt).trans ?_, (hB.cell (p := ⟨w.heap.size, 1, none⟩) hlt).trans ?_, (((Below.refl _ w).alloc (Nat.le_refl _) _).drew).trans (hB.mono (Nat.le_of_lt hlt))⟩
  · exact World.cell?_alloc_at (w := w) #[x, y] T _ 0 rfl
  · exact World.cell?_alloc_at (w := w) #[x, y] T _ 1 rfl

set_option maxHeartbeats 2000000 in
theorem goodDual_any (hi lo : Int) (w : World) (b1 : -9223372036854775808 ≤ hi) (b2 : hi ≤ 9223372036854775807) : Calls Try.prog 75 #[.agg #[.int .i64 hi, .int .i64 lo]] w (GivesB w (gdB hi lo)) := by
  have K := hid (fun w1 => S_any hi w1 b1 b2)
  by_cases h1 : hi < -32768 ∨ 32767 < hi
  · have e : (hi == s16 hi) = false := by
      rw [beq_eq_false_iff_ne]; have := s16_range hi; omega
    rw [gd_no (by omega)]
    go_enter Try.func75, Try.ntmps75
    go_wp2_with fail
    first | (go_region_with ((go_at_call 56; refine (K.out _).mono ?_; rintro e w1 ⟨rfl, hB⟩; obtain ⟨c0, c1, hb⟩ := box_cells hB; have q1 := hid hb; clear hB hb))) | fail
    all_goals
      go_wp2
      go_ret
      exact ⟨rfl, q1.out⟩
  · have e : (hi == s16 hi) = true := by
      rw [beq_iff_eq]; unfold s16 lim; rw [if_neg (by omega), if_neg (by omega)]
    by_cases h3 : lo < 0
    · rw [gd_no (.inr (.inr (.inl h3)))]
      have d3 : decide (0 ≤ lo) = false := by simp; omega
      clear h1
      go_enter Try.func75, Try.ntmps75
      go_wp2_with fail
      first | (go_region_with ((go_at_call 56; refine (K.out _).mono ?_; rintro e w1 ⟨rfl, hB⟩; obtain ⟨c0, c1, hb⟩ := box_cells hB; have q1 := hid hb; clear hB hb))) | fail
      all_goals
        go_wp2
        go_ret
        exact ⟨rfl, q1.out⟩
    have d3 : decide (0 ≤ lo) = true := by simp; omega
    by_cases h4 : 32767 < lo
    · rw [gd_no (.inr (.inr (.inr h4)))]
      have d4 : decide (lo ≤ 32767) = false := by simp; omega
      clear h1
      go_enter Try.func75, Try.ntmps75
      go_wp2_with fail
      first | (go_region_with ((go_at_call 56; refine (K.out _).mono ?_; rintro e w1 ⟨rfl, hB⟩; obtain ⟨c0, c1, hb⟩ := box_cells hB; have q1 := hid hb; clear hB hb))) | fail
      all_goals
        go_wp2
        go_ret
        exact ⟨rfl, q1.out⟩
    have d4 : decide (lo ≤ 32767) = true := by simp; omega
    rw [gd_yes (by omega) (by omega) (by omega) (by omega)]
    clear h1
    go_enter Try.func75, Try.ntmps75
    go_wp2_with fail
    first | (go_region_with ((go_at_call 56; refine (K.out _).mono ?_; rintro e w1 ⟨rfl, hB⟩; obtain ⟨c0, c1, hb⟩ := box_cells hB; have q1 := hid hb; clear hB hb))) | fail
    all_goals
      go_wp2
      go_ret
      exact ⟨rfl, q1.out⟩

def jnV (hi lo : Int) : Int := if gdB hi lo then 65536 * hi + 2 * lo else 0
def jnE (hi lo : Int) : Int := if gdB hi lo then 0 else 2
def Joins (w : World) (hi lo : Int) (e : Ending) (w' : World) : Prop := e = .returned (.tuple #[.int .i64 (jnV hi lo), .int .i64 (jnE hi lo)]) ∧ Below w.heap.size w w'

theorem box_below {w w1 : World} {x y : Value} {T : TypeId} (hB : Below (w.alloc (.cells #[x, y] T)).heap.size (w.alloc (.cells #[x, y] T)) w1) :
    w1.cell? ⟨w.heap.size, 0, none⟩ = some x ∧ w1.cell? ⟨w.heap.size, 1, none⟩ = some y ∧ Below w.heap.size w w1 :=
  box_cells (T := T) (w := w) ⟨hB.os, hB.tape, hB.output, hB.size, hB.block⟩

set_option maxHeartbeats 1000000 in
theorem Join_any (hi lo : Int) (w : World) : Calls Try.prog 29 #[.agg #[.int .i64 hi, .int .i64 lo]] w (Joins w hi lo) := by
  have K := hid (fun w1 => good_any hi lo w1)
  by_cases hg : gdB hi lo = true
  · have hr : -32768 ≤ hi ∧ hi ≤ 32767 ∧ 0 ≤ lo ∧ lo ≤ 32767 := by unfold gdB at hg; simpa using hg
    have FIN := hid (fun (w1 : World) (hB : Below w.heap.size w w1) => show Joins w hi lo (.returned (.tuple #[.int .i64 (hi * 65536 + lo * 2), .int .i64 0])) w1 from ⟨by unfold jnV jnE; rw [if_pos hg, if_pos hg, show 65536 * hi + 2 * lo = hi * 65536 + lo * 2 from by omega], hB⟩)
    obtain ⟨b1, b2, b3, b4⟩ := hr
    rw [hg] at K
    clear hg
    go_enter Try.func29, Try.ntmps29
    go_wp2_with (go_at_call 74; refine (K.out _).mono ?_; rintro e w1 ⟨rfl, hB⟩; obtain ⟨c0, c1, hb⟩ := box_below hB; have q1 := hid hb; clear hB hb)
    go_ret2
    exact FIN.out _ q1.out
  · have hg' : gdB hi lo = false := by simpa using hg
    have FIN := hid (fun (w1 : World) (hB : Below w.heap.size w w1) => show Joins w hi lo (.returned (.tuple #[.int .i64 0, .int .i64 2])) w1 from ⟨by unfold jnV jnE; rw [if_neg hg, if_neg hg], hB⟩)
    rw [hg'] at K
    clear hg hg'
    go_enter Try.func29, Try.ntmps29
    go_wp2_with (go_at_call 74; refine (K.out _).mono ?_; rintro e w1 ⟨rfl, hB⟩; obtain ⟨c0, c1, hb⟩ := box_below hB; have q1 := hid hb; clear hB hb)
    go_ret2
    exact FIN.out _ q1.out

set_option maxHeartbeats 1000000 in
theorem refJoin_any (hi lo : Int) (w : World) (b1 : -9223372036854775808 ≤ hi) (b2 : hi ≤ 9223372036854775807) : Calls Try.prog 30 #[.agg #[.int .i64 hi, .int .i64 lo]] w (Joins w hi lo) := by
  have K := hid (fun w1 => goodDual_any hi lo w1 b1 b2)
  by_cases hg : gdB hi lo = true
  · have hr : -32768 ≤ hi ∧ hi ≤ 32767 ∧ 0 ≤ lo ∧ lo ≤ 32767 := by unfold gdB at hg; simpa using hg
    have FIN := hid (fun (w1 : World) (hB : Below w.heap.size w w1) => show Joins w hi lo (.returned (.tuple #[.int .i64 (65536 * hi + 2 * lo), .int .i64 0])) w1 from ⟨by unfold jnV jnE; rw [if_pos hg, if_pos hg], hB⟩)
    obtain ⟨b1, b2, b3, b4⟩ := hr
    rw [hg] at K
    clear hg
    go_enter Try.func30, Try.ntmps30
    go_wp2_with (go_at_call 75; refine (K.out _).mono ?_; rintro e w1 ⟨rfl, hB⟩; obtain ⟨c0, c1, hb⟩ := box_below hB; have q1 := hid hb; clear hB hb)
    go_ret2
    exact FIN.out _ q1.out
  · have hg' : gdB hi lo = false := by simpa using hg
    have FIN := hid (fun (w1 : World) (hB : Below w.heap.size w w1) => show Joins w hi lo (.returned (.tuple #[.int .i64 0, .int .i64 2])) w1 from ⟨by unfold jnV jnE; rw [if_neg hg, if_neg hg], hB⟩)
    rw [hg'] at K
    clear hg hg'
    go_enter Try.func30, Try.ntmps30
    go_wp2_with (go_at_call 75; refine (K.out _).mono ?_; rintro e w1 ⟨rfl, hB⟩; obtain ⟨c0, c1, hb⟩ := box_below hB; have q1 := hid hb; clear hB hb)
    go_ret2
    exact FIN.out _ q1.out
end Go.Proofs.Ytjgompeeigfdhaa
