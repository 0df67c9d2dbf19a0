/- The walk of the law DualMuls. -/
import Derived.Test.YtjgompeeigfdhaaSplitW
import Derived.Test.YtjgompeeigfdhaaDoesL
namespace Go.Proofs.Ytjgompeeigfdhaa
set_option linter.unusedVariables false
set_option linter.unusedSimpArgs false
open Go.RowKit

def mlH (a b c d : Int) : Int := s32 (2 * s16 a * s16 c)
def mlM (x y : Int) : Int := s16 (s16 x * s16 y / 32768)
def mlA (s m : Int) : Int := s32 (s32 s + s32 (s32 (2 * s16 m * s16 1)))
def mlV (a b c d : Int) : Int := if gdB a b && gdB c d then mlA (mlA (mlH a b c d) (mlM a d)) (mlM b c) else 0
def mlE (a b c d : Int) : Int := if gdB a b && gdB c d then 0 else 2
def Muls (w : World) (a b c d : Int) (e : Ending) (w' : World) : Prop := e = .returned (.tuple #[.int .i64 (mlV a b c d), .int .i64 (mlE a b c d)]) ∧ Below w.heap.size w w'

theorem ml_no {a b c d : Int} (h : (gdB a b && gdB c d) = false) : mlV a b c d = 0 ∧ mlE a b c d = 2 := by
  unfold mlV mlE; rw [if_neg (by simp [h]), if_neg (by simp [h])]; exact ⟨rfl, rfl⟩
theorem ml_yes {a b c d : Int} (h : (gdB a b && gdB c d) = true) : mlV a b c d = mlA (mlA (mlH a b c d) (mlM a d)) (mlM b c) ∧ mlE a b c d = 0 := by
  unfold mlV mlE; rw [if_pos h, if_pos h]; exact ⟨rfl, rfl⟩

/-- Two boxes, one behind the other. -/
theorem box2_cells {w w1 : World} {x y z t : Value} {T U : TypeId} (hB : Below ((w.alloc (.cells #[x, y] T)).alloc (.cells #[z, t] U)).heap.size ((w.alloc (.cells #[x, y] T)).alloc (.cells #[z, t] U)) w1) :
    w1.cell? ⟨w.heap.size, 0, none⟩ = some x ∧ w1.cell? ⟨w.heap.size, 1, none⟩ = some y ∧
    w1.cell? ⟨w.heap.size + 1, 0, none⟩ = some z ∧ w1.cell? ⟨w.heap.size + 1, 1, none⟩ = some t ∧ Below w.heap.size w w1 ∧ w.heap.size + 1 < w1.heap.size := by
  obtain ⟨c0, c1, hb⟩ := box_below hB
  have hs : (w.alloc (.cells #[x, y] T)).heap.size = w.heap.size + 1 := by show (w.heap.push _).size = _; simp
  rw [hs] at c0 c1 hb
  have hlt : w.heap.size < w.heap.size + 1 := by omega
  have k0 : w1.cell? ⟨w.heap.size, 0, none⟩ = some x := (hb.cell (p := ⟨w.heap.size, 0, none⟩) hlt).trans (World.cell?_alloc_at (w := w) #[x, y] T _ 0 rfl)
  have k1 : w1.cell? ⟨w.heap.size, 1, none⟩ = some y := (hb.cell (p := ⟨w.heap.size, 1, none⟩) hlt).trans (World.cell?_alloc_at (w := w) #[x, y] T _ 1 rfl)
  have hsz := hB.size
  refine ⟨k0, k1, c0, c1, ((Below.refl _ w).alloc (Nat.le_refl _) _).trans (hb.mono (by omega)), ?_⟩
  simp at hsz
  omega

set_option maxHeartbeats 4000000 in
theorem DualMul_no (a b c d : Int) (w : World) (h : (gdB a b && gdB c d) = false) (a1 : -9223372036854775808 ≤ a) (a2 : a ≤ 9223372036854775807) (c1 : -9223372036854775808 ≤ c) (c2 : c ≤ 9223372036854775807) :
    Calls Try.prog 36 #[.agg #[.int .i64 a, .int .i64 b], .agg #[.int .i64 c, .int .i64 d]] w (Muls w a b c d) := by
  have FIN := hid (fun (w1 : World) (hB : Below w.heap.size w w1) => show Muls w a b c d (.returned (.tuple #[.int .i64 0, .int .i64 2])) w1 from ⟨by rw [(ml_no h).1, (ml_no h).2], hB⟩)
  by_cases g1 : gdB a b = true
  · have g2 : gdB c d = false := by rw [g1] at h; simpa using h
    clear h
    go_enter Try.func36, Try.ntmps36
    go_wp2_with fail
    refine (goodDual_any a b _ a1 a2).mono ?_
    rintro e w1 ⟨rfl, hB⟩
    obtain ⟨k0, k1, k2, k3, hb, hs⟩ := box2_cells hB
    rw [g1]
    have B1 := hid hb
    clear hB hb
    go_wp2_with fail
    refine (goodDual_any c d _ c1 c2).mono ?_
    rintro e w2 ⟨rfl, hB⟩
    rw [g2]
    have B2 := hid (B1.out.trans (hB.mono B1.out.size))
    clear hB B1
    go_wp2
    go_ret2
    exact FIN.out _ B2.out
  · have g2 : gdB a b = false := by simpa using g1
    clear h g1
    go_enter Try.func36, Try.ntmps36
    go_wp2_with fail
    refine (goodDual_any a b _ a1 a2).mono ?_
    rintro e w1 ⟨rfl, hB⟩
    obtain ⟨k0, k1, k2, k3, hb, hs⟩ := box2_cells hB
    rw [g2]
    have B1 := hid hb
    clear hB hb
    go_wp2
    go_ret2
    exact FIN.out _ B1.out

set_option maxHeartbeats 4000000 in
theorem Mul_no (a b c d : Int) (w : World) (h : (gdB a b && gdB c d) = false) :
    Calls Try.prog 35 #[.agg #[.int .i64 a, .int .i64 b], .agg #[.int .i64 c, .int .i64 d]] w (Muls w a b c d) := by
  have FIN := hid (fun (w1 : World) (hB : Below w.heap.size w w1) => show Muls w a b c d (.returned (.tuple #[.int .i64 0, .int .i64 2])) w1 from ⟨by rw [(ml_no h).1, (ml_no h).2], hB⟩)
  by_cases g1 : gdB a b = true
  · have g2 : gdB c d = false := by rw [g1] at h; simpa using h
    clear h
    go_enter Try.func35, Try.ntmps35
    go_wp2_with fail
    refine (good_any a b _).mono ?_
    rintro e w1 ⟨rfl, hB⟩
    obtain ⟨k0, k1, k2, k3, hb, hs⟩ := box2_cells hB
    rw [g1]
    have B1 := hid hb
    clear hB hb
    go_wp2_with fail
    refine (good_any c d _).mono ?_
    rintro e w2 ⟨rfl, hB⟩
    rw [g2]
    have B2 := hid (B1.out.trans (hB.mono B1.out.size))
    clear hB B1
    go_wp2
    go_ret2
    exact FIN.out _ B2.out
  · have g2 : gdB a b = false := by simpa using g1
    clear h g1
    go_enter Try.func35, Try.ntmps35
    go_wp2_with fail
    refine (good_any a b _).mono ?_
    rintro e w1 ⟨rfl, hB⟩
    obtain ⟨k0, k1, k2, k3, hb, hs⟩ := box2_cells hB
    rw [g2]
    have B1 := hid hb
    clear hB hb
    go_wp2
    go_ret2
    exact FIN.out _ B1.out

/-- The two boxes' cells. -/
def Bx (w : World) (n : Nat) (a b c d : Int) : Prop :=
  w.cell? ⟨n, 0, none⟩ = some (.int .i64 a) ∧ w.cell? ⟨n, 1, none⟩ = some (.int .i64 b) ∧ w.cell? ⟨n + 1, 0, none⟩ = some (.int .i64 c) ∧ w.cell? ⟨n + 1, 1, none⟩ = some (.int .i64 d) ∧ n + 1 < w.heap.size
theorem Bx.below {w w' : World} {n : Nat} {a b c d : Int} (h : Bx w n a b c d) (hB : Below w.heap.size w w') : Bx w' n a b c d := by
  obtain ⟨k0, k1, k2, k3, hs⟩ := h
  have hn : n < w.heap.size := by omega
  exact ⟨(hB.cell (p := ⟨n, 0, none⟩) hn).trans k0, (hB.cell (p := ⟨n, 1, none⟩) hn).trans k1, (hB.cell (p := ⟨n + 1, 0, none⟩) hs).trans k2, (hB.cell (p := ⟨n + 1, 1, none⟩) hs).trans k3, Nat.lt_of_lt_of_le hs hB.size⟩

theorem mlH_range (a b c d : Int) : -2147483648 ≤ mlH a b c d ∧ mlH a b c d ≤ 2147483647 := s32_range _
theorem mlM_range (x y : Int) : -32768 ≤ mlM x y ∧ mlM x y ≤ 32767 := s16_range _
theorem mlA_range (s m : Int) : -2147483648 ≤ mlA s m ∧ mlA s m ≤ 2147483647 := s32_range _

theorem doesH (a b c d : Int) (w : World) (A1 : -9223372036854775808 ≤ a) (A2 : a ≤ 9223372036854775807) (E1 : -9223372036854775808 ≤ c) (E2 : c ≤ 9223372036854775807) :
    Calls Try.prog 19 #[.int .i64 7, .int .i64 a, .int .i64 c, .int .i64 0] w (Dos w (mlH a b c d) (d32 (2 * s16 a * s16 c))) := refDoes7 a c 0 w A1 A2 E1 E2
theorem doesM (x y : Int) (w : World) (A1 : -9223372036854775808 ≤ x) (A2 : x ≤ 9223372036854775807) (E1 : -9223372036854775808 ≤ y) (E2 : y ≤ 9223372036854775807) :
    Calls Try.prog 19 #[.int .i64 6, .int .i64 x, .int .i64 y, .int .i64 0] w (Dos w (mlM x y) (d16 (s16 x * s16 y / 32768))) := refDoes6 x y 0 w A1 A2 E1 E2
theorem doesA (s m : Int) (w : World) (A1 : -9223372036854775808 ≤ s) (A2 : s ≤ 9223372036854775807) (E1 : -9223372036854775808 ≤ m) (E2 : m ≤ 9223372036854775807) :
    Calls Try.prog 19 #[.int .i64 8, .int .i64 s, .int .i64 m, .int .i64 1] w (Dos w (mlA s m) (d32 (2 * s16 m * s16 1) || d32 (s32 s + s32 (s32 (2 * s16 m * s16 1))))) := refDoes8 s m 1 w A1 A2 E1 E2 (by decide) (by decide)
theorem gd_range {a b : Int} (h : gdB a b = true) : -32768 ≤ a ∧ a ≤ 32767 ∧ 0 ≤ b ∧ b ≤ 32767 := by unfold gdB at h; simpa using h

set_option maxHeartbeats 8000000 in
theorem DualMul_yes (a b c d : Int) (w : World) (h : (gdB a b && gdB c d) = true) :
    Calls Try.prog 36 #[.agg #[.int .i64 a, .int .i64 b], .agg #[.int .i64 c, .int .i64 d]] w (Muls w a b c d) := by
  have FIN := hid (fun (w1 : World) (hB : Below w.heap.size w w1) => show Muls w a b c d (.returned (.tuple #[.int .i64 (mlA (mlA (mlH a b c d) (mlM a d)) (mlM b c)), .int .i64 0])) w1 from ⟨by rw [(ml_yes h).1, (ml_yes h).2], hB⟩)
  have g1 : gdB a b = true := by simp at h; exact h.1
  have g2 : gdB c d = true := by simp at h; exact h.2
  obtain ⟨a1, a2, b1, b2⟩ := gd_range g1
  obtain ⟨c1, c2, d1, d2⟩ := gd_range g2
  have r1 := mlH_range a b c d
  have r2 := mlM_range a d
  have r3 := mlA_range (mlH a b c d) (mlM a d)
  have r4 := mlM_range b c
  clear h
  go_enter Try.func36, Try.ntmps36
  go_wp2_with fail
  refine (goodDual_any a b _ (by omega) (by omega)).mono ?_
  rintro e w1 ⟨rfl, hB⟩
  obtain ⟨k0, k1, k2, k3, hb, hs⟩ := box2_cells hB
  rw [g1]
  have B1 := hid hb
  have X1 := hid (show Bx w1 w.heap.size a b c d from ⟨k0, k1, k2, k3, hs⟩)
  clear hB hb hs
  go_wp2_with fail
  refine (goodDual_any c d _ (by omega) (by omega)).mono ?_
  rintro e w2 ⟨rfl, hB⟩
  rw [g2]
  have B2 := hid (B1.out.trans (hB.mono B1.out.size))
  have X2 := hid (X1.out.below hB)
  clear hB B1 X1 k0 k1 k2 k3 g1 g2
  obtain ⟨k0, k1, k2, k3, hs⟩ := X2.out
  go_wp2_with fail
  refine (doesH a b c d _ (by omega) (by omega) (by omega) (by omega)).mono ?_
  rintro e w3 ⟨rfl, hB⟩
  have B3 := hid (B2.out.trans (hB.mono B2.out.size))
  have X3 := hid (X2.out.below hB)
  clear hB B2 X2 k0 k1 k2 k3 hs
  obtain ⟨k0, k1, k2, k3, hs⟩ := X3.out
  go_wp2_with fail
  refine (doesM a d _ (by omega) (by omega) (by omega) (by omega)).mono ?_
  rintro e w4 ⟨rfl, hB⟩
  have B4 := hid (B3.out.trans (hB.mono B3.out.size))
  have X4 := hid (X3.out.below hB)
  clear hB B3 X3 k0 k1 k2 k3 hs
  obtain ⟨k0, k1, k2, k3, hs⟩ := X4.out
  go_wp2_with fail
  refine (doesA (mlH a b c d) (mlM a d) _ (by omega) (by omega) (by omega) (by omega)).mono ?_
  rintro e w5 ⟨rfl, hB⟩
  have B5 := hid (B4.out.trans (hB.mono B4.out.size))
  have X5 := hid (X4.out.below hB)
  clear hB B4 X4 k0 k1 k2 k3 hs
  obtain ⟨k0, k1, k2, k3, hs⟩ := X5.out
  go_wp2_with fail
  refine (doesM b c _ (by omega) (by omega) (by omega) (by omega)).mono ?_
  rintro e w6 ⟨rfl, hB⟩
  have B6 := hid (B5.out.trans (hB.mono B5.out.size))
  clear hB B5 X5 k0 k1 k2 k3 hs
  go_wp2_with fail
  refine (doesA (mlA (mlH a b c d) (mlM a d)) (mlM b c) _ (by omega) (by omega) (by omega) (by omega)).mono ?_
  rintro e w7 ⟨rfl, hB⟩
  have B7 := hid (B6.out.trans (hB.mono B6.out.size))
  clear hB B6
  go_wp2
  go_ret2
  exact FIN.out _ B7.out

theorem multM (x y : Int) (w : World) : Calls Try.prog 47 #[.int .i64 x, .int .i64 y] w (Pair w (mlM x y) (d16 (s16 x * s16 y / 32768))) := Mult_b x y w
theorem lmultH (a b c d : Int) (w : World) : Calls Try.prog 48 #[.int .i64 a, .int .i64 c] w (Pair w (mlH a b c d) (d32 (2 * s16 a * s16 c))) := LMult_b a c w
theorem lmacA (s m : Int) (w : World) : Calls Try.prog 49 #[.int .i64 s, .int .i64 m, .int .i64 1] w (Pair w (mlA s m) (d32 (2 * s16 m * s16 1) || d32 (s32 s + s32 (s32 (2 * s16 m * s16 1))))) := LMac_b s m 1 w

/-- What stands in acc ahead of round k. -/
def Acc (a b c d : Int) (k : Nat) (s : Int) : Prop :=
  s = if k = 0 then mlH a b c d else if k = 1 then mlA (mlH a b c d) (mlM a d) else mlA (mlA (mlH a b c d) (mlM a d)) (mlM b c)

set_option maxHeartbeats 8000000 in
theorem Mul_yes (a b c d : Int) (w : World) (h : (gdB a b && gdB c d) = true) :
    Calls Try.prog 35 #[.agg #[.int .i64 a, .int .i64 b], .agg #[.int .i64 c, .int .i64 d]] w (Muls w a b c d) := by
  have FIN := hid (fun (w1 : World) (hB : Below w.heap.size w w1) => show Muls w a b c d (.returned (.tuple #[.int .i64 (mlA (mlA (mlH a b c d) (mlM a d)) (mlM b c)), .int .i64 0])) w1 from ⟨by rw [(ml_yes h).1, (ml_yes h).2], hB⟩)
  have g1 : gdB a b = true := by simp at h; exact h.1
  have g2 : gdB c d = true := by simp at h; exact h.2
  clear h
  have x0 : ∀ (x y z t : Int) (w : World), (Instr.index 66 (.agg #[.int .i64 x, .int .i64 y, .int .i64 z, .int .i64 t]) (.int .i64 0)).run Try.prog w = .ok (.agg #[.int .i64 x, .int .i64 y]) w := fun _ _ _ _ _ => by kernel_rfl
  have x1 : ∀ (x y z t : Int) (w : World), (Instr.index 66 (.agg #[.int .i64 x, .int .i64 y, .int .i64 z, .int .i64 t]) (.int .i64 1)).run Try.prog w = .ok (.agg #[.int .i64 z, .int .i64 t]) w := fun _ _ _ _ _ => by kernel_rfl
  go_enter Try.func35, Try.ntmps35
  go_wp2_with fail
  refine (good_any a b _).mono ?_
  rintro e w1 ⟨rfl, hB⟩
  obtain ⟨k0, k1, k2, k3, hb, hs⟩ := box2_cells hB
  rw [g1]
  have B1 := hid hb
  have X1 := hid (show Bx w1 w.heap.size a b c d from ⟨k0, k1, k2, k3, hs⟩)
  clear hB hb hs
  go_wp2_with fail
  refine (good_any c d _).mono ?_
  rintro e w2 ⟨rfl, hB⟩
  rw [g2]
  have B2 := hid (B1.out.trans (hB.mono B1.out.size))
  have X2 := hid (X1.out.below hB)
  clear hB B1 X1 k0 k1 k2 k3 g1 g2
  obtain ⟨k0, k1, k2, k3, hs⟩ := X2.out
  clear hs
  go_wp2_with fail
  refine (lmultH a b c d _).mono ?_
  rintro e w3 ⟨rfl, rfl⟩
  go_wp2
  go_loopw [6, 39] (fun av iv wr => ∃ (k : Nat) (s : Int), k ≤ 2 ∧ iv = .int .i64 k ∧ av = .int .i64 s ∧ Hid (Acc a b c d k s) ∧ Hid (Below w.heap.size w wr)) (fun _ iv _ => (2 - intOf iv).toNat)
  case atStart => exact ⟨0, mlH a b c d, by omega, rfl, rfl, hid (by unfold Acc; simp), B2⟩
  case round =>
    clear X2 k0 k1 k2 k3 B2
    obtain ⟨k, s, hk, rfl, rfl, HS, HB⟩ := hrel
    have hfresh := fun v => hid ((HB.out.alloc HB.out.size v))
    by_cases h0 : k = 0
    · subst h0
      go_wp2_with fail
      refine (multM a d _).mono ?_
      rintro e w4 ⟨rfl, rfl⟩
      go_wp2_with fail
      refine (lmacA s (mlM a d) _).mono ?_
      rintro e w5 ⟨rfl, rfl⟩
      go_wp2
      go_roundw
      case rel => exact ⟨1, mlA s (mlM a d), by omega, rfl, rfl, hid (by have := HS.out; unfold Acc at *; simp at *; rw [this]), (hfresh _)⟩
      case measure => simp [intOf] <;> omega
    · by_cases h1 : k = 1
      · subst h1
        clear h0
        go_wp2_with fail
        refine (multM b c _).mono ?_
        rintro e w4 ⟨rfl, rfl⟩
        go_wp2_with fail
        refine (lmacA s (mlM b c) _).mono ?_
        rintro e w5 ⟨rfl, rfl⟩
        go_wp2
        go_roundw
        case rel => exact ⟨2, mlA s (mlM b c), by omega, rfl, rfl, hid (by have := HS.out; unfold Acc at *; simp at *; rw [this]), (hfresh _)⟩
        case measure => simp [intOf] <;> omega
      · obtain rfl : k = 2 := by omega
        have hs : s = mlA (mlA (mlH a b c d) (mlM a d)) (mlM b c) := by have := HS.out; unfold Acc at this; simpa using this
        have HS2 := hid (FIN.out wr HB.out)
        rw [← hs] at HS2
        clear hs h0 h1 hfresh
        go_wp2
        go_ret2
        exact HS2.out

theorem Mul_any2 (a b c d : Int) (w : World) : Calls Try.prog 35 #[.agg #[.int .i64 a, .int .i64 b], .agg #[.int .i64 c, .int .i64 d]] w (Muls w a b c d) := by
  by_cases h : (gdB a b && gdB c d) = true
  · exact Mul_yes a b c d w h
  · exact Mul_no a b c d w (by simpa using h)
theorem DualMul_any (a b c d : Int) (w : World) (a1 : -9223372036854775808 ≤ a) (a2 : a ≤ 9223372036854775807) (c1 : -9223372036854775808 ≤ c) (c2 : c ≤ 9223372036854775807) :
    Calls Try.prog 36 #[.agg #[.int .i64 a, .int .i64 b], .agg #[.int .i64 c, .int .i64 d]] w (Muls w a b c d) := by
  by_cases h : (gdB a b && gdB c d) = true
  · exact DualMul_yes a b c d w h
  · exact DualMul_no a b c d w (by simpa using h) a1 a2 c1 c2

set_option maxHeartbeats 4000000 in
theorem walkDualMuls (a0 b0 a1 b1 : Int) (w0 : (Lit.int .i64 a0).wf = true) (u0 : (Lit.int .i64 b0).wf = true) (w1 : (Lit.int .i64 a1).wf = true) (u1 : (Lit.int .i64 b1).wf = true) (w : World) :
    Calls Try.prog 12 #[.agg #[.int .i64 a0, .int .i64 b0], .agg #[.int .i64 a1, .int .i64 b1]] w fun e w' => e = .returned (.bool true) ∧ Below w.heap.size w w' := by
  have h0 := i64_range w0
  have h1 := i64_range w1
  have sp : mlV 16384 0 2 0 = 65536 := by decide
  clear w0 u0 w1 u1
  go_enter Try.func12, Try.ntmps12
  go_wp2_with fail
  refine (Mul_any2 a0 b0 a1 b1 _).mono ?_
  rintro e w1 ⟨rfl, hB⟩
  obtain ⟨k0, k1, k2, k3, hb, hs⟩ := box2_cells hB
  have B1 := hid hb
  have X1 := hid (show Bx w1 w.heap.size a0 b0 a1 b1 from ⟨k0, k1, k2, k3, hs⟩)
  clear hB hb hs
  go_wp2_with fail
  refine (DualMul_any a0 b0 a1 b1 _ h0.1 h0.2 h1.1 h1.2).mono ?_
  rintro e w2 ⟨rfl, hB⟩
  have B2 := hid (B1.out.trans (hB.mono B1.out.size))
  clear hB B1 X1 k0 k1 k2 k3
  go_wp2_with fail
  refine (Mul_any2 16384 0 2 0 _).mono ?_
  rintro e w3 ⟨rfl, hB⟩
  have B3 := hid (B2.out.trans (hB.mono B2.out.size))
  clear hB B2
  go_wp2_with fail
  go_ret
  exact ⟨rfl, B3.out⟩
end Go.Proofs.Ytjgompeeigfdhaa
