/- The walk of the law DualSplits. -/
import Derived.Test.YtjgompeeigfdhaaBigDivMod
import Derived.Test.YtjgompeeigfdhaaDual
namespace Go.Proofs.Ytjgompeeigfdhaa
set_option linter.unusedVariables false
set_option linter.unusedSimpArgs false
open Go.RowKit

theorem and15 (x : Int) : bits BinOp.and IntKind.i64 x 32767 = x % 32768 := by
  have h : (BitVec.ofInt 64 x &&& BitVec.ofInt 64 32767).toNat = (x % 32768).toNat := by
    rw [BitVec.toNat_and, BitVec.toNat_ofInt, show (BitVec.ofInt 64 32767).toNat = 2 ^ 15 - 1 from by decide, Nat.and_two_pow_sub_one_eq_mod]
    omega
  show IntKind.i64.wrap ((BitVec.ofInt 64 x &&& BitVec.ofInt 64 32767).toNat : Int) = _
  rw [h]
  simp only [IntKind.wrap, IntKind.signed, IntKind.bits]
  simp
  omega

def spHi (a : Int) : Int := s32 a / 65536
def spLo (a : Int) : Int := s32 a / 2 % 32768

def Splits (w : World) (a : Int) (e : Ending) (w' : World) : Prop := e = .returned (.agg #[.int .i64 (spHi a), .int .i64 (spLo a)]) ∧ Below w.heap.size w w'

set_option maxHeartbeats 1000000 in
theorem Split_any (a : Int) (w : World) : Calls Try.prog 31 #[.int .i64 a] w (Splits w a) := by
  have r := s32_range a
  go_enter Try.func31, Try.ntmps31
  go_wp2_with (go_at_call 16; refine (sat32_any _ _).mono ?_; rintro e w' ⟨rfl, rfl⟩)
  rw [and15]
  refine bodyPost_ret (v := .agg #[.int .i64 (spHi a), .int .i64 (spLo a)]) ?_ rfl ⟨rfl, (Below.refl _ _).alloc (Nat.le_refl _) _⟩
  unfold spHi spLo
  simp [results, Try.results31, go_sem]

set_option maxHeartbeats 2000000 in
theorem refSplit_any (a : Int) (w : World) (h1 : -9223372036854775808 ≤ a) (h2 : a ≤ 9223372036854775807) : Calls Try.prog 32 #[.int .i64 a] w (Splits w a) := by
  have r := s32_range a
  have hd : 0 ≤ s32 a - 65536 * (s32 a / 65536) ∧ s32 a - 65536 * (s32 a / 65536) < 65536 := by omega
  have hq : -32768 ≤ s32 a / 65536 ∧ s32 a / 65536 ≤ 32767 := by omega
  go_enter Try.func32, Try.ntmps32
  go_wp2_with fail
  refine (L_any a _ h1 h2).mono ?_
  rintro e w1 ⟨rfl, hB⟩
  have B1 := hid (((Below.refl _ w).alloc (Nat.le_refl _) _).trans (hB.mono (by simp)))
  obtain ⟨c0, c1, _⟩ := box_below hB
  have hs1 := hB.size
  have h0 : w.heap.size < w1.heap.size := by simp at hs1; omega
  have hh1 : w1.heap[w.heap.size]? = some (.cells #[.int .i64 0, .int .i64 0] 36) := by
    rw [hB.block w.heap.size (by show w.heap.size < (w.heap.push _).size; simp)]
    show (w.heap.push _)[w.heap.size]? = _
    simp
  clear hB hs1 c0 c1
  go_wp2_with fail
  refine (whole_any _ (s32 a) (by omega) (by omega)).mono ?_
  rintro e w2 ⟨bx, rfl, hbx, hI, hB⟩
  have X2 := hid hI
  have R2 := hid ((IntBlk.new w1 (.bool false) (.slice none 0 0)).below hB (Nat.le_refl _))
  have B2 := hid (((Below.refl w1.heap.size w1).alloc (Nat.le_refl _) (.cells #[.bool false, .slice none 0 0] 51)).trans (hB.mono (by simp)))
  clear hI hB
  go_wp2_with fail
  refine (NewInt_any _ 65536 (by omega) (by omega)).mono ?_
  rintro e w3 ⟨b3, rfl, hb3, hI, hB⟩
  have I3 := hid hI
  have X3 := hid (X2.out.below hB (Nat.le_refl _))
  have R3 := hid (R2.out.below hB (Nat.le_refl _))
  have B3 := hid (B2.out.trans (hB.mono B2.out.size))
  clear hI hB B2 X2 R2
  go_wp2_with fail
  refine (Div_any _ w1.heap.size bx b3 (s32 a) 65536 R3.out X3.out I3.out (by omega) (by omega) (by omega)).mono ?_
  rintro e w4 ⟨rfl, hI, hG⟩
  have Z4 := hid hI
  have B4 := hid (below_of_grownBy B3.out hG (Nat.le_refl _))
  clear hI hG B3 R3 X3
  go_wp2_with fail
  refine (Int64_any _ w1.heap.size (s32 a / 65536) Z4.out (by omega) (by omega)).mono ?_
  rintro e w5 ⟨rfl, rfl⟩
  have hh : w4.heap[w.heap.size]? = some (.cells #[.int .i64 0, .int .i64 0] 36) := by rw [B4.out.block _ h0]; exact hh1
  have hc0 : w4.cell? ⟨w.heap.size, 0, none⟩ = some (.int .i64 0) := by simp [World.cell?, hh]
  have hc1 : w4.cell? ⟨w.heap.size, 1, none⟩ = some (.int .i64 0) := by simp [World.cell?, hh]
  have hf0 : w4.frozen? ⟨w.heap.size, 0, none⟩ = false := by simp [World.frozen?, hh]
  have hf1 : w4.frozen? ⟨w.heap.size, 1, none⟩ = false := by simp [World.frozen?, hh]
  have hlo : (s32 a - 65536 * (s32 a / 65536)) / 2 = spLo a := by unfold spLo; omega
  have FIN := hid (show Below w.heap.size w ((w4.setCell ⟨w.heap.size, 0, none⟩ (.int .i64 (s32 a / 65536))).setCell ⟨w.heap.size, 1, none⟩ (.int .i64 (spLo a))) from
    ((B1.out.trans (B4.out.mono (Nat.le_of_lt h0))).setCell (Nat.le_refl _) _).setCell (Nat.le_refl _) _)
  clear hh hh1
  go_wp2_with fail
  rw [hlo]
  have g0 : ((w4.setCell ⟨w.heap.size, 0, none⟩ (.int .i64 (s32 a / 65536))).setCell ⟨w.heap.size, 1, none⟩ (.int .i64 (spLo a))).cell? ⟨w.heap.size, 0, none⟩ = some (.int .i64 (s32 a / 65536)) := by
    rw [World.cell?_setCell_other _ _ _ _ (by simp)]
    exact World.cell?_setCell_same _ _ _ hc0
  have g1 : ((w4.setCell ⟨w.heap.size, 0, none⟩ (.int .i64 (s32 a / 65536))).setCell ⟨w.heap.size, 1, none⟩ (.int .i64 (spLo a))).cell? ⟨w.heap.size, 1, none⟩ = some (.int .i64 (spLo a)) := by
    refine World.cell?_setCell_same (u := .int .i64 0) _ _ _ ?_
    rw [World.cell?_setCell_other _ _ _ _ (by simp)]
    exact hc1
  refine bodyPost_ret (v := .agg #[.int .i64 (s32 a / 65536), .int .i64 (spLo a)]) ?_ rfl ⟨rfl, FIN.out⟩
  simp [results, Try.results32, go_sem, g0, g1]

set_option maxHeartbeats 2000000 in
theorem dualSplitsAt (a hi lo : Int) (w : World) (h1 : -9223372036854775808 ≤ a) (h2 : a ≤ 9223372036854775807) (h3 : -9223372036854775808 ≤ hi) (h4 : hi ≤ 9223372036854775807) :
    Calls Try.prog 10 #[.int .i64 a, .agg #[.int .i64 hi, .int .i64 lo]] w fun e w' => e = .returned (.bool true) ∧ Below w.heap.size w w' := by
  have sp : spHi 65536 = 1 := by decide
  have hfd : ∀ (x y : Int) (w : World), (Instr.field 36 (.agg #[.int .i64 x, .int .i64 y]) 0).run Try.prog w = .ok (.int .i64 x) w := fun _ _ _ => by kernel_rfl
  go_enter Try.func10, Try.ntmps10
  go_wp2_with fail
  refine (Join_any hi lo _).mono ?_
  rintro e w1 ⟨rfl, hB⟩
  obtain ⟨c0, c1, hb⟩ := box_below hB
  have B1 := hid hb
  clear hB hb
  go_wp2_with fail
  refine (refJoin_any hi lo _ h3 h4).mono ?_
  rintro e w2 ⟨rfl, hB⟩
  have B2 := hid (B1.out.trans (hB.mono B1.out.size))
  clear hB B1
  go_wp2_with fail
  refine (Split_any a _).mono ?_
  rintro e w3 ⟨rfl, hB⟩
  have B3 := hid (B2.out.trans (hB.mono B2.out.size))
  clear hB B2
  go_wp2_with fail
  refine (refSplit_any a _ h1 h2).mono ?_
  rintro e w4 ⟨rfl, hB⟩
  have B4 := hid (B3.out.trans (hB.mono B3.out.size))
  clear hB B3
  go_wp2_with fail
  refine (Split_any 65536 _).mono ?_
  rintro e w5 ⟨rfl, hB⟩
  have B5 := hid (B4.out.trans (hB.mono B4.out.size))
  clear hB B4
  go_wp2_with fail
  go_ret
  exact ⟨rfl, B5.out⟩

theorem i64_range {a : Int} (h : (Lit.int .i64 a).wf = true) : -9223372036854775808 ≤ a ∧ a ≤ 9223372036854775807 := by
  simp only [Lit.wf, Bool.and_eq_true, decide_eq_true_eq] at h
  exact h

theorem walkDualSplits (a0 a1 b1 : Int) (w0 : (Lit.int .i64 a0).wf = true) (w1 : (Lit.int .i64 a1).wf = true) (u1 : (Lit.int .i64 b1).wf = true) (w : World) :
    Calls Try.prog 10 #[.int .i64 a0, .agg #[.int .i64 a1, .int .i64 b1]] w fun e w' => e = .returned (.bool true) ∧ Below w.heap.size w w' := by
  have h0 := i64_range w0
  have h1 := i64_range w1
  exact dualSplitsAt a0 a1 b1 w h0.1 h0.2 h1.1 h1.2
end Go.Proofs.Ytjgompeeigfdhaa
