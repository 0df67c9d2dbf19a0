/- The walks of the reference's Does. -/
import Derived.Test.YtjgompeeigfdhaaMovedW
import Derived.Test.YtjgompeeigfdhaaBigMulO
namespace Go.Proofs.Ytjgompeeigfdhaa
set_option linter.unusedVariables false
set_option linter.unusedSimpArgs false
open Go.RowKit

/-- What an operation answers. -/
def Dos (w : World) (n : Int) (d : Bool) (e : Ending) (w' : World) : Prop := e = .returned (.tuple #[.int .i64 n, .bool d]) ∧ Below w.heap.size w w'

set_option maxRecDepth 100000 in
set_option maxHeartbeats 8000000 in
theorem refDoes0 (a b c : Int) (w : World) (A1 : -9223372036854775808 ≤ a) (A2 : a ≤ 9223372036854775807) (E1 : -9223372036854775808 ≤ b) (E2 : b ≤ 9223372036854775807) :
    Calls Try.prog 19 #[.int .i64 0, .int .i64 a, .int .i64 b, .int .i64 c] w (Dos w (s16 (s16 a + s16 b)) (d16 (s16 a + s16 b))) := by
  have ra := s16_range a
  have rb := s16_range b
  have la := s32_range a
  have lb := s32_range b
  go_enter Try.func19, Try.ntmps19
  go_wp2_with fail
  refine (S_any a w A1 A2).mono ?_
  rintro e w1 ⟨rfl, hB1⟩
  have B1 := hid hB1
  clear hB1
  go_wp2_with fail
  refine (whole_any _ (s16 a) (by omega) (by omega)).mono ?_
  rintro e w2 ⟨bx, rfl, hbx, hI, hB⟩
  have X2 := hid hI
  have B2 := hid (B1.out.trans (hB.mono B1.out.size))
  clear hI hB B1
  go_wp2_with fail
  refine (S_any b w2 E1 E2).mono ?_
  rintro e w3 ⟨rfl, hB⟩
  have X3 := hid (X2.out.below hB (Nat.le_refl _))
  have B3 := hid (B2.out.trans (hB.mono B2.out.size))
  clear hB B2 X2
  go_wp2_with fail
  refine (whole_any _ (s16 b) (by omega) (by omega)).mono ?_
  rintro e w4 ⟨by_, rfl, hby, hI, hB⟩
  have Y4 := hid hI
  have X4 := hid (X3.out.below hB (Nat.le_refl _))
  have B4 := hid (B3.out.trans (hB.mono B3.out.size))
  clear hI hB B3 X3
  go_wp2_with fail
  refine (L_any a w4 A1 A2).mono ?_
  rintro e w5 ⟨rfl, hB⟩
  have X5 := hid (X4.out.below hB (Nat.le_refl _))
  have Y5 := hid (Y4.out.below hB (Nat.le_refl _))
  have B5 := hid (B4.out.trans (hB.mono B4.out.size))
  clear hB B4 X4 Y4
  go_wp2_with fail
  refine (whole_any _ (s32 a) (by omega) (by omega)).mono ?_
  rintro e w6 ⟨bp, rfl, hbp, hI, hB⟩
  have P6 := hid hI
  have X6 := hid (X5.out.below hB (Nat.le_refl _))
  have Y6 := hid (Y5.out.below hB (Nat.le_refl _))
  have B6 := hid (B5.out.trans (hB.mono B5.out.size))
  clear hI hB B5 X5 Y5
  go_wp2_with fail
  refine (L_any b w6 E1 E2).mono ?_
  rintro e w7 ⟨rfl, hB⟩
  have X7 := hid (X6.out.below hB (Nat.le_refl _))
  have Y7 := hid (Y6.out.below hB (Nat.le_refl _))
  have P7 := hid (P6.out.below hB (Nat.le_refl _))
  have B7 := hid (B6.out.trans (hB.mono B6.out.size))
  clear hB B6 X6 Y6 P6
  go_wp2_with fail
  refine (whole_any _ (s32 b) (by omega) (by omega)).mono ?_
  rintro e w8 ⟨bq, rfl, hbq, hI, hB⟩
  have lq := hI.lt
  have lx := (X7.out.below hB (Nat.le_refl _)).lt
  have ly := (Y7.out.below hB (Nat.le_refl _)).lt
  have lp := (P7.out.below hB (Nat.le_refl _)).lt
  have Q9 := hid (hI.below ((Below.refl w8.heap.size w8).alloc (Nat.le_refl _) (.cells #[.bool false, .slice none 0 0] 51)) (Nat.le_refl _))
  have X9 := hid ((X7.out.below hB (Nat.le_refl _)).below ((Below.refl w8.heap.size w8).alloc (Nat.le_refl _) (.cells #[.bool false, .slice none 0 0] 51)) (Nat.le_refl _))
  have Y9 := hid ((Y7.out.below hB (Nat.le_refl _)).below ((Below.refl w8.heap.size w8).alloc (Nat.le_refl _) (.cells #[.bool false, .slice none 0 0] 51)) (Nat.le_refl _))
  have P9 := hid ((P7.out.below hB (Nat.le_refl _)).below ((Below.refl w8.heap.size w8).alloc (Nat.le_refl _) (.cells #[.bool false, .slice none 0 0] 51)) (Nat.le_refl _))
  have hB8 := B7.out.trans (hB.mono B7.out.size)
  have h8 := hB8.size
  have B9 := hid (hB8.alloc h8 (.cells #[.bool false, .slice none 0 0] 51))
  have R9 := hid (IntBlk.new w8 (.bool false) (.slice none 0 0))
  clear hI hB B7 X7 Y7 P7 hB8 hbx hby hbp hbq
  go_wp2_with fail
  refine (Add_far _ w8.heap.size bx by_ (s16 a) (s16 b) R9.out X9.out Y9.out (sm_of_lt (by omega)) (sm_of_lt (by omega)) (by omega) (by omega)).mono ?_
  rintro e w9 ⟨rfl, hI, hG⟩
  have Z := hid hI
  have G := hid (below_of_grownBy B9.out hG h8)
  clear hI hG
  go_wp2_with fail
  refine (clip_any _ w8.heap.size (s16 a + s16 b) 15 Z.out (sm_of_lt (by omega)) (by omega) (-32768) 32767 (by decide) (by decide)).mono ?_
  rintro e w10 ⟨rfl, hB⟩
  have B10 := hid hB
  clear hB
  go_wp2
  go_ret2
  exact ⟨rfl, G.out.trans (B10.out.mono G.out.size)⟩

set_option maxRecDepth 100000 in
set_option maxHeartbeats 8000000 in
theorem refDoes1 (a b c : Int) (w : World) (A1 : -9223372036854775808 ≤ a) (A2 : a ≤ 9223372036854775807) (E1 : -9223372036854775808 ≤ b) (E2 : b ≤ 9223372036854775807) :
    Calls Try.prog 19 #[.int .i64 1, .int .i64 a, .int .i64 b, .int .i64 c] w (Dos w (s16 (s16 a - s16 b)) (d16 (s16 a - s16 b))) := by
  have ra := s16_range a
  have rb := s16_range b
  have la := s32_range a
  have lb := s32_range b
  go_enter Try.func19, Try.ntmps19
  go_wp2_with fail
  refine (S_any a w A1 A2).mono ?_
  rintro e w1 ⟨rfl, hB1⟩
  have B1 := hid hB1
  clear hB1
  go_wp2_with fail
  refine (whole_any _ (s16 a) (by omega) (by omega)).mono ?_
  rintro e w2 ⟨bx, rfl, hbx, hI, hB⟩
  have X2 := hid hI
  have B2 := hid (B1.out.trans (hB.mono B1.out.size))
  clear hI hB B1
  go_wp2_with fail
  refine (S_any b w2 E1 E2).mono ?_
  rintro e w3 ⟨rfl, hB⟩
  have X3 := hid (X2.out.below hB (Nat.le_refl _))
  have B3 := hid (B2.out.trans (hB.mono B2.out.size))
  clear hB B2 X2
  go_wp2_with fail
  refine (whole_any _ (s16 b) (by omega) (by omega)).mono ?_
  rintro e w4 ⟨by_, rfl, hby, hI, hB⟩
  have Y4 := hid hI
  have X4 := hid (X3.out.below hB (Nat.le_refl _))
  have B4 := hid (B3.out.trans (hB.mono B3.out.size))
  clear hI hB B3 X3
  go_wp2_with fail
  refine (L_any a w4 A1 A2).mono ?_
  rintro e w5 ⟨rfl, hB⟩
  have X5 := hid (X4.out.below hB (Nat.le_refl _))
  have Y5 := hid (Y4.out.below hB (Nat.le_refl _))
  have B5 := hid (B4.out.trans (hB.mono B4.out.size))
  clear hB B4 X4 Y4
  go_wp2_with fail
  refine (whole_any _ (s32 a) (by omega) (by omega)).mono ?_
  rintro e w6 ⟨bp, rfl, hbp, hI, hB⟩
  have P6 := hid hI
  have X6 := hid (X5.out.below hB (Nat.le_refl _))
  have Y6 := hid (Y5.out.below hB (Nat.le_refl _))
  have B6 := hid (B5.out.trans (hB.mono B5.out.size))
  clear hI hB B5 X5 Y5
  go_wp2_with fail
  refine (L_any b w6 E1 E2).mono ?_
  rintro e w7 ⟨rfl, hB⟩
  have X7 := hid (X6.out.below hB (Nat.le_refl _))
  have Y7 := hid (Y6.out.below hB (Nat.le_refl _))
  have P7 := hid (P6.out.below hB (Nat.le_refl _))
  have B7 := hid (B6.out.trans (hB.mono B6.out.size))
  clear hB B6 X6 Y6 P6
  go_wp2_with fail
  refine (whole_any _ (s32 b) (by omega) (by omega)).mono ?_
  rintro e w8 ⟨bq, rfl, hbq, hI, hB⟩
  have lq := hI.lt
  have lx := (X7.out.below hB (Nat.le_refl _)).lt
  have ly := (Y7.out.below hB (Nat.le_refl _)).lt
  have lp := (P7.out.below hB (Nat.le_refl _)).lt
  have Q9 := hid (hI.below ((Below.refl w8.heap.size w8).alloc (Nat.le_refl _) (.cells #[.bool false, .slice none 0 0] 51)) (Nat.le_refl _))
  have X9 := hid ((X7.out.below hB (Nat.le_refl _)).below ((Below.refl w8.heap.size w8).alloc (Nat.le_refl _) (.cells #[.bool false, .slice none 0 0] 51)) (Nat.le_refl _))
  have Y9 := hid ((Y7.out.below hB (Nat.le_refl _)).below ((Below.refl w8.heap.size w8).alloc (Nat.le_refl _) (.cells #[.bool false, .slice none 0 0] 51)) (Nat.le_refl _))
  have P9 := hid ((P7.out.below hB (Nat.le_refl _)).below ((Below.refl w8.heap.size w8).alloc (Nat.le_refl _) (.cells #[.bool false, .slice none 0 0] 51)) (Nat.le_refl _))
  have hB8 := B7.out.trans (hB.mono B7.out.size)
  have h8 := hB8.size
  have B9 := hid (hB8.alloc h8 (.cells #[.bool false, .slice none 0 0] 51))
  have R9 := hid (IntBlk.new w8 (.bool false) (.slice none 0 0))
  clear hI hB B7 X7 Y7 P7 hB8 hbx hby hbp hbq
  go_wp2_with fail
  refine (Sub_far _ w8.heap.size bx by_ (s16 a) (s16 b) R9.out X9.out Y9.out (sm_of_lt (by omega)) (sm_of_lt (by omega)) (by omega) (by omega)).mono ?_
  rintro e w9 ⟨rfl, hI, hG⟩
  have Z := hid hI
  have G := hid (below_of_grownBy B9.out hG h8)
  clear hI hG
  go_wp2_with fail
  refine (clip_any _ w8.heap.size (s16 a - s16 b) 15 Z.out (sm_of_lt (by omega)) (by omega) (-32768) 32767 (by decide) (by decide)).mono ?_
  rintro e w10 ⟨rfl, hB⟩
  have B10 := hid hB
  clear hB
  go_wp2
  go_ret2
  exact ⟨rfl, G.out.trans (B10.out.mono G.out.size)⟩

set_option maxRecDepth 100000 in
set_option maxHeartbeats 8000000 in
theorem refDoes2 (a b c : Int) (w : World) (A1 : -9223372036854775808 ≤ a) (A2 : a ≤ 9223372036854775807) (E1 : -9223372036854775808 ≤ b) (E2 : b ≤ 9223372036854775807) :
    Calls Try.prog 19 #[.int .i64 2, .int .i64 a, .int .i64 b, .int .i64 c] w (Dos w (s32 (s32 a + s32 b)) (d32 (s32 a + s32 b))) := by
  have ra := s16_range a
  have rb := s16_range b
  have la := s32_range a
  have lb := s32_range b
  go_enter Try.func19, Try.ntmps19
  go_wp2_with fail
  refine (S_any a w A1 A2).mono ?_
  rintro e w1 ⟨rfl, hB1⟩
  have B1 := hid hB1
  clear hB1
  go_wp2_with fail
  refine (whole_any _ (s16 a) (by omega) (by omega)).mono ?_
  rintro e w2 ⟨bx, rfl, hbx, hI, hB⟩
  have X2 := hid hI
  have B2 := hid (B1.out.trans (hB.mono B1.out.size))
  clear hI hB B1
  go_wp2_with fail
  refine (S_any b w2 E1 E2).mono ?_
  rintro e w3 ⟨rfl, hB⟩
  have X3 := hid (X2.out.below hB (Nat.le_refl _))
  have B3 := hid (B2.out.trans (hB.mono B2.out.size))
  clear hB B2 X2
  go_wp2_with fail
  refine (whole_any _ (s16 b) (by omega) (by omega)).mono ?_
  rintro e w4 ⟨by_, rfl, hby, hI, hB⟩
  have Y4 := hid hI
  have X4 := hid (X3.out.below hB (Nat.le_refl _))
  have B4 := hid (B3.out.trans (hB.mono B3.out.size))
  clear hI hB B3 X3
  go_wp2_with fail
  refine (L_any a w4 A1 A2).mono ?_
  rintro e w5 ⟨rfl, hB⟩
  have X5 := hid (X4.out.below hB (Nat.le_refl _))
  have Y5 := hid (Y4.out.below hB (Nat.le_refl _))
  have B5 := hid (B4.out.trans (hB.mono B4.out.size))
  clear hB B4 X4 Y4
  go_wp2_with fail
  refine (whole_any _ (s32 a) (by omega) (by omega)).mono ?_
  rintro e w6 ⟨bp, rfl, hbp, hI, hB⟩
  have P6 := hid hI
  have X6 := hid (X5.out.below hB (Nat.le_refl _))
  have Y6 := hid (Y5.out.below hB (Nat.le_refl _))
  have B6 := hid (B5.out.trans (hB.mono B5.out.size))
  clear hI hB B5 X5 Y5
  go_wp2_with fail
  refine (L_any b w6 E1 E2).mono ?_
  rintro e w7 ⟨rfl, hB⟩
  have X7 := hid (X6.out.below hB (Nat.le_refl _))
  have Y7 := hid (Y6.out.below hB (Nat.le_refl _))
  have P7 := hid (P6.out.below hB (Nat.le_refl _))
  have B7 := hid (B6.out.trans (hB.mono B6.out.size))
  clear hB B6 X6 Y6 P6
  go_wp2_with fail
  refine (whole_any _ (s32 b) (by omega) (by omega)).mono ?_
  rintro e w8 ⟨bq, rfl, hbq, hI, hB⟩
  have lq := hI.lt
  have lx := (X7.out.below hB (Nat.le_refl _)).lt
  have ly := (Y7.out.below hB (Nat.le_refl _)).lt
  have lp := (P7.out.below hB (Nat.le_refl _)).lt
  have Q9 := hid (hI.below ((Below.refl w8.heap.size w8).alloc (Nat.le_refl _) (.cells #[.bool false, .slice none 0 0] 51)) (Nat.le_refl _))
  have X9 := hid ((X7.out.below hB (Nat.le_refl _)).below ((Below.refl w8.heap.size w8).alloc (Nat.le_refl _) (.cells #[.bool false, .slice none 0 0] 51)) (Nat.le_refl _))
  have Y9 := hid ((Y7.out.below hB (Nat.le_refl _)).below ((Below.refl w8.heap.size w8).alloc (Nat.le_refl _) (.cells #[.bool false, .slice none 0 0] 51)) (Nat.le_refl _))
  have P9 := hid ((P7.out.below hB (Nat.le_refl _)).below ((Below.refl w8.heap.size w8).alloc (Nat.le_refl _) (.cells #[.bool false, .slice none 0 0] 51)) (Nat.le_refl _))
  have hB8 := B7.out.trans (hB.mono B7.out.size)
  have h8 := hB8.size
  have B9 := hid (hB8.alloc h8 (.cells #[.bool false, .slice none 0 0] 51))
  have R9 := hid (IntBlk.new w8 (.bool false) (.slice none 0 0))
  clear hI hB B7 X7 Y7 P7 hB8 hbx hby hbp hbq
  go_wp2_with fail
  refine (Add_far _ w8.heap.size bp bq (s32 a) (s32 b) R9.out P9.out Q9.out (sm_of_lt (by omega)) (sm_of_lt (by omega)) (by omega) (by omega)).mono ?_
  rintro e w9 ⟨rfl, hI, hG⟩
  have Z := hid hI
  have G := hid (below_of_grownBy B9.out hG h8)
  clear hI hG
  go_wp2_with fail
  refine (clip_any _ w8.heap.size (s32 a + s32 b) 31 Z.out (sm_of_lt (by omega)) (by omega) (-2147483648) 2147483647 (by decide) (by decide)).mono ?_
  rintro e w10 ⟨rfl, hB⟩
  have B10 := hid hB
  clear hB
  go_wp2
  go_ret2
  exact ⟨rfl, G.out.trans (B10.out.mono G.out.size)⟩

set_option maxRecDepth 100000 in
set_option maxHeartbeats 8000000 in
theorem refDoes3 (a b c : Int) (w : World) (A1 : -9223372036854775808 ≤ a) (A2 : a ≤ 9223372036854775807) (E1 : -9223372036854775808 ≤ b) (E2 : b ≤ 9223372036854775807) :
    Calls Try.prog 19 #[.int .i64 3, .int .i64 a, .int .i64 b, .int .i64 c] w (Dos w (s32 (s32 a - s32 b)) (d32 (s32 a - s32 b))) := by
  have ra := s16_range a
  have rb := s16_range b
  have la := s32_range a
  have lb := s32_range b
  go_enter Try.func19, Try.ntmps19
  go_wp2_with fail
  refine (S_any a w A1 A2).mono ?_
  rintro e w1 ⟨rfl, hB1⟩
  have B1 := hid hB1
  clear hB1
  go_wp2_with fail
  refine (whole_any _ (s16 a) (by omega) (by omega)).mono ?_
  rintro e w2 ⟨bx, rfl, hbx, hI, hB⟩
  have X2 := hid hI
  have B2 := hid (B1.out.trans (hB.mono B1.out.size))
  clear hI hB B1
  go_wp2_with fail
  refine (S_any b w2 E1 E2).mono ?_
  rintro e w3 ⟨rfl, hB⟩
  have X3 := hid (X2.out.below hB (Nat.le_refl _))
  have B3 := hid (B2.out.trans (hB.mono B2.out.size))
  clear hB B2 X2
  go_wp2_with fail
  refine (whole_any _ (s16 b) (by omega) (by omega)).mono ?_
  rintro e w4 ⟨by_, rfl, hby, hI, hB⟩
  have Y4 := hid hI
  have X4 := hid (X3.out.below hB (Nat.le_refl _))
  have B4 := hid (B3.out.trans (hB.mono B3.out.size))
  clear hI hB B3 X3
  go_wp2_with fail
  refine (L_any a w4 A1 A2).mono ?_
  rintro e w5 ⟨rfl, hB⟩
  have X5 := hid (X4.out.below hB (Nat.le_refl _))
  have Y5 := hid (Y4.out.below hB (Nat.le_refl _))
  have B5 := hid (B4.out.trans (hB.mono B4.out.size))
  clear hB B4 X4 Y4
  go_wp2_with fail
  refine (whole_any _ (s32 a) (by omega) (by omega)).mono ?_
  rintro e w6 ⟨bp, rfl, hbp, hI, hB⟩
  have P6 := hid hI
  have X6 := hid (X5.out.below hB (Nat.le_refl _))
  have Y6 := hid (Y5.out.below hB (Nat.le_refl _))
  have B6 := hid (B5.out.trans (hB.mono B5.out.size))
  clear hI hB B5 X5 Y5
  go_wp2_with fail
  refine (L_any b w6 E1 E2).mono ?_
  rintro e w7 ⟨rfl, hB⟩
  have X7 := hid (X6.out.below hB (Nat.le_refl _))
  have Y7 := hid (Y6.out.below hB (Nat.le_refl _))
  have P7 := hid (P6.out.below hB (Nat.le_refl _))
  have B7 := hid (B6.out.trans (hB.mono B6.out.size))
  clear hB B6 X6 Y6 P6
  go_wp2_with fail
  refine (whole_any _ (s32 b) (by omega) (by omega)).mono ?_
  rintro e w8 ⟨bq, rfl, hbq, hI, hB⟩
  have lq := hI.lt
  have lx := (X7.out.below hB (Nat.le_refl _)).lt
  have ly := (Y7.out.below hB (Nat.le_refl _)).lt
  have lp := (P7.out.below hB (Nat.le_refl _)).lt
  have Q9 := hid (hI.below ((Below.refl w8.heap.size w8).alloc (Nat.le_refl _) (.cells #[.bool false, .slice none 0 0] 51)) (Nat.le_refl _))
  have X9 := hid ((X7.out.below hB (Nat.le_refl _)).below ((Below.refl w8.heap.size w8).alloc (Nat.le_refl _) (.cells #[.bool false, .slice none 0 0] 51)) (Nat.le_refl _))
  have Y9 := hid ((Y7.out.below hB (Nat.le_refl _)).below ((Below.refl w8.heap.size w8).alloc (Nat.le_refl _) (.cells #[.bool false, .slice none 0 0] 51)) (Nat.le_refl _))
  have P9 := hid ((P7.out.below hB (Nat.le_refl _)).below ((Below.refl w8.heap.size w8).alloc (Nat.le_refl _) (.cells #[.bool false, .slice none 0 0] 51)) (Nat.le_refl _))
  have hB8 := B7.out.trans (hB.mono B7.out.size)
  have h8 := hB8.size
  have B9 := hid (hB8.alloc h8 (.cells #[.bool false, .slice none 0 0] 51))
  have R9 := hid (IntBlk.new w8 (.bool false) (.slice none 0 0))
  clear hI hB B7 X7 Y7 P7 hB8 hbx hby hbp hbq
  go_wp2_with fail
  refine (Sub_far _ w8.heap.size bp bq (s32 a) (s32 b) R9.out P9.out Q9.out (sm_of_lt (by omega)) (sm_of_lt (by omega)) (by omega) (by omega)).mono ?_
  rintro e w9 ⟨rfl, hI, hG⟩
  have Z := hid hI
  have G := hid (below_of_grownBy B9.out hG h8)
  clear hI hG
  go_wp2_with fail
  refine (clip_any _ w8.heap.size (s32 a - s32 b) 31 Z.out (sm_of_lt (by omega)) (by omega) (-2147483648) 2147483647 (by decide) (by decide)).mono ?_
  rintro e w10 ⟨rfl, hB⟩
  have B10 := hid hB
  clear hB
  go_wp2
  go_ret2
  exact ⟨rfl, G.out.trans (B10.out.mono G.out.size)⟩

set_option maxRecDepth 100000 in
set_option maxHeartbeats 8000000 in
theorem refDoes4 (a b c : Int) (w : World) (A1 : -9223372036854775808 ≤ a) (A2 : a ≤ 9223372036854775807) (E1 : -9223372036854775808 ≤ b) (E2 : b ≤ 9223372036854775807) :
    Calls Try.prog 19 #[.int .i64 4, .int .i64 a, .int .i64 b, .int .i64 c] w (Dos w (s16 (-s16 a)) (d16 (-s16 a))) := by
  have ra := s16_range a
  have rb := s16_range b
  have la := s32_range a
  have lb := s32_range b
  go_enter Try.func19, Try.ntmps19
  go_wp2_with fail
  refine (S_any a w A1 A2).mono ?_
  rintro e w1 ⟨rfl, hB1⟩
  have B1 := hid hB1
  clear hB1
  go_wp2_with fail
  refine (whole_any _ (s16 a) (by omega) (by omega)).mono ?_
  rintro e w2 ⟨bx, rfl, hbx, hI, hB⟩
  have X2 := hid hI
  have B2 := hid (B1.out.trans (hB.mono B1.out.size))
  clear hI hB B1
  go_wp2_with fail
  refine (S_any b w2 E1 E2).mono ?_
  rintro e w3 ⟨rfl, hB⟩
  have X3 := hid (X2.out.below hB (Nat.le_refl _))
  have B3 := hid (B2.out.trans (hB.mono B2.out.size))
  clear hB B2 X2
  go_wp2_with fail
  refine (whole_any _ (s16 b) (by omega) (by omega)).mono ?_
  rintro e w4 ⟨by_, rfl, hby, hI, hB⟩
  have Y4 := hid hI
  have X4 := hid (X3.out.below hB (Nat.le_refl _))
  have B4 := hid (B3.out.trans (hB.mono B3.out.size))
  clear hI hB B3 X3
  go_wp2_with fail
  refine (L_any a w4 A1 A2).mono ?_
  rintro e w5 ⟨rfl, hB⟩
  have X5 := hid (X4.out.below hB (Nat.le_refl _))
  have Y5 := hid (Y4.out.below hB (Nat.le_refl _))
  have B5 := hid (B4.out.trans (hB.mono B4.out.size))
  clear hB B4 X4 Y4
  go_wp2_with fail
  refine (whole_any _ (s32 a) (by omega) (by omega)).mono ?_
  rintro e w6 ⟨bp, rfl, hbp, hI, hB⟩
  have P6 := hid hI
  have X6 := hid (X5.out.below hB (Nat.le_refl _))
  have Y6 := hid (Y5.out.below hB (Nat.le_refl _))
  have B6 := hid (B5.out.trans (hB.mono B5.out.size))
  clear hI hB B5 X5 Y5
  go_wp2_with fail
  refine (L_any b w6 E1 E2).mono ?_
  rintro e w7 ⟨rfl, hB⟩
  have X7 := hid (X6.out.below hB (Nat.le_refl _))
  have Y7 := hid (Y6.out.below hB (Nat.le_refl _))
  have P7 := hid (P6.out.below hB (Nat.le_refl _))
  have B7 := hid (B6.out.trans (hB.mono B6.out.size))
  clear hB B6 X6 Y6 P6
  go_wp2_with fail
  refine (whole_any _ (s32 b) (by omega) (by omega)).mono ?_
  rintro e w8 ⟨bq, rfl, hbq, hI, hB⟩
  have lq := hI.lt
  have lx := (X7.out.below hB (Nat.le_refl _)).lt
  have ly := (Y7.out.below hB (Nat.le_refl _)).lt
  have lp := (P7.out.below hB (Nat.le_refl _)).lt
  have Q9 := hid (hI.below ((Below.refl w8.heap.size w8).alloc (Nat.le_refl _) (.cells #[.bool false, .slice none 0 0] 51)) (Nat.le_refl _))
  have X9 := hid ((X7.out.below hB (Nat.le_refl _)).below ((Below.refl w8.heap.size w8).alloc (Nat.le_refl _) (.cells #[.bool false, .slice none 0 0] 51)) (Nat.le_refl _))
  have Y9 := hid ((Y7.out.below hB (Nat.le_refl _)).below ((Below.refl w8.heap.size w8).alloc (Nat.le_refl _) (.cells #[.bool false, .slice none 0 0] 51)) (Nat.le_refl _))
  have P9 := hid ((P7.out.below hB (Nat.le_refl _)).below ((Below.refl w8.heap.size w8).alloc (Nat.le_refl _) (.cells #[.bool false, .slice none 0 0] 51)) (Nat.le_refl _))
  have hB8 := B7.out.trans (hB.mono B7.out.size)
  have h8 := hB8.size
  have B9 := hid (hB8.alloc h8 (.cells #[.bool false, .slice none 0 0] 51))
  have R9 := hid (IntBlk.new w8 (.bool false) (.slice none 0 0))
  clear hI hB B7 X7 Y7 P7 hB8 hbx hby hbp hbq
  go_wp2_with fail
  refine (Neg_any _ w8.heap.size bx (s16 a) R9.out X9.out (sm_of_lt (by omega))).mono ?_
  rintro e w9 ⟨rfl, hI, hG⟩
  have Z := hid hI
  have G := hid (below_of_grownBy B9.out hG h8)
  clear hI hG
  go_wp2_with fail
  refine (clip_any _ w8.heap.size (-s16 a) 15 Z.out (sm_of_lt (by omega)) (by omega) (-32768) 32767 (by decide) (by decide)).mono ?_
  rintro e w10 ⟨rfl, hB⟩
  have B10 := hid hB
  clear hB
  go_wp2
  go_ret2
  exact ⟨rfl, G.out.trans (B10.out.mono G.out.size)⟩

theorem abs_eq (a : Int) : lim (-32768) 32767 ((s16 a).natAbs : Nat) = absN a ∧ limd (-32768) 32767 ((s16 a).natAbs : Nat) = absD a := by
  have hr := s16_range a
  unfold absN absD
  by_cases h : a < 0
  · have h2 : s16 a < 0 := by
      have : s16 a = lim (-32768) 32767 a := rfl
      rw [this]; unfold lim; split; omega; split <;> omega
    have e : (((s16 a).natAbs : Nat) : Int) = -s16 a := by omega
    rw [if_pos h, if_pos h, e]; exact ⟨rfl, rfl⟩
  · have h2 : 0 ≤ s16 a := by
      have : s16 a = lim (-32768) 32767 a := rfl
      rw [this]; unfold lim; split; omega; split <;> omega
    have e : (((s16 a).natAbs : Nat) : Int) = s16 a := by omega
    rw [if_neg h, if_neg h, e]
    unfold lim limd
    rw [if_neg (by omega), if_neg (by omega), if_neg (by omega), if_neg (by omega)]
    exact ⟨rfl, rfl⟩

set_option maxRecDepth 100000 in
set_option maxHeartbeats 8000000 in
theorem refDoes5 (a b c : Int) (w : World) (A1 : -9223372036854775808 ≤ a) (A2 : a ≤ 9223372036854775807) (E1 : -9223372036854775808 ≤ b) (E2 : b ≤ 9223372036854775807) :
    Calls Try.prog 19 #[.int .i64 5, .int .i64 a, .int .i64 b, .int .i64 c] w (Dos w (absN a) (absD a)) := by
  have ra := s16_range a
  have rb := s16_range b
  have la := s32_range a
  have lb := s32_range b
  go_enter Try.func19, Try.ntmps19
  go_wp2_with fail
  refine (S_any a w A1 A2).mono ?_
  rintro e w1 ⟨rfl, hB1⟩
  have B1 := hid hB1
  clear hB1
  go_wp2_with fail
  refine (whole_any _ (s16 a) (by omega) (by omega)).mono ?_
  rintro e w2 ⟨bx, rfl, hbx, hI, hB⟩
  have X2 := hid hI
  have B2 := hid (B1.out.trans (hB.mono B1.out.size))
  clear hI hB B1
  go_wp2_with fail
  refine (S_any b w2 E1 E2).mono ?_
  rintro e w3 ⟨rfl, hB⟩
  have X3 := hid (X2.out.below hB (Nat.le_refl _))
  have B3 := hid (B2.out.trans (hB.mono B2.out.size))
  clear hB B2 X2
  go_wp2_with fail
  refine (whole_any _ (s16 b) (by omega) (by omega)).mono ?_
  rintro e w4 ⟨by_, rfl, hby, hI, hB⟩
  have Y4 := hid hI
  have X4 := hid (X3.out.below hB (Nat.le_refl _))
  have B4 := hid (B3.out.trans (hB.mono B3.out.size))
  clear hI hB B3 X3
  go_wp2_with fail
  refine (L_any a w4 A1 A2).mono ?_
  rintro e w5 ⟨rfl, hB⟩
  have X5 := hid (X4.out.below hB (Nat.le_refl _))
  have Y5 := hid (Y4.out.below hB (Nat.le_refl _))
  have B5 := hid (B4.out.trans (hB.mono B4.out.size))
  clear hB B4 X4 Y4
  go_wp2_with fail
  refine (whole_any _ (s32 a) (by omega) (by omega)).mono ?_
  rintro e w6 ⟨bp, rfl, hbp, hI, hB⟩
  have P6 := hid hI
  have X6 := hid (X5.out.below hB (Nat.le_refl _))
  have Y6 := hid (Y5.out.below hB (Nat.le_refl _))
  have B6 := hid (B5.out.trans (hB.mono B5.out.size))
  clear hI hB B5 X5 Y5
  go_wp2_with fail
  refine (L_any b w6 E1 E2).mono ?_
  rintro e w7 ⟨rfl, hB⟩
  have X7 := hid (X6.out.below hB (Nat.le_refl _))
  have Y7 := hid (Y6.out.below hB (Nat.le_refl _))
  have P7 := hid (P6.out.below hB (Nat.le_refl _))
  have B7 := hid (B6.out.trans (hB.mono B6.out.size))
  clear hB B6 X6 Y6 P6
  go_wp2_with fail
  refine (whole_any _ (s32 b) (by omega) (by omega)).mono ?_
  rintro e w8 ⟨bq, rfl, hbq, hI, hB⟩
  have lq := hI.lt
  have lx := (X7.out.below hB (Nat.le_refl _)).lt
  have ly := (Y7.out.below hB (Nat.le_refl _)).lt
  have lp := (P7.out.below hB (Nat.le_refl _)).lt
  have Q9 := hid (hI.below ((Below.refl w8.heap.size w8).alloc (Nat.le_refl _) (.cells #[.bool false, .slice none 0 0] 51)) (Nat.le_refl _))
  have X9 := hid ((X7.out.below hB (Nat.le_refl _)).below ((Below.refl w8.heap.size w8).alloc (Nat.le_refl _) (.cells #[.bool false, .slice none 0 0] 51)) (Nat.le_refl _))
  have Y9 := hid ((Y7.out.below hB (Nat.le_refl _)).below ((Below.refl w8.heap.size w8).alloc (Nat.le_refl _) (.cells #[.bool false, .slice none 0 0] 51)) (Nat.le_refl _))
  have P9 := hid ((P7.out.below hB (Nat.le_refl _)).below ((Below.refl w8.heap.size w8).alloc (Nat.le_refl _) (.cells #[.bool false, .slice none 0 0] 51)) (Nat.le_refl _))
  have hB8 := B7.out.trans (hB.mono B7.out.size)
  have h8 := hB8.size
  have B9 := hid (hB8.alloc h8 (.cells #[.bool false, .slice none 0 0] 51))
  have R9 := hid (IntBlk.new w8 (.bool false) (.slice none 0 0))
  clear hI hB B7 X7 Y7 P7 hB8 hbx hby hbp hbq
  go_wp2_with fail
  refine (Abs_any _ w8.heap.size bx (s16 a) R9.out X9.out (sm_of_lt (by omega))).mono ?_
  rintro e w9 ⟨rfl, hI, hG⟩
  have Z := hid hI
  have G := hid (below_of_grownBy B9.out hG h8)
  clear hI hG
  go_wp2_with fail
  refine (clip_any _ w8.heap.size (((s16 a).natAbs : Nat)) 15 Z.out (sm_of_lt (by omega)) (by omega) (-32768) 32767 (by decide) (by decide)).mono ?_
  rintro e w10 ⟨rfl, hB⟩
  have B10 := hid hB
  clear hB
  go_wp2
  go_ret2
  exact ⟨by rw [← (abs_eq a).1, ← (abs_eq a).2]; rfl, G.out.trans (B10.out.mono G.out.size)⟩

set_option maxRecDepth 100000 in
set_option maxHeartbeats 8000000 in
theorem refDoes6 (a b c : Int) (w : World) (A1 : -9223372036854775808 ≤ a) (A2 : a ≤ 9223372036854775807) (E1 : -9223372036854775808 ≤ b) (E2 : b ≤ 9223372036854775807) :
    Calls Try.prog 19 #[.int .i64 6, .int .i64 a, .int .i64 b, .int .i64 c] w (Dos w (s16 (s16 a * s16 b / 32768)) (d16 (s16 a * s16 b / 32768))) := by
  have ra := s16_range a
  have rb := s16_range b
  have la := s32_range a
  have lb := s32_range b
  have pr := prod_range ra rb
  have hq := hid (show (s16 a * s16 b / 32768).natAbs < 340282366920938463463374607431768211456 by omega)
  go_enter Try.func19, Try.ntmps19
  go_wp2_with fail
  refine (S_any a w A1 A2).mono ?_
  rintro e w1 ⟨rfl, hB1⟩
  have B1 := hid hB1
  clear hB1
  go_wp2_with fail
  refine (whole_any _ (s16 a) (by omega) (by omega)).mono ?_
  rintro e w2 ⟨bx, rfl, hbx, hI, hB⟩
  have X2 := hid hI
  have B2 := hid (B1.out.trans (hB.mono B1.out.size))
  clear hI hB B1
  go_wp2_with fail
  refine (S_any b w2 E1 E2).mono ?_
  rintro e w3 ⟨rfl, hB⟩
  have X3 := hid (X2.out.below hB (Nat.le_refl _))
  have B3 := hid (B2.out.trans (hB.mono B2.out.size))
  clear hB B2 X2
  go_wp2_with fail
  refine (whole_any _ (s16 b) (by omega) (by omega)).mono ?_
  rintro e w4 ⟨by_, rfl, hby, hI, hB⟩
  have Y4 := hid hI
  have X4 := hid (X3.out.below hB (Nat.le_refl _))
  have B4 := hid (B3.out.trans (hB.mono B3.out.size))
  clear hI hB B3 X3
  go_wp2_with fail
  refine (L_any a w4 A1 A2).mono ?_
  rintro e w5 ⟨rfl, hB⟩
  have X5 := hid (X4.out.below hB (Nat.le_refl _))
  have Y5 := hid (Y4.out.below hB (Nat.le_refl _))
  have B5 := hid (B4.out.trans (hB.mono B4.out.size))
  clear hB B4 X4 Y4
  go_wp2_with fail
  refine (whole_any _ (s32 a) (by omega) (by omega)).mono ?_
  rintro e w6 ⟨bp, rfl, hbp, hI, hB⟩
  have P6 := hid hI
  have X6 := hid (X5.out.below hB (Nat.le_refl _))
  have Y6 := hid (Y5.out.below hB (Nat.le_refl _))
  have B6 := hid (B5.out.trans (hB.mono B5.out.size))
  clear hI hB B5 X5 Y5
  go_wp2_with fail
  refine (L_any b w6 E1 E2).mono ?_
  rintro e w7 ⟨rfl, hB⟩
  have X7 := hid (X6.out.below hB (Nat.le_refl _))
  have Y7 := hid (Y6.out.below hB (Nat.le_refl _))
  have P7 := hid (P6.out.below hB (Nat.le_refl _))
  have B7 := hid (B6.out.trans (hB.mono B6.out.size))
  clear hB B6 X6 Y6 P6
  go_wp2_with fail
  refine (whole_any _ (s32 b) (by omega) (by omega)).mono ?_
  rintro e w8 ⟨bq, rfl, hbq, hI, hB⟩
  have lq := hI.lt
  have lx := (X7.out.below hB (Nat.le_refl _)).lt
  have ly := (Y7.out.below hB (Nat.le_refl _)).lt
  have lp := (P7.out.below hB (Nat.le_refl _)).lt
  have Q9 := hid (hI.below ((Below.refl w8.heap.size w8).alloc (Nat.le_refl _) (.cells #[.bool false, .slice none 0 0] 51)) (Nat.le_refl _))
  have X9 := hid ((X7.out.below hB (Nat.le_refl _)).below ((Below.refl w8.heap.size w8).alloc (Nat.le_refl _) (.cells #[.bool false, .slice none 0 0] 51)) (Nat.le_refl _))
  have Y9 := hid ((Y7.out.below hB (Nat.le_refl _)).below ((Below.refl w8.heap.size w8).alloc (Nat.le_refl _) (.cells #[.bool false, .slice none 0 0] 51)) (Nat.le_refl _))
  have P9 := hid ((P7.out.below hB (Nat.le_refl _)).below ((Below.refl w8.heap.size w8).alloc (Nat.le_refl _) (.cells #[.bool false, .slice none 0 0] 51)) (Nat.le_refl _))
  have hB8 := B7.out.trans (hB.mono B7.out.size)
  have h8 := hB8.size
  have B9 := hid (hB8.alloc h8 (.cells #[.bool false, .slice none 0 0] 51))
  have R9 := hid (IntBlk.new w8 (.bool false) (.slice none 0 0))
  clear hI hB B7 X7 Y7 P7 hB8 hbx hby hbp hbq
  go_wp2_with fail
  refine (Mul_far _ w8.heap.size bx by_ (s16 a) (s16 b) R9.out X9.out Y9.out (sm_of_lt (by omega)) (sm_of_lt (by omega)) (by omega) (by omega)).mono ?_
  rintro e w9 ⟨rfl, hI, hG⟩
  have Z := hid hI
  have G := hid (below_of_grownBy B9.out hG h8)
  have hs9 := G.out.size
  have hl9 := Z.out.lt
  clear hI hG
  go_wp2_with fail
  refine (NewInt_any _ 32768 (by omega) (by omega)).mono ?_
  rintro e w11 ⟨b3, rfl, hb3, hI3, hB3⟩
  have I3 := hid hI3
  have Z3 := hid (Z.out.below hB3 (Nat.le_refl _))
  have G3 := hid (G.out.trans (hB3.mono G.out.size))
  clear hI3 hB3
  go_wp2_with fail
  refine (Div_any _ w8.heap.size w8.heap.size b3 (s16 a * s16 b) 32768 Z3.out.blk Z3.out I3.out (by omega) (by omega) (by omega)).mono ?_
  rintro e w12 ⟨rfl, hI, hG⟩
  have Z4 := hid hI
  have G4 := hid (below_of_grownBy G3.out hG h8)
  clear hI hG
  go_wp2_with fail
  refine (clip_any _ w8.heap.size (s16 a * s16 b / 32768) 15 Z4.out (sm_of_lt hq.out) (by omega) (-32768) 32767 (by decide) (by decide)).mono ?_
  rintro e w10 ⟨rfl, hB⟩
  have B10 := hid hB
  clear hB
  go_wp2
  go_ret2
  exact ⟨rfl, G4.out.trans (B10.out.mono G4.out.size)⟩

set_option maxRecDepth 100000 in
set_option maxHeartbeats 8000000 in
theorem refDoes7 (a b c : Int) (w : World) (A1 : -9223372036854775808 ≤ a) (A2 : a ≤ 9223372036854775807) (E1 : -9223372036854775808 ≤ b) (E2 : b ≤ 9223372036854775807) :
    Calls Try.prog 19 #[.int .i64 7, .int .i64 a, .int .i64 b, .int .i64 c] w (Dos w (s32 (2 * s16 a * s16 b)) (d32 (2 * s16 a * s16 b))) := by
  have ra := s16_range a
  have rb := s16_range b
  have la := s32_range a
  have lb := s32_range b
  have pr := prod_range ra rb
  go_enter Try.func19, Try.ntmps19
  go_wp2_with fail
  refine (S_any a w A1 A2).mono ?_
  rintro e w1 ⟨rfl, hB1⟩
  have B1 := hid hB1
  clear hB1
  go_wp2_with fail
  refine (whole_any _ (s16 a) (by omega) (by omega)).mono ?_
  rintro e w2 ⟨bx, rfl, hbx, hI, hB⟩
  have X2 := hid hI
  have B2 := hid (B1.out.trans (hB.mono B1.out.size))
  clear hI hB B1
  go_wp2_with fail
  refine (S_any b w2 E1 E2).mono ?_
  rintro e w3 ⟨rfl, hB⟩
  have X3 := hid (X2.out.below hB (Nat.le_refl _))
  have B3 := hid (B2.out.trans (hB.mono B2.out.size))
  clear hB B2 X2
  go_wp2_with fail
  refine (whole_any _ (s16 b) (by omega) (by omega)).mono ?_
  rintro e w4 ⟨by_, rfl, hby, hI, hB⟩
  have Y4 := hid hI
  have X4 := hid (X3.out.below hB (Nat.le_refl _))
  have B4 := hid (B3.out.trans (hB.mono B3.out.size))
  clear hI hB B3 X3
  go_wp2_with fail
  refine (L_any a w4 A1 A2).mono ?_
  rintro e w5 ⟨rfl, hB⟩
  have X5 := hid (X4.out.below hB (Nat.le_refl _))
  have Y5 := hid (Y4.out.below hB (Nat.le_refl _))
  have B5 := hid (B4.out.trans (hB.mono B4.out.size))
  clear hB B4 X4 Y4
  go_wp2_with fail
  refine (whole_any _ (s32 a) (by omega) (by omega)).mono ?_
  rintro e w6 ⟨bp, rfl, hbp, hI, hB⟩
  have P6 := hid hI
  have X6 := hid (X5.out.below hB (Nat.le_refl _))
  have Y6 := hid (Y5.out.below hB (Nat.le_refl _))
  have B6 := hid (B5.out.trans (hB.mono B5.out.size))
  clear hI hB B5 X5 Y5
  go_wp2_with fail
  refine (L_any b w6 E1 E2).mono ?_
  rintro e w7 ⟨rfl, hB⟩
  have X7 := hid (X6.out.below hB (Nat.le_refl _))
  have Y7 := hid (Y6.out.below hB (Nat.le_refl _))
  have P7 := hid (P6.out.below hB (Nat.le_refl _))
  have B7 := hid (B6.out.trans (hB.mono B6.out.size))
  clear hB B6 X6 Y6 P6
  go_wp2_with fail
  refine (whole_any _ (s32 b) (by omega) (by omega)).mono ?_
  rintro e w8 ⟨bq, rfl, hbq, hI, hB⟩
  have lq := hI.lt
  have lx := (X7.out.below hB (Nat.le_refl _)).lt
  have ly := (Y7.out.below hB (Nat.le_refl _)).lt
  have lp := (P7.out.below hB (Nat.le_refl _)).lt
  have Q9 := hid (hI.below ((Below.refl w8.heap.size w8).alloc (Nat.le_refl _) (.cells #[.bool false, .slice none 0 0] 51)) (Nat.le_refl _))
  have X9 := hid ((X7.out.below hB (Nat.le_refl _)).below ((Below.refl w8.heap.size w8).alloc (Nat.le_refl _) (.cells #[.bool false, .slice none 0 0] 51)) (Nat.le_refl _))
  have Y9 := hid ((Y7.out.below hB (Nat.le_refl _)).below ((Below.refl w8.heap.size w8).alloc (Nat.le_refl _) (.cells #[.bool false, .slice none 0 0] 51)) (Nat.le_refl _))
  have P9 := hid ((P7.out.below hB (Nat.le_refl _)).below ((Below.refl w8.heap.size w8).alloc (Nat.le_refl _) (.cells #[.bool false, .slice none 0 0] 51)) (Nat.le_refl _))
  have hB8 := B7.out.trans (hB.mono B7.out.size)
  have h8 := hB8.size
  have B9 := hid (hB8.alloc h8 (.cells #[.bool false, .slice none 0 0] 51))
  have R9 := hid (IntBlk.new w8 (.bool false) (.slice none 0 0))
  clear hI hB B7 X7 Y7 P7 hB8 hbx hby hbp hbq
  go_wp2_with fail
  refine (Mul_far _ w8.heap.size bx by_ (s16 a) (s16 b) R9.out X9.out Y9.out (sm_of_lt (by omega)) (sm_of_lt (by omega)) (by omega) (by omega)).mono ?_
  rintro e w9 ⟨rfl, hI, hG⟩
  have Z := hid hI
  have G := hid (below_of_grownBy B9.out hG h8)
  have hs9 := G.out.size
  have hl9 := Z.out.lt
  clear hI hG
  go_wp2_with fail
  refine (NewInt_any _ 2 (by omega) (by omega)).mono ?_
  rintro e w11 ⟨b3, rfl, hb3, hI3, hB3⟩
  have I3 := hid hI3
  have Z3 := hid (Z.out.below hB3 (Nat.le_refl _))
  have G3 := hid (G.out.trans (hB3.mono G.out.size))
  clear hI3 hB3
  go_wp2_with fail
  refine (Mul_any _ w8.heap.size w8.heap.size b3 (s16 a * s16 b) 2 Z3.out.blk Z3.out I3.out (sm_of_lt (by omega)) (sm_of_lt (by decide))).mono ?_
  rintro e w12 ⟨rfl, hI, hG⟩
  rw [show s16 a * s16 b * 2 = 2 * s16 a * s16 b from by rw [Int.mul_comm, Int.mul_assoc]] at hI
  have Z4 := hid hI
  have G4 := hid (below_of_grownBy G3.out hG h8)
  have hq := hid (show (2 * s16 a * s16 b).natAbs < 340282366920938463463374607431768211456 by rw [Int.mul_assoc]; omega)
  clear hI hG
  go_wp2_with fail
  refine (clip_any _ w8.heap.size (2 * s16 a * s16 b) 31 Z4.out (sm_of_lt hq.out) (by omega) (-2147483648) 2147483647 (by decide) (by decide)).mono ?_
  rintro e w10 ⟨rfl, hB⟩
  have B10 := hid hB
  clear hB
  go_wp2
  go_ret2
  exact ⟨rfl, G4.out.trans (B10.out.mono G4.out.size)⟩

set_option maxRecDepth 100000 in
set_option maxHeartbeats 8000000 in
theorem refDoes10 (a b c : Int) (w : World) (A1 : -9223372036854775808 ≤ a) (A2 : a ≤ 9223372036854775807) (E1 : -9223372036854775808 ≤ b) (E2 : b ≤ 9223372036854775807) :
    Calls Try.prog 19 #[.int .i64 10, .int .i64 a, .int .i64 b, .int .i64 c] w (Dos w (s16 (shiftZ (s16 a) (max b (-40)))) (d16 (shiftZ (s16 a) (max b (-40))))) := by
  have ra := s16_range a
  have rb := s16_range b
  have la := s32_range a
  have lb := s32_range b
  have eq := hid (shift_mov (lo := -32768) (hi := 32767) (x := s16 a) (n := b) (by omega) (by omega) (by omega) (by omega) ⟨by omega, by omega⟩)
  go_enter Try.func19, Try.ntmps19
  go_wp2_with fail
  refine (S_any a w A1 A2).mono ?_
  rintro e w1 ⟨rfl, hB1⟩
  have B1 := hid hB1
  clear hB1
  go_wp2_with fail
  refine (whole_any _ (s16 a) (by omega) (by omega)).mono ?_
  rintro e w2 ⟨bx, rfl, hbx, hI, hB⟩
  have X2 := hid hI
  have B2 := hid (B1.out.trans (hB.mono B1.out.size))
  clear hI hB B1
  go_wp2_with fail
  refine (S_any b w2 E1 E2).mono ?_
  rintro e w3 ⟨rfl, hB⟩
  have X3 := hid (X2.out.below hB (Nat.le_refl _))
  have B3 := hid (B2.out.trans (hB.mono B2.out.size))
  clear hB B2 X2
  go_wp2_with fail
  refine (whole_any _ (s16 b) (by omega) (by omega)).mono ?_
  rintro e w4 ⟨by_, rfl, hby, hI, hB⟩
  have Y4 := hid hI
  have X4 := hid (X3.out.below hB (Nat.le_refl _))
  have B4 := hid (B3.out.trans (hB.mono B3.out.size))
  clear hI hB B3 X3
  go_wp2_with fail
  refine (L_any a w4 A1 A2).mono ?_
  rintro e w5 ⟨rfl, hB⟩
  have X5 := hid (X4.out.below hB (Nat.le_refl _))
  have Y5 := hid (Y4.out.below hB (Nat.le_refl _))
  have B5 := hid (B4.out.trans (hB.mono B4.out.size))
  clear hB B4 X4 Y4
  go_wp2_with fail
  refine (whole_any _ (s32 a) (by omega) (by omega)).mono ?_
  rintro e w6 ⟨bp, rfl, hbp, hI, hB⟩
  have P6 := hid hI
  have X6 := hid (X5.out.below hB (Nat.le_refl _))
  have Y6 := hid (Y5.out.below hB (Nat.le_refl _))
  have B6 := hid (B5.out.trans (hB.mono B5.out.size))
  clear hI hB B5 X5 Y5
  go_wp2_with fail
  refine (L_any b w6 E1 E2).mono ?_
  rintro e w7 ⟨rfl, hB⟩
  have X7 := hid (X6.out.below hB (Nat.le_refl _))
  have Y7 := hid (Y6.out.below hB (Nat.le_refl _))
  have P7 := hid (P6.out.below hB (Nat.le_refl _))
  have B7 := hid (B6.out.trans (hB.mono B6.out.size))
  clear hB B6 X6 Y6 P6
  go_wp2_with fail
  refine (whole_any _ (s32 b) (by omega) (by omega)).mono ?_
  rintro e w8 ⟨bq, rfl, hbq, hI, hB⟩
  have lq := hI.lt
  have lx := (X7.out.below hB (Nat.le_refl _)).lt
  have ly := (Y7.out.below hB (Nat.le_refl _)).lt
  have lp := (P7.out.below hB (Nat.le_refl _)).lt
  have Q9 := hid (hI.below ((Below.refl w8.heap.size w8).alloc (Nat.le_refl _) (.cells #[.bool false, .slice none 0 0] 51)) (Nat.le_refl _))
  have X9 := hid ((X7.out.below hB (Nat.le_refl _)).below ((Below.refl w8.heap.size w8).alloc (Nat.le_refl _) (.cells #[.bool false, .slice none 0 0] 51)) (Nat.le_refl _))
  have Y9 := hid ((Y7.out.below hB (Nat.le_refl _)).below ((Below.refl w8.heap.size w8).alloc (Nat.le_refl _) (.cells #[.bool false, .slice none 0 0] 51)) (Nat.le_refl _))
  have P9 := hid ((P7.out.below hB (Nat.le_refl _)).below ((Below.refl w8.heap.size w8).alloc (Nat.le_refl _) (.cells #[.bool false, .slice none 0 0] 51)) (Nat.le_refl _))
  have hB8 := B7.out.trans (hB.mono B7.out.size)
  have h8 := hB8.size
  have B9 := hid (hB8.alloc h8 (.cells #[.bool false, .slice none 0 0] 51))
  have R9 := hid (IntBlk.new w8 (.bool false) (.slice none 0 0))
  clear hI hB B7 X7 Y7 P7 hB8 hbx hby hbp hbq
  go_wp2_with fail
  refine (moved_any _ bx (s16 a) (b) X9.out ⟨by omega, by omega⟩ (by omega)).mono ?_
  rintro e w9 ⟨bz, rfl, hbz, hI, hB⟩
  have Z := hid hI
  have G := hid (B9.out.trans (hB.mono B9.out.size))
  have HM := hid (movZ_range (x := s16 a) (n := b) ⟨by omega, by omega⟩)
  clear hI hB
  go_wp2_with fail
  refine (clip_any _ bz (movZ (s16 a) (b)) 15 Z.out (sm_of_lt HM.out) (by omega) (-32768) 32767 (by decide) (by decide)).mono ?_
  rintro e w10 ⟨rfl, hB⟩
  have B10 := hid hB
  clear hB
  go_wp2
  go_ret2
  refine ⟨?_, G.out.trans (B10.out.mono G.out.size)⟩
  have h1 := eq.out.1
  have h2 := eq.out.2
  show Ending.returned (.tuple #[.int .i64 (lim (-32768) 32767 (movZ (s16 a) (b))), .bool (limd (-32768) 32767 (movZ (s16 a) (b)))]) = _
  rw [← h1, ← h2]
  rfl

set_option maxRecDepth 100000 in
set_option maxHeartbeats 8000000 in
theorem refDoes11 (a b c : Int) (w : World) (A1 : -9223372036854775808 ≤ a) (A2 : a ≤ 9223372036854775807) (E1 : -9223372036854775808 ≤ b) (E2 : b ≤ 9223372036854775807) :
    Calls Try.prog 19 #[.int .i64 11, .int .i64 a, .int .i64 b, .int .i64 c] w (Dos w (s16 (shiftZ (s16 a) (max (-max b (-40)) (-40)))) (d16 (shiftZ (s16 a) (max (-max b (-40)) (-40))))) := by
  have ra := s16_range a
  have rb := s16_range b
  have la := s32_range a
  have lb := s32_range b
  have eq := hid (shift_mov_r (lo := -32768) (hi := 32767) (x := s16 a) (n := b) (by omega) (by omega) (by omega) (by omega) ⟨by omega, by omega⟩)
  by_cases hc : b < -50
  · have hm : -max b (-50) = 50 := by omega
    rw [hm] at eq
    clear hm
    go_enter Try.func19, Try.ntmps19
    go_wp2_with fail
    refine (S_any a w A1 A2).mono ?_
    rintro e w1 ⟨rfl, hB1⟩
    have B1 := hid hB1
    clear hB1
    go_wp2_with fail
    refine (whole_any _ (s16 a) (by omega) (by omega)).mono ?_
    rintro e w2 ⟨bx, rfl, hbx, hI, hB⟩
    have X2 := hid hI
    have B2 := hid (B1.out.trans (hB.mono B1.out.size))
    clear hI hB B1
    go_wp2_with fail
    refine (S_any b w2 E1 E2).mono ?_
    rintro e w3 ⟨rfl, hB⟩
    have X3 := hid (X2.out.below hB (Nat.le_refl _))
    have B3 := hid (B2.out.trans (hB.mono B2.out.size))
    clear hB B2 X2
    go_wp2_with fail
    refine (whole_any _ (s16 b) (by omega) (by omega)).mono ?_
    rintro e w4 ⟨by_, rfl, hby, hI, hB⟩
    have Y4 := hid hI
    have X4 := hid (X3.out.below hB (Nat.le_refl _))
    have B4 := hid (B3.out.trans (hB.mono B3.out.size))
    clear hI hB B3 X3
    go_wp2_with fail
    refine (L_any a w4 A1 A2).mono ?_
    rintro e w5 ⟨rfl, hB⟩
    have X5 := hid (X4.out.below hB (Nat.le_refl _))
    have Y5 := hid (Y4.out.below hB (Nat.le_refl _))
    have B5 := hid (B4.out.trans (hB.mono B4.out.size))
    clear hB B4 X4 Y4
    go_wp2_with fail
    refine (whole_any _ (s32 a) (by omega) (by omega)).mono ?_
    rintro e w6 ⟨bp, rfl, hbp, hI, hB⟩
    have P6 := hid hI
    have X6 := hid (X5.out.below hB (Nat.le_refl _))
    have Y6 := hid (Y5.out.below hB (Nat.le_refl _))
    have B6 := hid (B5.out.trans (hB.mono B5.out.size))
    clear hI hB B5 X5 Y5
    go_wp2_with fail
    refine (L_any b w6 E1 E2).mono ?_
    rintro e w7 ⟨rfl, hB⟩
    have X7 := hid (X6.out.below hB (Nat.le_refl _))
    have Y7 := hid (Y6.out.below hB (Nat.le_refl _))
    have P7 := hid (P6.out.below hB (Nat.le_refl _))
    have B7 := hid (B6.out.trans (hB.mono B6.out.size))
    clear hB B6 X6 Y6 P6
    go_wp2_with fail
    refine (whole_any _ (s32 b) (by omega) (by omega)).mono ?_
    rintro e w8 ⟨bq, rfl, hbq, hI, hB⟩
    have lq := hI.lt
    have lx := (X7.out.below hB (Nat.le_refl _)).lt
    have ly := (Y7.out.below hB (Nat.le_refl _)).lt
    have lp := (P7.out.below hB (Nat.le_refl _)).lt
    have Q9 := hid (hI.below ((Below.refl w8.heap.size w8).alloc (Nat.le_refl _) (.cells #[.bool false, .slice none 0 0] 51)) (Nat.le_refl _))
    have X9 := hid ((X7.out.below hB (Nat.le_refl _)).below ((Below.refl w8.heap.size w8).alloc (Nat.le_refl _) (.cells #[.bool false, .slice none 0 0] 51)) (Nat.le_refl _))
    have Y9 := hid ((Y7.out.below hB (Nat.le_refl _)).below ((Below.refl w8.heap.size w8).alloc (Nat.le_refl _) (.cells #[.bool false, .slice none 0 0] 51)) (Nat.le_refl _))
    have P9 := hid ((P7.out.below hB (Nat.le_refl _)).below ((Below.refl w8.heap.size w8).alloc (Nat.le_refl _) (.cells #[.bool false, .slice none 0 0] 51)) (Nat.le_refl _))
    have hB8 := B7.out.trans (hB.mono B7.out.size)
    have h8 := hB8.size
    have B9 := hid (hB8.alloc h8 (.cells #[.bool false, .slice none 0 0] 51))
    have R9 := hid (IntBlk.new w8 (.bool false) (.slice none 0 0))
    clear hI hB B7 X7 Y7 P7 hB8 hbx hby hbp hbq
    go_wp2_with fail
    refine (moved_any _ bx (s16 a) (50) X9.out ⟨by omega, by omega⟩ (by omega)).mono ?_
    rintro e w9 ⟨bz, rfl, hbz, hI, hB⟩
    have Z := hid hI
    have G := hid (B9.out.trans (hB.mono B9.out.size))
    have HM := hid (movZ_range (x := s16 a) (n := 50) ⟨by omega, by omega⟩)
    clear hI hB
    go_wp2_with fail
    refine (clip_any _ bz (movZ (s16 a) (50)) 15 Z.out (sm_of_lt HM.out) (by omega) (-32768) 32767 (by decide) (by decide)).mono ?_
    rintro e w10 ⟨rfl, hB⟩
    have B10 := hid hB
    clear hB
    go_wp2
    go_ret2
    refine ⟨?_, G.out.trans (B10.out.mono G.out.size)⟩
    have h1 := eq.out.1
    have h2 := eq.out.2
    show Ending.returned (.tuple #[.int .i64 (lim (-32768) 32767 (movZ (s16 a) (50))), .bool (limd (-32768) 32767 (movZ (s16 a) (50)))]) = _
    rw [← h1, ← h2]
    rfl
  · have hm : -max b (-50) = -b := by omega
    rw [hm] at eq
    clear hm
    go_enter Try.func19, Try.ntmps19
    go_wp2_with fail
    refine (S_any a w A1 A2).mono ?_
    rintro e w1 ⟨rfl, hB1⟩
    have B1 := hid hB1
    clear hB1
    go_wp2_with fail
    refine (whole_any _ (s16 a) (by omega) (by omega)).mono ?_
    rintro e w2 ⟨bx, rfl, hbx, hI, hB⟩
    have X2 := hid hI
    have B2 := hid (B1.out.trans (hB.mono B1.out.size))
    clear hI hB B1
    go_wp2_with fail
    refine (S_any b w2 E1 E2).mono ?_
    rintro e w3 ⟨rfl, hB⟩
    have X3 := hid (X2.out.below hB (Nat.le_refl _))
    have B3 := hid (B2.out.trans (hB.mono B2.out.size))
    clear hB B2 X2
    go_wp2_with fail
    refine (whole_any _ (s16 b) (by omega) (by omega)).mono ?_
    rintro e w4 ⟨by_, rfl, hby, hI, hB⟩
    have Y4 := hid hI
    have X4 := hid (X3.out.below hB (Nat.le_refl _))
    have B4 := hid (B3.out.trans (hB.mono B3.out.size))
    clear hI hB B3 X3
    go_wp2_with fail
    refine (L_any a w4 A1 A2).mono ?_
    rintro e w5 ⟨rfl, hB⟩
    have X5 := hid (X4.out.below hB (Nat.le_refl _))
    have Y5 := hid (Y4.out.below hB (Nat.le_refl _))
    have B5 := hid (B4.out.trans (hB.mono B4.out.size))
    clear hB B4 X4 Y4
    go_wp2_with fail
    refine (whole_any _ (s32 a) (by omega) (by omega)).mono ?_
    rintro e w6 ⟨bp, rfl, hbp, hI, hB⟩
    have P6 := hid hI
    have X6 := hid (X5.out.below hB (Nat.le_refl _))
    have Y6 := hid (Y5.out.below hB (Nat.le_refl _))
    have B6 := hid (B5.out.trans (hB.mono B5.out.size))
    clear hI hB B5 X5 Y5
    go_wp2_with fail
    refine (L_any b w6 E1 E2).mono ?_
    rintro e w7 ⟨rfl, hB⟩
    have X7 := hid (X6.out.below hB (Nat.le_refl _))
    have Y7 := hid (Y6.out.below hB (Nat.le_refl _))
    have P7 := hid (P6.out.below hB (Nat.le_refl _))
    have B7 := hid (B6.out.trans (hB.mono B6.out.size))
    clear hB B6 X6 Y6 P6
    go_wp2_with fail
    refine (whole_any _ (s32 b) (by omega) (by omega)).mono ?_
    rintro e w8 ⟨bq, rfl, hbq, hI, hB⟩
    have lq := hI.lt
    have lx := (X7.out.below hB (Nat.le_refl _)).lt
    have ly := (Y7.out.below hB (Nat.le_refl _)).lt
    have lp := (P7.out.below hB (Nat.le_refl _)).lt
    have Q9 := hid (hI.below ((Below.refl w8.heap.size w8).alloc (Nat.le_refl _) (.cells #[.bool false, .slice none 0 0] 51)) (Nat.le_refl _))
    have X9 := hid ((X7.out.below hB (Nat.le_refl _)).below ((Below.refl w8.heap.size w8).alloc (Nat.le_refl _) (.cells #[.bool false, .slice none 0 0] 51)) (Nat.le_refl _))
    have Y9 := hid ((Y7.out.below hB (Nat.le_refl _)).below ((Below.refl w8.heap.size w8).alloc (Nat.le_refl _) (.cells #[.bool false, .slice none 0 0] 51)) (Nat.le_refl _))
    have P9 := hid ((P7.out.below hB (Nat.le_refl _)).below ((Below.refl w8.heap.size w8).alloc (Nat.le_refl _) (.cells #[.bool false, .slice none 0 0] 51)) (Nat.le_refl _))
    have hB8 := B7.out.trans (hB.mono B7.out.size)
    have h8 := hB8.size
    have B9 := hid (hB8.alloc h8 (.cells #[.bool false, .slice none 0 0] 51))
    have R9 := hid (IntBlk.new w8 (.bool false) (.slice none 0 0))
    clear hI hB B7 X7 Y7 P7 hB8 hbx hby hbp hbq
    go_wp2_with fail
    refine (moved_any _ bx (s16 a) (-b) X9.out ⟨by omega, by omega⟩ (by omega)).mono ?_
    rintro e w9 ⟨bz, rfl, hbz, hI, hB⟩
    have Z := hid hI
    have G := hid (B9.out.trans (hB.mono B9.out.size))
    have HM := hid (movZ_range (x := s16 a) (n := -b) ⟨by omega, by omega⟩)
    clear hI hB
    go_wp2_with fail
    refine (clip_any _ bz (movZ (s16 a) (-b)) 15 Z.out (sm_of_lt HM.out) (by omega) (-32768) 32767 (by decide) (by decide)).mono ?_
    rintro e w10 ⟨rfl, hB⟩
    have B10 := hid hB
    clear hB
    go_wp2
    go_ret2
    refine ⟨?_, G.out.trans (B10.out.mono G.out.size)⟩
    have h1 := eq.out.1
    have h2 := eq.out.2
    show Ending.returned (.tuple #[.int .i64 (lim (-32768) 32767 (movZ (s16 a) (-b))), .bool (limd (-32768) 32767 (movZ (s16 a) (-b)))]) = _
    rw [← h1, ← h2]
    rfl

set_option maxRecDepth 100000 in
set_option maxHeartbeats 8000000 in
theorem refDoes12 (a b c : Int) (w : World) (A1 : -9223372036854775808 ≤ a) (A2 : a ≤ 9223372036854775807) (E1 : -9223372036854775808 ≤ b) (E2 : b ≤ 9223372036854775807) :
    Calls Try.prog 19 #[.int .i64 12, .int .i64 a, .int .i64 b, .int .i64 c] w (Dos w (s32 (shiftZ (s32 a) (max b (-40)))) (d32 (shiftZ (s32 a) (max b (-40))))) := by
  have ra := s16_range a
  have rb := s16_range b
  have la := s32_range a
  have lb := s32_range b
  have eq := hid (shift_mov (lo := -2147483648) (hi := 2147483647) (x := s32 a) (n := b) (by omega) (by omega) (by omega) (by omega) ⟨by omega, by omega⟩)
  go_enter Try.func19, Try.ntmps19
  go_wp2_with fail
  refine (S_any a w A1 A2).mono ?_
  rintro e w1 ⟨rfl, hB1⟩
  have B1 := hid hB1
  clear hB1
  go_wp2_with fail
  refine (whole_any _ (s16 a) (by omega) (by omega)).mono ?_
  rintro e w2 ⟨bx, rfl, hbx, hI, hB⟩
  have X2 := hid hI
  have B2 := hid (B1.out.trans (hB.mono B1.out.size))
  clear hI hB B1
  go_wp2_with fail
  refine (S_any b w2 E1 E2).mono ?_
  rintro e w3 ⟨rfl, hB⟩
  have X3 := hid (X2.out.below hB (Nat.le_refl _))
  have B3 := hid (B2.out.trans (hB.mono B2.out.size))
  clear hB B2 X2
  go_wp2_with fail
  refine (whole_any _ (s16 b) (by omega) (by omega)).mono ?_
  rintro e w4 ⟨by_, rfl, hby, hI, hB⟩
  have Y4 := hid hI
  have X4 := hid (X3.out.below hB (Nat.le_refl _))
  have B4 := hid (B3.out.trans (hB.mono B3.out.size))
  clear hI hB B3 X3
  go_wp2_with fail
  refine (L_any a w4 A1 A2).mono ?_
  rintro e w5 ⟨rfl, hB⟩
  have X5 := hid (X4.out.below hB (Nat.le_refl _))
  have Y5 := hid (Y4.out.below hB (Nat.le_refl _))
  have B5 := hid (B4.out.trans (hB.mono B4.out.size))
  clear hB B4 X4 Y4
  go_wp2_with fail
  refine (whole_any _ (s32 a) (by omega) (by omega)).mono ?_
  rintro e w6 ⟨bp, rfl, hbp, hI, hB⟩
  have P6 := hid hI
  have X6 := hid (X5.out.below hB (Nat.le_refl _))
  have Y6 := hid (Y5.out.below hB (Nat.le_refl _))
  have B6 := hid (B5.out.trans (hB.mono B5.out.size))
  clear hI hB B5 X5 Y5
  go_wp2_with fail
  refine (L_any b w6 E1 E2).mono ?_
  rintro e w7 ⟨rfl, hB⟩
  have X7 := hid (X6.out.below hB (Nat.le_refl _))
  have Y7 := hid (Y6.out.below hB (Nat.le_refl _))
  have P7 := hid (P6.out.below hB (Nat.le_refl _))
  have B7 := hid (B6.out.trans (hB.mono B6.out.size))
  clear hB B6 X6 Y6 P6
  go_wp2_with fail
  refine (whole_any _ (s32 b) (by omega) (by omega)).mono ?_
  rintro e w8 ⟨bq, rfl, hbq, hI, hB⟩
  have lq := hI.lt
  have lx := (X7.out.below hB (Nat.le_refl _)).lt
  have ly := (Y7.out.below hB (Nat.le_refl _)).lt
  have lp := (P7.out.below hB (Nat.le_refl _)).lt
  have Q9 := hid (hI.below ((Below.refl w8.heap.size w8).alloc (Nat.le_refl _) (.cells #[.bool false, .slice none 0 0] 51)) (Nat.le_refl _))
  have X9 := hid ((X7.out.below hB (Nat.le_refl _)).below ((Below.refl w8.heap.size w8).alloc (Nat.le_refl _) (.cells #[.bool false, .slice none 0 0] 51)) (Nat.le_refl _))
  have Y9 := hid ((Y7.out.below hB (Nat.le_refl _)).below ((Below.refl w8.heap.size w8).alloc (Nat.le_refl _) (.cells #[.bool false, .slice none 0 0] 51)) (Nat.le_refl _))
  have P9 := hid ((P7.out.below hB (Nat.le_refl _)).below ((Below.refl w8.heap.size w8).alloc (Nat.le_refl _) (.cells #[.bool false, .slice none 0 0] 51)) (Nat.le_refl _))
  have hB8 := B7.out.trans (hB.mono B7.out.size)
  have h8 := hB8.size
  have B9 := hid (hB8.alloc h8 (.cells #[.bool false, .slice none 0 0] 51))
  have R9 := hid (IntBlk.new w8 (.bool false) (.slice none 0 0))
  clear hI hB B7 X7 Y7 P7 hB8 hbx hby hbp hbq
  go_wp2_with fail
  refine (moved_any _ bp (s32 a) (b) P9.out ⟨by omega, by omega⟩ (by omega)).mono ?_
  rintro e w9 ⟨bz, rfl, hbz, hI, hB⟩
  have Z := hid hI
  have G := hid (B9.out.trans (hB.mono B9.out.size))
  have HM := hid (movZ_range (x := s32 a) (n := b) ⟨by omega, by omega⟩)
  clear hI hB
  go_wp2_with fail
  refine (clip_any _ bz (movZ (s32 a) (b)) 31 Z.out (sm_of_lt HM.out) (by omega) (-2147483648) 2147483647 (by decide) (by decide)).mono ?_
  rintro e w10 ⟨rfl, hB⟩
  have B10 := hid hB
  clear hB
  go_wp2
  go_ret2
  refine ⟨?_, G.out.trans (B10.out.mono G.out.size)⟩
  have h1 := eq.out.1
  have h2 := eq.out.2
  show Ending.returned (.tuple #[.int .i64 (lim (-2147483648) 2147483647 (movZ (s32 a) (b))), .bool (limd (-2147483648) 2147483647 (movZ (s32 a) (b)))]) = _
  rw [← h1, ← h2]
  rfl

set_option maxRecDepth 100000 in
set_option maxHeartbeats 8000000 in
theorem refDoes13 (a b c : Int) (w : World) (A1 : -9223372036854775808 ≤ a) (A2 : a ≤ 9223372036854775807) (E1 : -9223372036854775808 ≤ b) (E2 : b ≤ 9223372036854775807) :
    Calls Try.prog 19 #[.int .i64 13, .int .i64 a, .int .i64 b, .int .i64 c] w (Dos w (s32 (shiftZ (s32 a) (max (-max b (-40)) (-40)))) (d32 (shiftZ (s32 a) (max (-max b (-40)) (-40))))) := by
  have ra := s16_range a
  have rb := s16_range b
  have la := s32_range a
  have lb := s32_range b
  have eq := hid (shift_mov_r (lo := -2147483648) (hi := 2147483647) (x := s32 a) (n := b) (by omega) (by omega) (by omega) (by omega) ⟨by omega, by omega⟩)
  by_cases hc : b < -50
  · have hm : -max b (-50) = 50 := by omega
    rw [hm] at eq
    clear hm
    go_enter Try.func19, Try.ntmps19
    go_wp2_with fail
    refine (S_any a w A1 A2).mono ?_
    rintro e w1 ⟨rfl, hB1⟩
    have B1 := hid hB1
    clear hB1
    go_wp2_with fail
    refine (whole_any _ (s16 a) (by omega) (by omega)).mono ?_
    rintro e w2 ⟨bx, rfl, hbx, hI, hB⟩
    have X2 := hid hI
    have B2 := hid (B1.out.trans (hB.mono B1.out.size))
    clear hI hB B1
    go_wp2_with fail
    refine (S_any b w2 E1 E2).mono ?_
    rintro e w3 ⟨rfl, hB⟩
    have X3 := hid (X2.out.below hB (Nat.le_refl _))
    have B3 := hid (B2.out.trans (hB.mono B2.out.size))
    clear hB B2 X2
    go_wp2_with fail
    refine (whole_any _ (s16 b) (by omega) (by omega)).mono ?_
    rintro e w4 ⟨by_, rfl, hby, hI, hB⟩
    have Y4 := hid hI
    have X4 := hid (X3.out.below hB (Nat.le_refl _))
    have B4 := hid (B3.out.trans (hB.mono B3.out.size))
    clear hI hB B3 X3
    go_wp2_with fail
    refine (L_any a w4 A1 A2).mono ?_
    rintro e w5 ⟨rfl, hB⟩
    have X5 := hid (X4.out.below hB (Nat.le_refl _))
    have Y5 := hid (Y4.out.below hB (Nat.le_refl _))
    have B5 := hid (B4.out.trans (hB.mono B4.out.size))
    clear hB B4 X4 Y4
    go_wp2_with fail
    refine (whole_any _ (s32 a) (by omega) (by omega)).mono ?_
    rintro e w6 ⟨bp, rfl, hbp, hI, hB⟩
    have P6 := hid hI
    have X6 := hid (X5.out.below hB (Nat.le_refl _))
    have Y6 := hid (Y5.out.below hB (Nat.le_refl _))
    have B6 := hid (B5.out.trans (hB.mono B5.out.size))
    clear hI hB B5 X5 Y5
    go_wp2_with fail
    refine (L_any b w6 E1 E2).mono ?_
    rintro e w7 ⟨rfl, hB⟩
    have X7 := hid (X6.out.below hB (Nat.le_refl _))
    have Y7 := hid (Y6.out.below hB (Nat.le_refl _))
    have P7 := hid (P6.out.below hB (Nat.le_refl _))
    have B7 := hid (B6.out.trans (hB.mono B6.out.size))
    clear hB B6 X6 Y6 P6
    go_wp2_with fail
    refine (whole_any _ (s32 b) (by omega) (by omega)).mono ?_
    rintro e w8 ⟨bq, rfl, hbq, hI, hB⟩
    have lq := hI.lt
    have lx := (X7.out.below hB (Nat.le_refl _)).lt
    have ly := (Y7.out.below hB (Nat.le_refl _)).lt
    have lp := (P7.out.below hB (Nat.le_refl _)).lt
    have Q9 := hid (hI.below ((Below.refl w8.heap.size w8).alloc (Nat.le_refl _) (.cells #[.bool false, .slice none 0 0] 51)) (Nat.le_refl _))
    have X9 := hid ((X7.out.below hB (Nat.le_refl _)).below ((Below.refl w8.heap.size w8).alloc (Nat.le_refl _) (.cells #[.bool false, .slice none 0 0] 51)) (Nat.le_refl _))
    have Y9 := hid ((Y7.out.below hB (Nat.le_refl _)).below ((Below.refl w8.heap.size w8).alloc (Nat.le_refl _) (.cells #[.bool false, .slice none 0 0] 51)) (Nat.le_refl _))
    have P9 := hid ((P7.out.below hB (Nat.le_refl _)).below ((Below.refl w8.heap.size w8).alloc (Nat.le_refl _) (.cells #[.bool false, .slice none 0 0] 51)) (Nat.le_refl _))
    have hB8 := B7.out.trans (hB.mono B7.out.size)
    have h8 := hB8.size
    have B9 := hid (hB8.alloc h8 (.cells #[.bool false, .slice none 0 0] 51))
    have R9 := hid (IntBlk.new w8 (.bool false) (.slice none 0 0))
    clear hI hB B7 X7 Y7 P7 hB8 hbx hby hbp hbq
    go_wp2_with fail
    refine (moved_any _ bp (s32 a) (50) P9.out ⟨by omega, by omega⟩ (by omega)).mono ?_
    rintro e w9 ⟨bz, rfl, hbz, hI, hB⟩
    have Z := hid hI
    have G := hid (B9.out.trans (hB.mono B9.out.size))
    have HM := hid (movZ_range (x := s32 a) (n := 50) ⟨by omega, by omega⟩)
    clear hI hB
    go_wp2_with fail
    refine (clip_any _ bz (movZ (s32 a) (50)) 31 Z.out (sm_of_lt HM.out) (by omega) (-2147483648) 2147483647 (by decide) (by decide)).mono ?_
    rintro e w10 ⟨rfl, hB⟩
    have B10 := hid hB
    clear hB
    go_wp2
    go_ret2
    refine ⟨?_, G.out.trans (B10.out.mono G.out.size)⟩
    have h1 := eq.out.1
    have h2 := eq.out.2
    show Ending.returned (.tuple #[.int .i64 (lim (-2147483648) 2147483647 (movZ (s32 a) (50))), .bool (limd (-2147483648) 2147483647 (movZ (s32 a) (50)))]) = _
    rw [← h1, ← h2]
    rfl
  · have hm : -max b (-50) = -b := by omega
    rw [hm] at eq
    clear hm
    go_enter Try.func19, Try.ntmps19
    go_wp2_with fail
    refine (S_any a w A1 A2).mono ?_
    rintro e w1 ⟨rfl, hB1⟩
    have B1 := hid hB1
    clear hB1
    go_wp2_with fail
    refine (whole_any _ (s16 a) (by omega) (by omega)).mono ?_
    rintro e w2 ⟨bx, rfl, hbx, hI, hB⟩
    have X2 := hid hI
    have B2 := hid (B1.out.trans (hB.mono B1.out.size))
    clear hI hB B1
    go_wp2_with fail
    refine (S_any b w2 E1 E2).mono ?_
    rintro e w3 ⟨rfl, hB⟩
    have X3 := hid (X2.out.below hB (Nat.le_refl _))
    have B3 := hid (B2.out.trans (hB.mono B2.out.size))
    clear hB B2 X2
    go_wp2_with fail
    refine (whole_any _ (s16 b) (by omega) (by omega)).mono ?_
    rintro e w4 ⟨by_, rfl, hby, hI, hB⟩
    have Y4 := hid hI
    have X4 := hid (X3.out.below hB (Nat.le_refl _))
    have B4 := hid (B3.out.trans (hB.mono B3.out.size))
    clear hI hB B3 X3
    go_wp2_with fail
    refine (L_any a w4 A1 A2).mono ?_
    rintro e w5 ⟨rfl, hB⟩
    have X5 := hid (X4.out.below hB (Nat.le_refl _))
    have Y5 := hid (Y4.out.below hB (Nat.le_refl _))
    have B5 := hid (B4.out.trans (hB.mono B4.out.size))
    clear hB B4 X4 Y4
    go_wp2_with fail
    refine (whole_any _ (s32 a) (by omega) (by omega)).mono ?_
    rintro e w6 ⟨bp, rfl, hbp, hI, hB⟩
    have P6 := hid hI
    have X6 := hid (X5.out.below hB (Nat.le_refl _))
    have Y6 := hid (Y5.out.below hB (Nat.le_refl _))
    have B6 := hid (B5.out.trans (hB.mono B5.out.size))
    clear hI hB B5 X5 Y5
    go_wp2_with fail
    refine (L_any b w6 E1 E2).mono ?_
    rintro e w7 ⟨rfl, hB⟩
    have X7 := hid (X6.out.below hB (Nat.le_refl _))
    have Y7 := hid (Y6.out.below hB (Nat.le_refl _))
    have P7 := hid (P6.out.below hB (Nat.le_refl _))
    have B7 := hid (B6.out.trans (hB.mono B6.out.size))
    clear hB B6 X6 Y6 P6
    go_wp2_with fail
    refine (whole_any _ (s32 b) (by omega) (by omega)).mono ?_
    rintro e w8 ⟨bq, rfl, hbq, hI, hB⟩
    have lq := hI.lt
    have lx := (X7.out.below hB (Nat.le_refl _)).lt
    have ly := (Y7.out.below hB (Nat.le_refl _)).lt
    have lp := (P7.out.below hB (Nat.le_refl _)).lt
    have Q9 := hid (hI.below ((Below.refl w8.heap.size w8).alloc (Nat.le_refl _) (.cells #[.bool false, .slice none 0 0] 51)) (Nat.le_refl _))
    have X9 := hid ((X7.out.below hB (Nat.le_refl _)).below ((Below.refl w8.heap.size w8).alloc (Nat.le_refl _) (.cells #[.bool false, .slice none 0 0] 51)) (Nat.le_refl _))
    have Y9 := hid ((Y7.out.below hB (Nat.le_refl _)).below ((Below.refl w8.heap.size w8).alloc (Nat.le_refl _) (.cells #[.bool false, .slice none 0 0] 51)) (Nat.le_refl _))
    have P9 := hid ((P7.out.below hB (Nat.le_refl _)).below ((Below.refl w8.heap.size w8).alloc (Nat.le_refl _) (.cells #[.bool false, .slice none 0 0] 51)) (Nat.le_refl _))
    have hB8 := B7.out.trans (hB.mono B7.out.size)
    have h8 := hB8.size
    have B9 := hid (hB8.alloc h8 (.cells #[.bool false, .slice none 0 0] 51))
    have R9 := hid (IntBlk.new w8 (.bool false) (.slice none 0 0))
    clear hI hB B7 X7 Y7 P7 hB8 hbx hby hbp hbq
    go_wp2_with fail
    refine (moved_any _ bp (s32 a) (-b) P9.out ⟨by omega, by omega⟩ (by omega)).mono ?_
    rintro e w9 ⟨bz, rfl, hbz, hI, hB⟩
    have Z := hid hI
    have G := hid (B9.out.trans (hB.mono B9.out.size))
    have HM := hid (movZ_range (x := s32 a) (n := -b) ⟨by omega, by omega⟩)
    clear hI hB
    go_wp2_with fail
    refine (clip_any _ bz (movZ (s32 a) (-b)) 31 Z.out (sm_of_lt HM.out) (by omega) (-2147483648) 2147483647 (by decide) (by decide)).mono ?_
    rintro e w10 ⟨rfl, hB⟩
    have B10 := hid hB
    clear hB
    go_wp2
    go_ret2
    refine ⟨?_, G.out.trans (B10.out.mono G.out.size)⟩
    have h1 := eq.out.1
    have h2 := eq.out.2
    show Ending.returned (.tuple #[.int .i64 (lim (-2147483648) 2147483647 (movZ (s32 a) (-b))), .bool (limd (-2147483648) 2147483647 (movZ (s32 a) (-b)))]) = _
    rw [← h1, ← h2]
    rfl

set_option maxRecDepth 100000 in
set_option maxHeartbeats 8000000 in
theorem refDoes14 (a b c : Int) (w : World) (A1 : -9223372036854775808 ≤ a) (A2 : a ≤ 9223372036854775807) (E1 : -9223372036854775808 ≤ b) (E2 : b ≤ 9223372036854775807) :
    Calls Try.prog 19 #[.int .i64 14, .int .i64 a, .int .i64 b, .int .i64 c] w (Dos w (s32 (s32 a + 32768) / 65536) (d32 (s32 a + 32768))) := by
  have ra := s16_range a
  have rb := s16_range b
  have la := s32_range a
  have lb := s32_range b
  have rr := s32_range (s32 a + 32768)
  go_enter Try.func19, Try.ntmps19
  go_wp2_with fail
  refine (S_any a w A1 A2).mono ?_
  rintro e w1 ⟨rfl, hB1⟩
  have B1 := hid hB1
  clear hB1
  go_wp2_with fail
  refine (whole_any _ (s16 a) (by omega) (by omega)).mono ?_
  rintro e w2 ⟨bx, rfl, hbx, hI, hB⟩
  have X2 := hid hI
  have B2 := hid (B1.out.trans (hB.mono B1.out.size))
  clear hI hB B1
  go_wp2_with fail
  refine (S_any b w2 E1 E2).mono ?_
  rintro e w3 ⟨rfl, hB⟩
  have X3 := hid (X2.out.below hB (Nat.le_refl _))
  have B3 := hid (B2.out.trans (hB.mono B2.out.size))
  clear hB B2 X2
  go_wp2_with fail
  refine (whole_any _ (s16 b) (by omega) (by omega)).mono ?_
  rintro e w4 ⟨by_, rfl, hby, hI, hB⟩
  have Y4 := hid hI
  have X4 := hid (X3.out.below hB (Nat.le_refl _))
  have B4 := hid (B3.out.trans (hB.mono B3.out.size))
  clear hI hB B3 X3
  go_wp2_with fail
  refine (L_any a w4 A1 A2).mono ?_
  rintro e w5 ⟨rfl, hB⟩
  have X5 := hid (X4.out.below hB (Nat.le_refl _))
  have Y5 := hid (Y4.out.below hB (Nat.le_refl _))
  have B5 := hid (B4.out.trans (hB.mono B4.out.size))
  clear hB B4 X4 Y4
  go_wp2_with fail
  refine (whole_any _ (s32 a) (by omega) (by omega)).mono ?_
  rintro e w6 ⟨bp, rfl, hbp, hI, hB⟩
  have P6 := hid hI
  have X6 := hid (X5.out.below hB (Nat.le_refl _))
  have Y6 := hid (Y5.out.below hB (Nat.le_refl _))
  have B6 := hid (B5.out.trans (hB.mono B5.out.size))
  clear hI hB B5 X5 Y5
  go_wp2_with fail
  refine (L_any b w6 E1 E2).mono ?_
  rintro e w7 ⟨rfl, hB⟩
  have X7 := hid (X6.out.below hB (Nat.le_refl _))
  have Y7 := hid (Y6.out.below hB (Nat.le_refl _))
  have P7 := hid (P6.out.below hB (Nat.le_refl _))
  have B7 := hid (B6.out.trans (hB.mono B6.out.size))
  clear hB B6 X6 Y6 P6
  go_wp2_with fail
  refine (whole_any _ (s32 b) (by omega) (by omega)).mono ?_
  rintro e w8 ⟨bq, rfl, hbq, hI, hB⟩
  have lq := hI.lt
  have lx := (X7.out.below hB (Nat.le_refl _)).lt
  have ly := (Y7.out.below hB (Nat.le_refl _)).lt
  have lp := (P7.out.below hB (Nat.le_refl _)).lt
  have Q9 := hid (hI.below ((Below.refl w8.heap.size w8).alloc (Nat.le_refl _) (.cells #[.bool false, .slice none 0 0] 51)) (Nat.le_refl _))
  have X9 := hid ((X7.out.below hB (Nat.le_refl _)).below ((Below.refl w8.heap.size w8).alloc (Nat.le_refl _) (.cells #[.bool false, .slice none 0 0] 51)) (Nat.le_refl _))
  have Y9 := hid ((Y7.out.below hB (Nat.le_refl _)).below ((Below.refl w8.heap.size w8).alloc (Nat.le_refl _) (.cells #[.bool false, .slice none 0 0] 51)) (Nat.le_refl _))
  have P9 := hid ((P7.out.below hB (Nat.le_refl _)).below ((Below.refl w8.heap.size w8).alloc (Nat.le_refl _) (.cells #[.bool false, .slice none 0 0] 51)) (Nat.le_refl _))
  have hB8 := B7.out.trans (hB.mono B7.out.size)
  have h8 := hB8.size
  have B9 := hid (hB8.alloc h8 (.cells #[.bool false, .slice none 0 0] 51))
  have R9 := hid (IntBlk.new w8 (.bool false) (.slice none 0 0))
  clear hI hB B7 X7 Y7 P7 hB8 hbx hby hbp hbq
  go_wp2_with fail
  refine (NewInt_any _ 32768 (by omega) (by omega)).mono ?_
  rintro e w11 ⟨b3, rfl, hb3, hI3, hB3⟩
  have I3 := hid hI3
  have R3 := hid (R9.out.below hB3 (Nat.le_refl _))
  have P3 := hid (P9.out.below hB3 (Nat.le_refl _))
  have G3 := hid (B9.out.trans (hB3.mono B9.out.size))
  have hl3 := R3.out.lt
  simp at hb3
  clear hI3 hB3
  go_wp2_with fail
  refine (Add_far _ w8.heap.size bp b3 (s32 a) 32768 R3.out P3.out I3.out (sm_of_lt (by omega)) (sm_of_lt (by decide)) (by omega) (by omega)).mono ?_
  rintro e w9 ⟨rfl, hI, hG⟩
  have Z := hid hI
  have G := hid (below_of_grownBy G3.out hG h8)
  clear hI hG
  go_wp2_with fail
  refine (clip_any _ w8.heap.size (s32 a + 32768) 31 Z.out (sm_of_lt (by omega)) (by omega) (-2147483648) 2147483647 (by decide) (by decide)).mono ?_
  rintro e w10 ⟨rfl, hB⟩
  have B10 := hid (G.out.trans (hB.mono G.out.size))
  have hs10 := B10.out.size
  clear hB
  rw [show lim (-2147483648) 2147483647 (s32 a + 32768) = s32 (s32 a + 32768) from rfl, show limd (-2147483648) 2147483647 (s32 a + 32768) = d32 (s32 a + 32768) from rfl]
  go_wp2_with fail
  refine (whole_any _ (s32 (s32 a + 32768)) (by omega) (by omega)).mono ?_
  rintro e w12 ⟨b4, rfl, hb4, hI4, hB4⟩
  have I4 := hid hI4
  have N4 := hid (IntBlk.below (IntBlk.new w10 (.bool false) (.slice none 0 0)) hB4 (Nat.le_refl _))
  have B12 := hid ((B10.out.alloc hs10 _).trans (hB4.mono (by simp; omega)))
  clear hI4 hB4
  go_wp2_with fail
  refine (NewInt_any _ 65536 (by omega) (by omega)).mono ?_
  rintro e w13 ⟨b5, rfl, hb5, hI5, hB5⟩
  have I5 := hid hI5
  have I5' := hid (I4.out.below hB5 (Nat.le_refl _))
  have N5 := hid (N4.out.below hB5 (Nat.le_refl _))
  have B13 := hid (B12.out.trans (hB5.mono B12.out.size))
  clear hI5 hB5
  go_wp2_with fail
  refine (Div_any _ w10.heap.size b4 b5 (s32 (s32 a + 32768)) 65536 N5.out I5'.out I5.out (by omega) (by omega) (by omega)).mono ?_
  rintro e w14 ⟨rfl, hI, hG⟩
  have Z5 := hid hI
  have B14 := hid (below_of_grownBy B13.out hG hs10)
  clear hI hG
  go_wp2_with fail
  refine (Int64_any _ w10.heap.size (s32 (s32 a + 32768) / 65536) Z5.out (by omega) (by omega)).mono ?_
  rintro e w15 ⟨rfl, rfl⟩
  go_wp2
  go_ret2
  exact ⟨rfl, B14.out⟩
end Go.Proofs.Ytjgompeeigfdhaa
