/- The walk of the law BasicDoes. -/
import Derived.Test.YtjgompeeigfdhaaDoesW
namespace Go.Proofs.Ytjgompeeigfdhaa
set_option linter.unusedVariables false
set_option linter.unusedSimpArgs false
open Go.RowKit

set_option maxRecDepth 100000 in
theorem does0 (a b c : Int) (w : World) (E2 : b ≤ 9223372036854775807) : Calls Try.prog 18 #[.int .i64 0, .int .i64 a, .int .i64 b, .int .i64 c] w (Pair w (s16 (s16 a + s16 b)) (d16 (s16 a + s16 b))) := by
  have K := hid (Add_b a b w)
  obtain ⟨n, hn⟩ : ∃ n, n = s16 (s16 a + s16 b) := ⟨_, rfl⟩
  obtain ⟨d, hd⟩ : ∃ d, d = d16 (s16 a + s16 b) := ⟨_, rfl⟩
  rw [← hn, ← hd] at K ⊢
  clear hn hd
  go_enter Try.func18, Try.ntmps18
  go_wp2_with (go_at_call 20; refine K.out.mono ?_; rintro e w' ⟨rfl, rfl⟩)
  go_ret2
  exact ⟨rfl, rfl⟩

set_option maxRecDepth 100000 in
theorem does1 (a b c : Int) (w : World) (E2 : b ≤ 9223372036854775807) : Calls Try.prog 18 #[.int .i64 1, .int .i64 a, .int .i64 b, .int .i64 c] w (Pair w (s16 (s16 a - s16 b)) (d16 (s16 a - s16 b))) := by
  have K := hid (Sub_b a b w)
  obtain ⟨n, hn⟩ : ∃ n, n = s16 (s16 a - s16 b) := ⟨_, rfl⟩
  obtain ⟨d, hd⟩ : ∃ d, d = d16 (s16 a - s16 b) := ⟨_, rfl⟩
  rw [← hn, ← hd] at K ⊢
  clear hn hd
  go_enter Try.func18, Try.ntmps18
  go_wp2_with (go_at_call 42; refine K.out.mono ?_; rintro e w' ⟨rfl, rfl⟩)
  go_ret2
  exact ⟨rfl, rfl⟩

set_option maxRecDepth 100000 in
theorem does2 (a b c : Int) (w : World) (E2 : b ≤ 9223372036854775807) : Calls Try.prog 18 #[.int .i64 2, .int .i64 a, .int .i64 b, .int .i64 c] w (Pair w (s32 (s32 a + s32 b)) (d32 (s32 a + s32 b))) := by
  have K := hid (LAdd_b a b w)
  obtain ⟨n, hn⟩ : ∃ n, n = s32 (s32 a + s32 b) := ⟨_, rfl⟩
  obtain ⟨d, hd⟩ : ∃ d, d = d32 (s32 a + s32 b) := ⟨_, rfl⟩
  rw [← hn, ← hd] at K ⊢
  clear hn hd
  go_enter Try.func18, Try.ntmps18
  go_wp2_with (go_at_call 43; refine K.out.mono ?_; rintro e w' ⟨rfl, rfl⟩)
  go_ret2
  exact ⟨rfl, rfl⟩

set_option maxRecDepth 100000 in
theorem does3 (a b c : Int) (w : World) (E2 : b ≤ 9223372036854775807) : Calls Try.prog 18 #[.int .i64 3, .int .i64 a, .int .i64 b, .int .i64 c] w (Pair w (s32 (s32 a - s32 b)) (d32 (s32 a - s32 b))) := by
  have K := hid (LSub_b a b w)
  obtain ⟨n, hn⟩ : ∃ n, n = s32 (s32 a - s32 b) := ⟨_, rfl⟩
  obtain ⟨d, hd⟩ : ∃ d, d = d32 (s32 a - s32 b) := ⟨_, rfl⟩
  rw [← hn, ← hd] at K ⊢
  clear hn hd
  go_enter Try.func18, Try.ntmps18
  go_wp2_with (go_at_call 44; refine K.out.mono ?_; rintro e w' ⟨rfl, rfl⟩)
  go_ret2
  exact ⟨rfl, rfl⟩

set_option maxRecDepth 100000 in
theorem does4 (a b c : Int) (w : World) (E2 : b ≤ 9223372036854775807) : Calls Try.prog 18 #[.int .i64 4, .int .i64 a, .int .i64 b, .int .i64 c] w (Pair w (s16 (-s16 a)) (d16 (-s16 a))) := by
  have K := hid (Neg_b a w)
  obtain ⟨n, hn⟩ : ∃ n, n = s16 (-s16 a) := ⟨_, rfl⟩
  obtain ⟨d, hd⟩ : ∃ d, d = d16 (-s16 a) := ⟨_, rfl⟩
  rw [← hn, ← hd] at K ⊢
  clear hn hd
  go_enter Try.func18, Try.ntmps18
  go_wp2_with (go_at_call 45; refine K.out.mono ?_; rintro e w' ⟨rfl, rfl⟩)
  go_ret2
  exact ⟨rfl, rfl⟩

set_option maxRecDepth 100000 in
theorem does5 (a b c : Int) (w : World) (E2 : b ≤ 9223372036854775807) : Calls Try.prog 18 #[.int .i64 5, .int .i64 a, .int .i64 b, .int .i64 c] w (Pair w (absN a) (absD a)) := by
  have K := hid (Abs_b a w)
  obtain ⟨n, hn⟩ : ∃ n, n = absN a := ⟨_, rfl⟩
  obtain ⟨d, hd⟩ : ∃ d, d = absD a := ⟨_, rfl⟩
  rw [← hn, ← hd] at K ⊢
  clear hn hd
  go_enter Try.func18, Try.ntmps18
  go_wp2_with (go_at_call 46; refine K.out.mono ?_; rintro e w' ⟨rfl, rfl⟩)
  go_ret2
  exact ⟨rfl, rfl⟩

set_option maxRecDepth 100000 in
theorem does6 (a b c : Int) (w : World) (E2 : b ≤ 9223372036854775807) : Calls Try.prog 18 #[.int .i64 6, .int .i64 a, .int .i64 b, .int .i64 c] w (Pair w (s16 (s16 a * s16 b / 32768)) (d16 (s16 a * s16 b / 32768))) := by
  have K := hid (Mult_b a b w)
  obtain ⟨n, hn⟩ : ∃ n, n = s16 (s16 a * s16 b / 32768) := ⟨_, rfl⟩
  obtain ⟨d, hd⟩ : ∃ d, d = d16 (s16 a * s16 b / 32768) := ⟨_, rfl⟩
  rw [← hn, ← hd] at K ⊢
  clear hn hd
  go_enter Try.func18, Try.ntmps18
  go_wp2_with (go_at_call 47; refine K.out.mono ?_; rintro e w' ⟨rfl, rfl⟩)
  go_ret2
  exact ⟨rfl, rfl⟩

set_option maxRecDepth 100000 in
theorem does7 (a b c : Int) (w : World) (E2 : b ≤ 9223372036854775807) : Calls Try.prog 18 #[.int .i64 7, .int .i64 a, .int .i64 b, .int .i64 c] w (Pair w (s32 (2 * s16 a * s16 b)) (d32 (2 * s16 a * s16 b))) := by
  have K := hid (LMult_b a b w)
  obtain ⟨n, hn⟩ : ∃ n, n = s32 (2 * s16 a * s16 b) := ⟨_, rfl⟩
  obtain ⟨d, hd⟩ : ∃ d, d = d32 (2 * s16 a * s16 b) := ⟨_, rfl⟩
  rw [← hn, ← hd] at K ⊢
  clear hn hd
  go_enter Try.func18, Try.ntmps18
  go_wp2_with (go_at_call 48; refine K.out.mono ?_; rintro e w' ⟨rfl, rfl⟩)
  go_ret2
  exact ⟨rfl, rfl⟩

set_option maxRecDepth 100000 in
theorem does8 (a b c : Int) (w : World) (E2 : b ≤ 9223372036854775807) : Calls Try.prog 18 #[.int .i64 8, .int .i64 a, .int .i64 b, .int .i64 c] w (Pair w (s32 (s32 a + s32 (s32 (2 * s16 b * s16 c)))) ((d32 (2 * s16 b * s16 c) || d32 (s32 a + s32 (s32 (2 * s16 b * s16 c)))))) := by
  have K := hid (LMac_b a b c w)
  obtain ⟨n, hn⟩ : ∃ n, n = s32 (s32 a + s32 (s32 (2 * s16 b * s16 c))) := ⟨_, rfl⟩
  obtain ⟨d, hd⟩ : ∃ d, d = (d32 (2 * s16 b * s16 c) || d32 (s32 a + s32 (s32 (2 * s16 b * s16 c)))) := ⟨_, rfl⟩
  rw [← hn, ← hd] at K ⊢
  clear hn hd
  go_enter Try.func18, Try.ntmps18
  go_wp2_with (go_at_call 49; refine K.out.mono ?_; rintro e w' ⟨rfl, rfl⟩)
  go_ret2
  exact ⟨rfl, rfl⟩

set_option maxRecDepth 100000 in
theorem does9 (a b c : Int) (w : World) (E2 : b ≤ 9223372036854775807) : Calls Try.prog 18 #[.int .i64 9, .int .i64 a, .int .i64 b, .int .i64 c] w (Pair w (s32 (s32 a - s32 (s32 (2 * s16 b * s16 c)))) ((d32 (2 * s16 b * s16 c) || d32 (s32 a - s32 (s32 (2 * s16 b * s16 c)))))) := by
  have K := hid (LMsu_b a b c w)
  obtain ⟨n, hn⟩ : ∃ n, n = s32 (s32 a - s32 (s32 (2 * s16 b * s16 c))) := ⟨_, rfl⟩
  obtain ⟨d, hd⟩ : ∃ d, d = (d32 (2 * s16 b * s16 c) || d32 (s32 a - s32 (s32 (2 * s16 b * s16 c)))) := ⟨_, rfl⟩
  rw [← hn, ← hd] at K ⊢
  clear hn hd
  go_enter Try.func18, Try.ntmps18
  go_wp2_with (go_at_call 50; refine K.out.mono ?_; rintro e w' ⟨rfl, rfl⟩)
  go_ret2
  exact ⟨rfl, rfl⟩

set_option maxRecDepth 100000 in
theorem does10 (a b c : Int) (w : World) (E2 : b ≤ 9223372036854775807) : Calls Try.prog 18 #[.int .i64 10, .int .i64 a, .int .i64 b, .int .i64 c] w (Pair w (s16 (shiftZ (s16 a) (max b (-40)))) (d16 (shiftZ (s16 a) (max b (-40))))) := by
  have K := hid (Shl_b a b w (by omega))
  obtain ⟨n, hn⟩ : ∃ n, n = s16 (shiftZ (s16 a) (max b (-40))) := ⟨_, rfl⟩
  obtain ⟨d, hd⟩ : ∃ d, d = d16 (shiftZ (s16 a) (max b (-40))) := ⟨_, rfl⟩
  rw [← hn, ← hd] at K ⊢
  clear hn hd
  go_enter Try.func18, Try.ntmps18
  go_wp2_with (go_at_call 51; refine K.out.mono ?_; rintro e w' ⟨rfl, rfl⟩)
  go_ret2
  exact ⟨rfl, rfl⟩

set_option maxRecDepth 100000 in
theorem does11 (a b c : Int) (w : World) (E2 : b ≤ 9223372036854775807) : Calls Try.prog 18 #[.int .i64 11, .int .i64 a, .int .i64 b, .int .i64 c] w (Pair w (s16 (shiftZ (s16 a) (max (-max b (-40)) (-40)))) (d16 (shiftZ (s16 a) (max (-max b (-40)) (-40))))) := by
  have K := hid (Shr_b a b w (by omega))
  obtain ⟨n, hn⟩ : ∃ n, n = s16 (shiftZ (s16 a) (max (-max b (-40)) (-40))) := ⟨_, rfl⟩
  obtain ⟨d, hd⟩ : ∃ d, d = d16 (shiftZ (s16 a) (max (-max b (-40)) (-40))) := ⟨_, rfl⟩
  rw [← hn, ← hd] at K ⊢
  clear hn hd
  go_enter Try.func18, Try.ntmps18
  go_wp2_with (go_at_call 52; refine K.out.mono ?_; rintro e w' ⟨rfl, rfl⟩)
  go_ret2
  exact ⟨rfl, rfl⟩

set_option maxRecDepth 100000 in
theorem does12 (a b c : Int) (w : World) (E2 : b ≤ 9223372036854775807) : Calls Try.prog 18 #[.int .i64 12, .int .i64 a, .int .i64 b, .int .i64 c] w (Pair w (s32 (shiftZ (s32 a) (max b (-40)))) (d32 (shiftZ (s32 a) (max b (-40))))) := by
  have K := hid (LShl_b a b w (by omega))
  obtain ⟨n, hn⟩ : ∃ n, n = s32 (shiftZ (s32 a) (max b (-40))) := ⟨_, rfl⟩
  obtain ⟨d, hd⟩ : ∃ d, d = d32 (shiftZ (s32 a) (max b (-40))) := ⟨_, rfl⟩
  rw [← hn, ← hd] at K ⊢
  clear hn hd
  go_enter Try.func18, Try.ntmps18
  go_wp2_with (go_at_call 53; refine K.out.mono ?_; rintro e w' ⟨rfl, rfl⟩)
  go_ret2
  exact ⟨rfl, rfl⟩

set_option maxRecDepth 100000 in
theorem does13 (a b c : Int) (w : World) (E2 : b ≤ 9223372036854775807) : Calls Try.prog 18 #[.int .i64 13, .int .i64 a, .int .i64 b, .int .i64 c] w (Pair w (s32 (shiftZ (s32 a) (max (-max b (-40)) (-40)))) (d32 (shiftZ (s32 a) (max (-max b (-40)) (-40))))) := by
  have K := hid (LShr_b a b w (by omega))
  obtain ⟨n, hn⟩ : ∃ n, n = s32 (shiftZ (s32 a) (max (-max b (-40)) (-40))) := ⟨_, rfl⟩
  obtain ⟨d, hd⟩ : ∃ d, d = d32 (shiftZ (s32 a) (max (-max b (-40)) (-40))) := ⟨_, rfl⟩
  rw [← hn, ← hd] at K ⊢
  clear hn hd
  go_enter Try.func18, Try.ntmps18
  go_wp2_with (go_at_call 54; refine K.out.mono ?_; rintro e w' ⟨rfl, rfl⟩)
  go_ret2
  exact ⟨rfl, rfl⟩

set_option maxRecDepth 100000 in
theorem does14 (a b c : Int) (w : World) (E2 : b ≤ 9223372036854775807) : Calls Try.prog 18 #[.int .i64 14, .int .i64 a, .int .i64 b, .int .i64 c] w (Pair w (s32 (s32 a + 32768) / 65536) (d32 (s32 a + 32768))) := by
  have K := hid (Round_b a w)
  obtain ⟨n, hn⟩ : ∃ n, n = s32 (s32 a + 32768) / 65536 := ⟨_, rfl⟩
  obtain ⟨d, hd⟩ : ∃ d, d = d32 (s32 a + 32768) := ⟨_, rfl⟩
  rw [← hn, ← hd] at K ⊢
  clear hn hd
  go_enter Try.func18, Try.ntmps18
  go_wp2_with (go_at_call 55; refine K.out.mono ?_; rintro e w' ⟨rfl, rfl⟩)
  go_ret2
  exact ⟨rfl, rfl⟩

set_option maxRecDepth 100000 in
set_option maxHeartbeats 8000000 in
theorem refDoes8 (a b c : Int) (w : World) (A1 : -9223372036854775808 ≤ a) (A2 : a ≤ 9223372036854775807) (E1 : -9223372036854775808 ≤ b) (E2 : b ≤ 9223372036854775807) (F1 : -9223372036854775808 ≤ c) (F2 : c ≤ 9223372036854775807) :
    Calls Try.prog 19 #[.int .i64 8, .int .i64 a, .int .i64 b, .int .i64 c] w (Dos w (s32 (s32 a + s32 (s32 (2 * s16 b * s16 c)))) ((d32 (2 * s16 b * s16 c) || d32 (s32 a + s32 (s32 (2 * s16 b * s16 c)))))) := by
  have ra := s16_range a
  have rb := s16_range b
  have la := s32_range a
  have lb := s32_range b
  have rm := s32_range (2 * s16 b * s16 c)
  obtain ⟨m, hm⟩ : ∃ m, m = s32 (2 * s16 b * s16 c) := ⟨_, rfl⟩
  have K7 := fun w1 => refDoes7 b c 0 w1 E1 E2 F1 F2
  rw [← hm] at K7 rm ⊢
  generalize d32 (2 * s16 b * s16 c) = t at K7 ⊢
  have K2 := hid (fun w1 => refDoes2 a m 0 w1 A1 A2 (by omega) (by omega))
  have K7 := hid K7
  clear hm
  go_enter Try.func19, Try.ntmps19
  go_wp2_with fail
  refine (S_any a w A1 A2).mono ?_
  rintro e w1 ⟨rfl, hB1⟩
  have B1 := hid hB1
  clear hB1
  go_wp2_with fail
  refine (whole_any _ (s16 a) (by omega) (by omega)).mono ?_
  rintro e w2 ⟨bx, rfl, hbx, hI, hB⟩
  have X2 := hid hI
  have B2 := hid (B1.out.trans (hB.mono B1.out.size))
  clear hI hB B1
  go_wp2_with fail
  refine (S_any b w2 E1 E2).mono ?_
  rintro e w3 ⟨rfl, hB⟩
  have X3 := hid (X2.out.below hB (Nat.le_refl _))
  have B3 := hid (B2.out.trans (hB.mono B2.out.size))
  clear hB B2 X2
  go_wp2_with fail
  refine (whole_any _ (s16 b) (by omega) (by omega)).mono ?_
  rintro e w4 ⟨by_, rfl, hby, hI, hB⟩
  have Y4 := hid hI
  have X4 := hid (X3.out.below hB (Nat.le_refl _))
  have B4 := hid (B3.out.trans (hB.mono B3.out.size))
  clear hI hB B3 X3
  go_wp2_with fail
  refine (L_any a w4 A1 A2).mono ?_
  rintro e w5 ⟨rfl, hB⟩
  have X5 := hid (X4.out.below hB (Nat.le_refl _))
  have Y5 := hid (Y4.out.below hB (Nat.le_refl _))
  have B5 := hid (B4.out.trans (hB.mono B4.out.size))
  clear hB B4 X4 Y4
  go_wp2_with fail
  refine (whole_any _ (s32 a) (by omega) (by omega)).mono ?_
  rintro e w6 ⟨bp, rfl, hbp, hI, hB⟩
  have P6 := hid hI
  have X6 := hid (X5.out.below hB (Nat.le_refl _))
  have Y6 := hid (Y5.out.below hB (Nat.le_refl _))
  have B6 := hid (B5.out.trans (hB.mono B5.out.size))
  clear hI hB B5 X5 Y5
  go_wp2_with fail
  refine (L_any b w6 E1 E2).mono ?_
  rintro e w7 ⟨rfl, hB⟩
  have X7 := hid (X6.out.below hB (Nat.le_refl _))
  have Y7 := hid (Y6.out.below hB (Nat.le_refl _))
  have P7 := hid (P6.out.below hB (Nat.le_refl _))
  have B7 := hid (B6.out.trans (hB.mono B6.out.size))
  clear hB B6 X6 Y6 P6
  go_wp2_with fail
  refine (whole_any _ (s32 b) (by omega) (by omega)).mono ?_
  rintro e w8 ⟨bq, rfl, hbq, hI, hB⟩
  have lq := hI.lt
  have lx := (X7.out.below hB (Nat.le_refl _)).lt
  have ly := (Y7.out.below hB (Nat.le_refl _)).lt
  have lp := (P7.out.below hB (Nat.le_refl _)).lt
  have Q9 := hid (hI.below ((Below.refl w8.heap.size w8).alloc (Nat.le_refl _) (.cells #[.bool false, .slice none 0 0] 51)) (Nat.le_refl _))
  have X9 := hid ((X7.out.below hB (Nat.le_refl _)).below ((Below.refl w8.heap.size w8).alloc (Nat.le_refl _) (.cells #[.bool false, .slice none 0 0] 51)) (Nat.le_refl _))
  have Y9 := hid ((Y7.out.below hB (Nat.le_refl _)).below ((Below.refl w8.heap.size w8).alloc (Nat.le_refl _) (.cells #[.bool false, .slice none 0 0] 51)) (Nat.le_refl _))
  have P9 := hid ((P7.out.below hB (Nat.le_refl _)).below ((Below.refl w8.heap.size w8).alloc (Nat.le_refl _) (.cells #[.bool false, .slice none 0 0] 51)) (Nat.le_refl _))
  have hB8 := B7.out.trans (hB.mono B7.out.size)
  have h8 := hB8.size
  have B9 := hid (hB8.alloc h8 (.cells #[.bool false, .slice none 0 0] 51))
  have R9 := hid (IntBlk.new w8 (.bool false) (.slice none 0 0))
  clear hI hB B7 X7 Y7 P7 hB8 hbx hby hbp hbq
  go_wp2_with fail
  refine (K7.out _).mono ?_
  rintro e w9 ⟨rfl, hB⟩
  have G := hid (B9.out.trans (hB.mono B9.out.size))
  clear hB
  go_wp2_with fail
  refine (K2.out _).mono ?_
  rintro e w10 ⟨rfl, hB⟩
  have G2 := hid (G.out.trans (hB.mono G.out.size))
  clear hB
  cases t
  all_goals
    go_wp2
    go_ret2
    exact ⟨by simp, G2.out⟩

set_option maxRecDepth 100000 in
set_option maxHeartbeats 8000000 in
theorem refDoes9 (a b c : Int) (w : World) (A1 : -9223372036854775808 ≤ a) (A2 : a ≤ 9223372036854775807) (E1 : -9223372036854775808 ≤ b) (E2 : b ≤ 9223372036854775807) (F1 : -9223372036854775808 ≤ c) (F2 : c ≤ 9223372036854775807) :
    Calls Try.prog 19 #[.int .i64 9, .int .i64 a, .int .i64 b, .int .i64 c] w (Dos w (s32 (s32 a - s32 (s32 (2 * s16 b * s16 c)))) ((d32 (2 * s16 b * s16 c) || d32 (s32 a - s32 (s32 (2 * s16 b * s16 c)))))) := by
  have ra := s16_range a
  have rb := s16_range b
  have la := s32_range a
  have lb := s32_range b
  have rm := s32_range (2 * s16 b * s16 c)
  obtain ⟨m, hm⟩ : ∃ m, m = s32 (2 * s16 b * s16 c) := ⟨_, rfl⟩
  have K7 := fun w1 => refDoes7 b c 0 w1 E1 E2 F1 F2
  rw [← hm] at K7 rm ⊢
  generalize d32 (2 * s16 b * s16 c) = t at K7 ⊢
  have K2 := hid (fun w1 => refDoes3 a m 0 w1 A1 A2 (by omega) (by omega))
  have K7 := hid K7
  clear hm
  go_enter Try.func19, Try.ntmps19
  go_wp2_with fail
  refine (S_any a w A1 A2).mono ?_
  rintro e w1 ⟨rfl, hB1⟩
  have B1 := hid hB1
  clear hB1
  go_wp2_with fail
  refine (whole_any _ (s16 a) (by omega) (by omega)).mono ?_
  rintro e w2 ⟨bx, rfl, hbx, hI, hB⟩
  have X2 := hid hI
  have B2 := hid (B1.out.trans (hB.mono B1.out.size))
  clear hI hB B1
  go_wp2_with fail
  refine (S_any b w2 E1 E2).mono ?_
  rintro e w3 ⟨rfl, hB⟩
  have X3 := hid (X2.out.below hB (Nat.le_refl _))
  have B3 := hid (B2.out.trans (hB.mono B2.out.size))
  clear hB B2 X2
  go_wp2_with fail
  refine (whole_any _ (s16 b) (by omega) (by omega)).mono ?_
  rintro e w4 ⟨by_, rfl, hby, hI, hB⟩
  have Y4 := hid hI
  have X4 := hid (X3.out.below hB (Nat.le_refl _))
  have B4 := hid (B3.out.trans (hB.mono B3.out.size))
  clear hI hB B3 X3
  go_wp2_with fail
  refine (L_any a w4 A1 A2).mono ?_
  rintro e w5 ⟨rfl, hB⟩
  have X5 := hid (X4.out.below hB (Nat.le_refl _))
  have Y5 := hid (Y4.out.below hB (Nat.le_refl _))
  have B5 := hid (B4.out.trans (hB.mono B4.out.size))
  clear hB B4 X4 Y4
  go_wp2_with fail
  refine (whole_any _ (s32 a) (by omega) (by omega)).mono ?_
  rintro e w6 ⟨bp, rfl, hbp, hI, hB⟩
  have P6 := hid hI
  have X6 := hid (X5.out.below hB (Nat.le_refl _))
  have Y6 := hid (Y5.out.below hB (Nat.le_refl _))
  have B6 := hid (B5.out.trans (hB.mono B5.out.size))
  clear hI hB B5 X5 Y5
  go_wp2_with fail
  refine (L_any b w6 E1 E2).mono ?_
  rintro e w7 ⟨rfl, hB⟩
  have X7 := hid (X6.out.below hB (Nat.le_refl _))
  have Y7 := hid (Y6.out.below hB (Nat.le_refl _))
  have P7 := hid (P6.out.below hB (Nat.le_refl _))
  have B7 := hid (B6.out.trans (hB.mono B6.out.size))
  clear hB B6 X6 Y6 P6
  go_wp2_with fail
  refine (whole_any _ (s32 b) (by omega) (by omega)).mono ?_
  rintro e w8 ⟨bq, rfl, hbq, hI, hB⟩
  have lq := hI.lt
  have lx := (X7.out.below hB (Nat.le_refl _)).lt
  have ly := (Y7.out.below hB (Nat.le_refl _)).lt
  have lp := (P7.out.below hB (Nat.le_refl _)).lt
  have Q9 := hid (hI.below ((Below.refl w8.heap.size w8).alloc (Nat.le_refl _) (.cells #[.bool false, .slice none 0 0] 51)) (Nat.le_refl _))
  have X9 := hid ((X7.out.below hB (Nat.le_refl _)).below ((Below.refl w8.heap.size w8).alloc (Nat.le_refl _) (.cells #[.bool false, .slice none 0 0] 51)) (Nat.le_refl _))
  have Y9 := hid ((Y7.out.below hB (Nat.le_refl _)).below ((Below.refl w8.heap.size w8).alloc (Nat.le_refl _) (.cells #[.bool false, .slice none 0 0] 51)) (Nat.le_refl _))
  have P9 := hid ((P7.out.below hB (Nat.le_refl _)).below ((Below.refl w8.heap.size w8).alloc (Nat.le_refl _) (.cells #[.bool false, .slice none 0 0] 51)) (Nat.le_refl _))
  have hB8 := B7.out.trans (hB.mono B7.out.size)
  have h8 := hB8.size
  have B9 := hid (hB8.alloc h8 (.cells #[.bool false, .slice none 0 0] 51))
  have R9 := hid (IntBlk.new w8 (.bool false) (.slice none 0 0))
  clear hI hB B7 X7 Y7 P7 hB8 hbx hby hbp hbq
  go_wp2_with fail
  refine (K7.out _).mono ?_
  rintro e w9 ⟨rfl, hB⟩
  have G := hid (B9.out.trans (hB.mono B9.out.size))
  clear hB
  go_wp2_with fail
  refine (K2.out _).mono ?_
  rintro e w10 ⟨rfl, hB⟩
  have G2 := hid (G.out.trans (hB.mono G.out.size))
  clear hB
  cases t
  all_goals
    go_wp2
    go_ret2
    exact ⟨by simp, G2.out⟩

/-- Both sides answer one and the same, whatever the operation. -/
theorem both_do (k a b c : Int) (w : World) (hk : 0 ≤ k ∧ k ≤ 14) (A1 : -9223372036854775808 ≤ a) (A2 : a ≤ 9223372036854775807) (E1 : -9223372036854775808 ≤ b) (E2 : b ≤ 9223372036854775807) (F1 : -9223372036854775808 ≤ c) (F2 : c ≤ 9223372036854775807) :
    ∃ n d, Calls Try.prog 18 #[.int .i64 k, .int .i64 a, .int .i64 b, .int .i64 c] w (Pair w n d) ∧ Calls Try.prog 19 #[.int .i64 k, .int .i64 a, .int .i64 b, .int .i64 c] w (Dos w n d) := by
  rcases (show k = 0 ∨ k = 1 ∨ k = 2 ∨ k = 3 ∨ k = 4 ∨ k = 5 ∨ k = 6 ∨ k = 7 ∨ k = 8 ∨ k = 9 ∨ k = 10 ∨ k = 11 ∨ k = 12 ∨ k = 13 ∨ k = 14 by omega) with rfl | rfl | rfl | rfl | rfl | rfl | rfl | rfl | rfl | rfl | rfl | rfl | rfl | rfl | rfl
  · exact ⟨_, _, does0 a b c w E2, refDoes0 a b c w A1 A2 E1 E2⟩
  · exact ⟨_, _, does1 a b c w E2, refDoes1 a b c w A1 A2 E1 E2⟩
  · exact ⟨_, _, does2 a b c w E2, refDoes2 a b c w A1 A2 E1 E2⟩
  · exact ⟨_, _, does3 a b c w E2, refDoes3 a b c w A1 A2 E1 E2⟩
  · exact ⟨_, _, does4 a b c w E2, refDoes4 a b c w A1 A2 E1 E2⟩
  · exact ⟨_, _, does5 a b c w E2, refDoes5 a b c w A1 A2 E1 E2⟩
  · exact ⟨_, _, does6 a b c w E2, refDoes6 a b c w A1 A2 E1 E2⟩
  · exact ⟨_, _, does7 a b c w E2, refDoes7 a b c w A1 A2 E1 E2⟩
  · exact ⟨_, _, does8 a b c w E2, refDoes8 a b c w A1 A2 E1 E2 F1 F2⟩
  · exact ⟨_, _, does9 a b c w E2, refDoes9 a b c w A1 A2 E1 E2 F1 F2⟩
  · exact ⟨_, _, does10 a b c w E2, refDoes10 a b c w A1 A2 E1 E2⟩
  · exact ⟨_, _, does11 a b c w E2, refDoes11 a b c w A1 A2 E1 E2⟩
  · exact ⟨_, _, does12 a b c w E2, refDoes12 a b c w A1 A2 E1 E2⟩
  · exact ⟨_, _, does13 a b c w E2, refDoes13 a b c w A1 A2 E1 E2⟩
  · exact ⟨_, _, does14 a b c w E2, refDoes14 a b c w A1 A2 E1 E2⟩

set_option maxHeartbeats 1000000 in
theorem walkBasicDoes (a0 : Int) (a1 : Int) (a2 : Int) (a3 : Int) (w0 : (Lit.int .i64 a0).wf = true) (w1 : (Lit.int .i64 a1).wf = true) (w2 : (Lit.int .i64 a2).wf = true) (w3 : (Lit.int .i64 a3).wf = true) (w : World) : Calls Try.prog 5 #[.int .i64 a0, .int .i64 a1, .int .i64 a2, .int .i64 a3] w fun e w' => e = .returned (.bool true) ∧ Below w.heap.size w w' := by
  simp only [Lit.wf, Bool.and_eq_true, decide_eq_true_eq] at w1 w2 w3
  have h1 : -15 < a0.tmod 15 ∧ a0.tmod 15 < 15 := ⟨Int.lt_tmod_of_pos a0 (by omega), Int.tmod_lt_of_pos a0 (by omega)⟩
  obtain ⟨n, d, hp, hr⟩ := both_do (a0.tmod 15 % 15) a1 a2 a3 w (by omega) w1.1 w1.2 w2.1 w2.2 w3.1 w3.2
  have HP := hid hp
  have HR := hid hr
  have K5 := hid (fun w1 => Add_b 2 3 w1)
  rw [show s16 (s16 2 + s16 3) = 5 from by decide] at K5
  clear hp hr w0 w1 w2 w3
  cases d
  all_goals
    go_enter Try.func5, Try.ntmps5
    go_wp2_with fail
    refine HP.out.mono ?_
    rintro e w1 ⟨rfl, rfl⟩
    go_wp2_with fail
    refine HR.out.mono ?_
    rintro e w1 ⟨rfl, hB⟩
    have q1 := hid hB
    clear hB
    go_wp2_with fail
    refine (K5.out _).mono ?_
    rintro e w2 ⟨rfl, rfl⟩
    go_wp2
    go_ret
    exact ⟨by simp, q1.out⟩
end Go.Proofs.Ytjgompeeigfdhaa
