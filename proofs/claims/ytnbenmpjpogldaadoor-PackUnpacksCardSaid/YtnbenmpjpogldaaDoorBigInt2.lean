/- The walks of SetInt64, NewInt, Uint64, Int64, Sign, Abs, Rsh. -/
import Derived.Test.YtnbenmpjpogldaaDoorBigInt
namespace Go.Proofs.YtnbenmpjpogldaaDoor
set_option linter.unusedVariables false
set_option linter.unusedSimpArgs false
set_option maxRecDepth 100000
open Go.RowKit

theorem sm_of_lt {n : Nat} (h : n < 340282366920938463463374607431768211456) : Sm n := by
  have : (340282366920938463463374607431768211456 : Nat) = 4294967296 ^ 4 := rfl
  have h2 : (4294967296 : Nat) ^ 4 ≤ 4294967296 ^ 60 := Nat.pow_le_pow_right (by decide) (by decide)
  unfold Sm; omega

theorem u64_neg {x : Int} (h1 : -9223372036854775808 ≤ x) (h2 : x < 0) : IntKind.u64.wrap (-(IntKind.u64.wrap x)) = -x := by
  have e : ∀ z, IntKind.u64.wrap z = z % 18446744073709551616 := by intro z; simp [IntKind.wrap, IntKind.signed, IntKind.bits]
  rw [e, e]; omega

set_option maxHeartbeats 1000000 in
theorem SetInt64_any (w : World) (b : Nat) (x : Int) (hb : IntBlk w b) (h1 : -9223372036854775808 ≤ x) (h2 : x ≤ 9223372036854775807) :
    Calls Tryd.prog 43 #[.pointer (some ⟨b, 0, none⟩), .int .i64 x] w (Gives w b x) := by
  have HB := hid hb
  clear hb
  have fin : ∀ w1 w2 v, GivesNm w x.natAbs (.returned v) w1 → Gives w1 b (sgn (decide (x < 0)) x.natAbs) (.returned (.pointer (some ⟨b, 0, none⟩))) w2 → Gives w b x (.returned (.pointer (some ⟨b, 0, none⟩))) w2 := by
    rintro w1 w2 v ⟨_, hbel⟩ ⟨_, hI, hG⟩
    rw [sgn_self] at hI
    exact ⟨rfl, hI, grownBy_trans (grownBy_of_below hbel (Nat.le_refl _) _) hG⟩
  have FIN := hid fin
  clear fin
  by_cases h0 : x < 0
  · have hw := u64_neg h1 h0
    have HW := hid hw
    clear hw
    go_enter Tryd.func43, Tryd.ntmps43
    go_wp2_with fail
    rw [HW.out]
    refine (words_any _ (-x) (by omega) (by omega)).mono ?_
    rintro e w1 ⟨⟨v', rfl, hnm⟩, hbel⟩
    rw [show (-x).toNat = x.natAbs from by omega] at hnm
    have q1 := hid hbel
    have q2 := hid hnm
    clear hnm hbel
    go_wp2_with (go_at_call 31; refine (give_any _ b _ _ x.natAbs (HB.out.below q1.out (Nat.le_refl _)) q2.out).mono ?_; rintro e w2 ⟨rfl, hI, hG⟩)
    go_ret
    refine FIN.out _ _ _ ⟨⟨_, rfl, q2.out⟩, q1.out⟩ ⟨rfl, ?_, hG⟩
    have hd : decide (x < 0) = true := by simpa using h0
    rw [hd]; exact hI
  · go_enter Tryd.func43, Tryd.ntmps43
    go_wp2_with (first
      | (go_at_call 37; refine (words_any _ x (by omega) (by omega)).mono ?_; rintro e w1 ⟨⟨v', rfl, hnm⟩, hbel⟩; have q1 := hid hbel; have q2 := hid hnm; clear hnm hbel)
      | (go_at_call 31; refine (give_any _ b _ _ x.toNat (HB.out.below q1.out (Nat.le_refl _)) q2.out).mono ?_; rintro e w2 ⟨rfl, hI, hG⟩))
    go_ret
    have e0 : x.toNat = x.natAbs := by omega
    rw [e0] at hI
    refine FIN.out _ _ _ ⟨⟨_, rfl, by rw [← e0]; exact q2.out⟩, q1.out⟩ ⟨rfl, ?_, hG⟩
    have hd : decide (x < 0) = false := by simp; omega
    rw [hd]; exact hI

/-- What a function answers that makes an Int in new memory. -/
def NewI (w : World) (z : Int) (e : Ending) (w' : World) : Prop := ∃ b, e = .returned (.pointer (some ⟨b, 0, none⟩)) ∧ w.heap.size ≤ b ∧ IntAt w' b z ∧ Below w.heap.size w w'

theorem IntBlk.new (w : World) (x y : Value) : IntBlk (w.alloc (.cells #[x, y] 54)) w.heap.size := ⟨x, y, heap_alloc_new w _⟩

set_option maxHeartbeats 1000000 in
theorem NewInt_any (w : World) (x : Int) (h1 : -9223372036854775808 ≤ x) (h2 : x ≤ 9223372036854775807) :
    Calls Tryd.prog 34 #[.int .i64 x] w (NewI w x) := by
  go_enter Tryd.func34, Tryd.ntmps34
  go_wp2_with (go_at_call 43; refine (SetInt64_any _ w.heap.size x (IntBlk.new w _ _) h1 h2).mono ?_; rintro e w1 ⟨rfl, hI, hG⟩)
  go_ret
  exact ⟨w.heap.size, rfl, Nat.le_refl _, hI, below_of_grownBy ((Below.refl _ _).alloc (Nat.le_refl _) _) hG (Nat.le_refl _)⟩

theorem Nm.cells {w : World} {v : Value} {n : Nat} (h : Nm w v n) (hn : n < 18446744073709551616) :
    ∃ ao len cap, v = .slice ao len cap ∧ ((len = 0 ∧ n = 0) ∨ (∃ g off, len = 1 ∧ ao = some ⟨g, off, none⟩ ∧ n < 4294967296 ∧ w.cell? ⟨g, off, none⟩ = some (.int .u32 (n : Nat))) ∨
      (∃ g off lo hi, len = 2 ∧ ao = some ⟨g, off, none⟩ ∧ lo < 4294967296 ∧ hi < 4294967296 ∧ n = lo + 4294967296 * hi ∧ w.cell? ⟨g, off, none⟩ = some (.int .u32 (lo : Nat)) ∧ w.cell? ⟨g, off + 1, none⟩ = some (.int .u32 (hi : Nat)))) := by
  obtain ⟨ao, len, cap, ws, rfl, hr, ht, rfl⟩ := h
  have hl : ws.length ≤ 2 := len_le_of_lt ht (n := 2) (by simpa using hn)
  have hlen := hr.len
  refine ⟨ao, len, cap, rfl, ?_⟩
  match ws, hlen, hr, ht, hn, hl with
  | [], hlen, hr, ht, hn, hl => exact .inl ⟨by simpa using hlen.symm, rfl⟩
  | [a], hlen, hr, ht, hn, hl =>
    obtain rfl : len = 1 := by simpa using hlen.symm
    obtain ⟨g, off, rfl⟩ := hr.addr (by omega)
    have hc := hr.cell 0 (by omega)
    have ha := (wok_cons.1 hr.ok).1
    exact .inr (.inl ⟨g, off, rfl, rfl, by simpa [wv] using ha, by simpa [wv] using hc⟩)
  | [a, b], hlen, hr, ht, hn, hl =>
    obtain rfl : len = 2 := by simpa using hlen.symm
    obtain ⟨g, off, rfl⟩ := hr.addr (by omega)
    have hc := hr.cell 0 (by omega)
    have hc1 := hr.cell 1 (by omega)
    have ha := (wok_cons.1 hr.ok).1
    have hb := (wok_cons.1 (wok_cons.1 hr.ok).2).1
    exact .inr (.inr ⟨g, off, a, b, rfl, rfl, ha, hb, by simp [wv], by simpa using hc, by simpa using hc1⟩)

theorem lohi {a b : Nat} (ha : a < 4294967296) (hb : b < 4294967296) : bits BinOp.or IntKind.u64 (a : Int) ((b : Int) * 4294967296) = ((a + 4294967296 * b : Nat) : Int) := by
  rw [show ((b : Int) * 4294967296) = ((b * 4294967296 : Nat) : Int) from by omega, u64_or_nat _ _ (by omega) (by omega), Nat.or_comm,
    nat_join 32 _ _ (by omega) (by omega), Nat.add_comm, Nat.mul_comm]

set_option maxHeartbeats 1000000 in
theorem Uint64_any (w : World) (c : Nat) (z : Int) (hc : IntAt w c z) (hz : z.natAbs < 18446744073709551616) :
    Calls Tryd.prog 40 #[.pointer (some ⟨c, 0, none⟩)] w fun e w' => e = .returned (.int .u64 (z.natAbs : Nat)) ∧ w = w' := by
  obtain ⟨v, h0, h1, hv⟩ := hc.cells
  obtain ⟨ao, len, cap, rfl, h⟩ := hv.cells hz
  clear hv hc
  rcases h with ⟨rfl, hn⟩ | ⟨g, off, rfl, rfl, hn, hc⟩ | ⟨g, off, lo, hi, rfl, rfl, hlo, hhi, hn, hc, hc2⟩
  · rw [hn]
    clear hn
    go_enter Tryd.func40, Tryd.ntmps40
    go_wp2
    go_ret
    exact ⟨rfl, rfl⟩
  · go_enter Tryd.func40, Tryd.ntmps40
    go_wp2
    go_ret
    exact ⟨rfl, rfl⟩
  · rw [hn]
    have e := lohi hlo hhi
    have E := hid e
    clear hn e
    go_enter Tryd.func40, Tryd.ntmps40
    go_wp2
    go_ret
    refine ⟨?_, rfl⟩
    rw [← E.out]
    rfl

theorem i64_of {z : Int} (h1 : -9223372036854775808 ≤ z) (h2 : z < 0) : wrap64 (-(wrap64 (z.natAbs : Nat))) = z := by
  unfold wrap64; omega

set_option maxHeartbeats 1000000 in
theorem Int64_any (w : World) (c : Nat) (z : Int) (hc : IntAt w c z) (h1 : -9223372036854775808 ≤ z) (h2 : z ≤ 9223372036854775807) :
    Calls Tryd.prog 28 #[.pointer (some ⟨c, 0, none⟩)] w fun e w' => e = .returned (.int .i64 z) ∧ w = w' := by
  have HC := hid hc
  obtain ⟨v, h0, _, _⟩ := hc.cells
  clear hc
  by_cases hz : z < 0
  · have hd : decide (z < 0) = true := by simpa using hz
    rw [hd] at h0
    clear hd
    have e := i64_of h1 hz
    have E := hid e
    clear e
    go_enter Tryd.func28, Tryd.ntmps28
    go_wp2_with (go_at_call 40; refine (Uint64_any _ c z HC.out (by omega)).mono ?_; rintro e w1 ⟨rfl, rfl⟩)
    go_ret
    refine ⟨?_, rfl⟩
    show Ending.returned (.int .i64 (wrap64 (-wrap64 (z.natAbs : Nat)))) = _
    rw [E.out]
  · have hd : decide (z < 0) = false := by simpa using hz
    rw [hd] at h0
    clear hd
    go_enter Tryd.func28, Tryd.ntmps28
    go_wp2_with (go_at_call 40; refine (Uint64_any _ c z HC.out (by omega)).mono ?_; rintro e w1 ⟨rfl, rfl⟩)
    go_ret
    refine ⟨?_, rfl⟩
    show Ending.returned (.int .i64 (z.natAbs : Nat)) = _
    rw [show ((z.natAbs : Nat) : Int) = z from by omega]

set_option maxHeartbeats 1000000 in
theorem Sign_any (w : World) (c : Nat) (z : Int) (hc : IntAt w c z) :
    Calls Tryd.prog 29 #[.pointer (some ⟨c, 0, none⟩)] w fun e w' => e = .returned (.int .i64 z.sign) ∧ w = w' := by
  obtain ⟨v, h0, h1, ao, len, cap, ws, rfl, hr, ht, hn⟩ := hc.cells
  have hlen := hr.len
  have hz := wv_zero_iff ht
  rw [hn] at hz
  have hlim := hr.lim.1
  clear hr ht hn hc
  by_cases hl : len = 0
  · subst hl
    have : z = 0 := by have := hz.2 (List.length_eq_zero_iff.1 hlen); omega
    subst this
    clear hz
    go_enter Tryd.func29, Tryd.ntmps29
    go_wp2
    go_ret
    exact ⟨rfl, rfl⟩
  · have hne : z ≠ 0 := by
      intro h; subst h
      have := hz.1 rfl
      subst this; simp at hlen; omega
    have hlb : ((len : Int) == 0) = false := by rw [beq_eq_false_iff_ne]; omega
    clear hz hlen
    rcases Int.lt_or_gt_of_ne hne with h | h
    · have hd : decide (z < 0) = true := by simpa using h
      rw [hd] at h0
      rw [Int.sign_eq_neg_one_of_neg h]
      clear hd
      go_enter Tryd.func29, Tryd.ntmps29
      go_wp2
      go_ret
      exact ⟨rfl, rfl⟩
    · have hd : decide (z < 0) = false := by simp; omega
      rw [hd] at h0
      rw [Int.sign_eq_one_of_pos h]
      clear hd
      go_enter Tryd.func29, Tryd.ntmps29
      go_wp2
      go_ret
      exact ⟨rfl, rfl⟩
end Go.Proofs.YtnbenmpjpogldaaDoor
