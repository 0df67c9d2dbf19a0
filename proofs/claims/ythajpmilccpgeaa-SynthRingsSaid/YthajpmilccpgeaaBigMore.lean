/- The walks of Quo, BitLen, IsInt64, where the seat has them. -/
import Derived.Test.YthajpmilccpgeaaBigQuo
namespace Go.Proofs.Ythajpmilccpgeaa
set_option linter.unusedVariables false
set_option linter.unusedSimpArgs false
set_option maxRecDepth 100000
open Go.RowKit

set_option maxHeartbeats 2000000 in
theorem Quo_any (w : World) (b c d : Nat) (x y : Int) (hb : IntBlk w b) (hc : IntAt w c x) (hd : IntAt w d y)
    (hx : x.natAbs < 18446744073709551616 ∨ y.natAbs < 4294967296) (hy : y ≠ 0) (sx : Sm x.natAbs) (sy : Sm y.natAbs) :
    Calls Try.prog 50 #[.pointer (some ⟨b, 0, none⟩), .pointer (some ⟨c, 0, none⟩), .pointer (some ⟨d, 0, none⟩)] w (Gives w b (x.tdiv y)) := by
  have HB := hid hb
  have HC := hid hc
  have HD := hid hd
  have hlb := hb.lt
  have K := hid (QuoRem_any (w.alloc (.cells #[.bool false, .slice none 0 0] 64)) b c d w.heap.size x y (hb.below ((Below.refl _ _).alloc (Nat.le_refl _) _) (Nat.le_refl _)) (hc.below ((Below.refl _ _).alloc (Nat.le_refl _) _) (Nat.le_refl _)) (hd.below ((Below.refl _ _).alloc (Nat.le_refl _) _) (Nat.le_refl _)) (IntBlk.new w _ _) (by omega) hx hy sx sy)
  clear hb hc hd hx hy
  go_enter Try.func50, Try.ntmps50
  go_wp2_with fail
  refine K.out.mono ?_
  rintro e w1 ⟨rfl, hQ, hR, w1', g1, g2⟩
  have q1 := hid hQ
  have q2 := hid (And.intro g1 g2)
  clear hQ hR g1 g2
  go_wp2
  go_ret
  refine ⟨rfl, q1.out, ?_⟩
  obtain ⟨g1, g2⟩ := q2.out
  have hs1 := g1.size
  have hs2 := g2.size
  simp at hs1
  exact ⟨g2.os.trans g1.os, g2.tape.trans g1.tape, g2.output.trans g1.output, by omega, fun k hk hn => by
    rw [g2.block k (by omega) (by simp; omega), g1.block k (by simp; omega) hn]
    exact Below.heap_alloc _ _ _ hk⟩
theorem BitLen_any (w : World) (c : Nat) (x : Int) (hc : IntAt w c x) (sx : Sm x.natAbs) :
    Calls Try.prog 60 #[.pointer (some ⟨c, 0, none⟩)] w fun e w' => e = .returned (.int .i64 (bitlen x.natAbs : Nat)) ∧ w = w' := by
  obtain ⟨v, h0, h1, hv⟩ := hc.cells
  have K := hid (length_any w v _ hv sx)
  clear hv hc
  go_enter Try.func60, Try.ntmps60
  go_wp2_with (go_at_call 78; refine K.out.mono ?_; rintro e w1 ⟨rfl, rfl⟩)
  go_ret
  exact ⟨rfl, rfl⟩
theorem IsInt64_yes (w : World) (c : Nat) (x : Int) (hc : IntAt w c x) (h1 : -9223372036854775808 < x) (h2 : x ≤ 9223372036854775807) :
    Calls Try.prog 53 #[.pointer (some ⟨c, 0, none⟩)] w fun e w' => e = .returned (.bool true) ∧ w = w' := by
  obtain ⟨v, h0, h3, hv⟩ := hc.cells
  have hb : bitlen x.natAbs ≤ 63 := bitlen_le_of_lt (by omega)
  have K := hid (length_any w v _ hv (sm_of_lt (by omega)))
  clear hv hc
  generalize bitlen x.natAbs = n at *
  have d1 : decide (n < 64) = true := by simp; omega
  go_enter Try.func53, Try.ntmps53
  go_wp2_with (go_at_call 78; refine K.out.mono ?_; rintro e w1 ⟨rfl, rfl⟩)
  go_ret
  exact ⟨rfl, rfl⟩
end Go.Proofs.Ythajpmilccpgeaa
