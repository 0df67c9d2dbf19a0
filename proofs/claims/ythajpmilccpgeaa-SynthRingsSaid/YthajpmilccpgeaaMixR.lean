/- The walk of the reference's Mix. -/
import Derived.Test.YthajpmilccpgeaaSteadyW
import Derived.Test.YthajpmilccpgeaaRefClip
import Derived.Test.YthajpmilccpgeaaBigMore
import Derived.BigQuiet
namespace Go.Proofs.Ythajpmilccpgeaa
set_option linter.unusedVariables false
set_option linter.unusedSimpArgs false
set_option maxRecDepth 100000
open Go.RowKit

theorem below_dA (w : World) (n : Nat) (o : Obj) : Below w.heap.size w ((w.drewN n).alloc o) :=
  Below.alloc (a := w) (w := w.drewN n) ⟨rfl, rfl, rfl, Nat.le_refl _, fun _ _ => rfl⟩ (Nat.le_refl _) o

/-- The two arguments' boxes and the answer's, what lies below untouched. -/
structure Bx3 (w wr : World) (a b r : List Int) : Prop where
  A : IB wr w.heap.size 33 a
  B : IB wr (w.heap.size + 1) 33 b
  R : IB wr (w.heap.size + 1 + 1) 33 r
  bel : Below w.heap.size w wr
theorem Bx3.lt {w wr : World} {a b r : List Int} (h : Bx3 w wr a b r) : w.heap.size + 1 + 1 < wr.heap.size := Blk.lt h.R
theorem Bx3.below {w wr wr' : World} {a b r : List Int} (h : Bx3 w wr a b r) (hb : Below wr.heap.size wr wr') : Bx3 w wr' a b r :=
  ⟨Blk.below' h.A hb, Blk.below' h.B hb, Blk.below' h.R hb, h.bel.trans (hb.mono (by have := h.lt; omega))⟩
theorem Bx3.setCell {w wr : World} {a b r : List Int} (h : Bx3 w wr a b r) {g : Nat} (hg : w.heap.size + 1 + 1 < g) (k : Nat) (v : Value) : Bx3 w (wr.setCell ⟨g, k, none⟩ v) a b r :=
  ⟨Blk.far h.A (by show w.heap.size ≠ g; omega) _, Blk.far h.B (by show w.heap.size + 1 ≠ g; omega) _, Blk.far h.R (by show w.heap.size + 1 + 1 ≠ g; omega) _, h.bel.setCell (p := ⟨g, k, none⟩) (by show w.heap.size ≤ g; omega) _⟩
theorem Bx3.start (w : World) (a b : List Int) : Bx3 w (((w.alloc (.cells (agi a) 33)).alloc (.cells (agi b) 33)).alloc (.cells (agi Z8) 33)) a b Z8 := by
  have h1 := IB.new w 33 a
  have h2 := IB.new (w.alloc (.cells (agi a) 33)) 33 b
  have h3 := IB.new ((w.alloc (.cells (agi a) 33)).alloc (.cells (agi b) 33)) 33 Z8
  simp only [World.size_alloc] at h2 h3
  exact ⟨(Blk.alloc h1 _).alloc _, Blk.alloc h2 _, h3, (((Below.refl _ _).alloc (Nat.le_refl _) _).alloc (by simp) _).alloc (by simp; omega) _⟩

set_option maxHeartbeats 4000000 in
theorem refMix_any (a b : List Int) (num : Int) (w : World) (ha : a.length = 8) (hb : b.length = 8) (hn : -9223372036854775808 ≤ num) (hn2 : num ≤ 9223372036854775807) : Calls Try.prog 23 #[.agg (agi a), .agg (agi b), .int .i64 num] w (Mixes w a b num) := by
  have I0 := hid (Bx3.start w a b)
  have hR := results_row2 (fn := Try.f23) (p := 6) (q := 7) (ty := 33) rfl
  by_cases h1 : num < 0 ∨ 4 < num
  · have FIN := hid (mix_bad (a := a) (b := b) (num := num) (by unfold mixB; simp; omega) (below_setRow I0.out.bel (g := w.heap.size + 1 + 1) (by omega) (agi Z8)))
    have hRow2 := hid (I0.out.R.setRow Z8)
    rcases h1 with h1 | h1
    · have d1 : decide (num < 0) = true := by simpa using h1
      go_enter Try.func23, Try.ntmps23
      go_wp2_with (refine wpList_storeI rfl 33 (.tmp 6) (.tmp 27) rfl _ 33 Z8 Z8 8 rfl rfl I0.out.R size8 rfl rfl ?_)
      refine bodyPost_ret (v := _) (hR _ _ _ 33 Z8 _ 8 rfl hRow2.out Try.underlying33 rfl size8 rfl) rfl ?_
      exact FIN.out
    · have d1 : decide (num < 0) = false := by simp; omega
      have d2 : decide (4 < num) = true := by simpa using h1
      go_enter Try.func23, Try.ntmps23
      go_wp2_with (refine wpList_storeI rfl 33 (.tmp 6) (.tmp 27) rfl _ 33 Z8 Z8 8 rfl rfl I0.out.R size8 rfl rfl ?_)
      refine bodyPost_ret (v := _) (hR _ _ _ 33 Z8 _ 8 rfl hRow2.out Try.underlying33 rfl size8 rfl) rfl ?_
      exact FIN.out
  · have h0 : 0 ≤ num := by omega
    have h4 : num ≤ 4 := by omega
    have d1 : decide (num < 0) = false := by simp; omega
    have d2 : decide (4 < num) = false := by simp; omega
    have KA := hid (fun w1 => steady_any a w1 ha)
    have KB := hid (fun w1 => steady_any b w1 hb)
    have HA := hid ha
    have HB := hid hb
    clear h1 ha hb
    by_cases sa : steadyB a = true
    · rw [sa] at KA
      by_cases sb : steadyB b = true
      · rw [sb] at KB
        have hg : mixB a b num = true := by unfold mixB; rw [sa, sb]; simp; omega
        have FIN := hid (fun (w1 : World) (ys : List Int) => mix_good (w := w) (w' := w1) (ys := ys) hg)
        have SA := hid (fun i => steadyB_at sa i)
        have SB := hid (fun i => steadyB_at sb i)
        clear sa sb hg
        go_enter Try.func23, Try.ntmps23
        go_wp2_with (refine wpList_loadI rfl 33 (.tmp 3) rfl _ 33 a 8 _ rfl I0.out.A Try.underlying33 rfl size8 HA.out ?_)
        refine (KA.out _).mono ?_
        rintro e w1 ⟨rfl, hB1⟩
        have I1 := hid (I0.out.below hB1)
        clear hB1
        go_wp2_with (refine wpList_loadI rfl 33 (.tmp 4) rfl _ 33 b 8 _ rfl I1.out.B Try.underlying33 rfl size8 HB.out ?_)
        refine (KB.out _).mono ?_
        rintro e w2 ⟨rfl, hB2⟩
        have I2 := hid (I1.out.below hB2)
        have hl2 := I2.out.lt
        clear hB2 I1
        have I3 := hid (I2.out.below ((Below.refl _ _).alloc (Nat.le_refl _) (.cells (agi Z8) 33)))
        have O3 := hid (IB.new w2 33 Z8)
        rw [z8_eq] at I3 O3
        go_wp2
        go_loopw [28] (fun iv wr => ∃ (k : Nat) (ys : List Int), k ≤ 8 ∧ iv = .int .i64 k ∧ Hid (ys.length = 8 ∧ ∀ j, j < k → ys.getD j 0 = mixE a b num j) ∧ Hid (Bx3 w wr a b Z8) ∧ Hid (IB wr w2.heap.size 33 ys)) (fun iv _ => 8 - (intOf iv).toNat)
        case atStart => exact ⟨0, Z8, by omega, rfl, hid ⟨rfl, fun j h => by omega⟩, I3, O3⟩
        case round =>
          clear I3 O3 I2 I0 KA KB
          obtain ⟨k, ys, hk, rfl, HY, HI, HO⟩ := hrel
          by_cases hlt : k < 8
          · have ca := HI.out.A.cell k (by rw [HA.out]; exact hlt)
            have cb := HI.out.B.cell k (by rw [HB.out]; exact hlt)
            have ra := SA.out k
            have rb := SB.out k
            obtain ⟨x, hx⟩ : ∃ x, x = a.getD k 0 := ⟨_, rfl⟩
            obtain ⟨y, hy⟩ : ∃ y, y = b.getD k 0 := ⟨_, rfl⟩
            rw [← hx] at ca ra
            rw [← hy] at cb rb
            have HX := hid hx
            have HYY := hid hy
            clear hx hy
            obtain ⟨b1, b2⟩ := ra
            obtain ⟨b3, b4⟩ := rb
            obtain ⟨m1, m2, m3, m4⟩ := mix_sum ⟨b1, b2⟩ ⟨b3, b4⟩ ⟨h0, h4⟩
            go_wp2
            go_quiet (fail)
            obtain ⟨s, hs⟩ : ∃ s, s = x * (4 - num) + y * num := ⟨_, rfl⟩
            rw [← hs]
            have hs1 : -524288 ≤ s := by omega
            have hs2 : s ≤ 524288 := by omega
            have NEXT := hid (show Hid ((ys.set k (s.tdiv 4)).length = 8 ∧ ∀ j, j < k + 1 → (ys.set k (s.tdiv 4)).getD j 0 = mixE a b num j) from by
              obtain ⟨q1, q4⟩ := HY.out
              refine ⟨by simpa using q1, fun j hj => ?_⟩
              by_cases he : k = j
              · subst he
                rw [get_set_same _ _ _ (by omega), mixE, ← HX.out, ← HYY.out, hs]
              · rw [get_set_other _ _ he]
                exact q4 j (by omega))
            clear hs ca cb m1 m2 m3 m4
            have hls := HI.out.lt
            have hlo := Blk.lt HO.out
            go_wp2_with fail
            refine (whole_any _ s (by omega) (by omega)).mono ?_
            rintro e w3 ⟨b3, rfl, hb3, hI, hB⟩
            have Z3 := hid (IntBlk.below (IntBlk.new (wr.drewN _) (.bool false) (.slice none 0 0)) hB (Nat.le_refl _))
            have X3 := hid hI
            have B3 := hid (show Below wr.heap.size wr w3 from (below_dA wr _ _).trans (hB.mono (by simp)))
            clear hI hB
            go_wp2_with fail
            refine (NewInt_any _ 4 (by omega) (by omega)).mono ?_
            rintro e w4 ⟨b4, rfl, hb4, hI, hB⟩
            have X4 := hid (X3.out.below hB (Nat.le_refl _))
            have Y4 := hid hI
            have Z4 := hid (Z3.out.below hB (Nat.le_refl _))
            have B4 := hid (B3.out.trans (hB.mono B3.out.size))
            clear hI hB X3 Z3 B3
            go_wp2_with fail
            refine (Quo_any _ wr.heap.size b3 b4 s 4 Z4.out X4.out Y4.out (.inl (by omega)) (by omega) (sm_of_lt (by omega)) (sm_of_lt (by decide))).mono ?_
            rintro e w5 ⟨rfl, hI, hG⟩
            have Z5 := hid hI
            have B5 := hid (below_of_grownBy B4.out hG (Nat.le_refl _))
            have ht1 := tdiv_bound (x := s) (e := 4) (by omega)
            clear hI hG X4 Y4 Z4 B4
            go_wp2_with fail
            refine (Int64_any _ wr.heap.size (s.tdiv 4) Z5.out (by omega) (by omega)).mono ?_
            rintro e w6 ⟨rfl, rfl⟩
            have HI5 := hid (HI.out.below B5.out)
            have HO5 := hid (Blk.below' HO.out B5.out)
            have co := IB.cell HO5.out k (by rw [HY.out.1]; exact hlt)
            have fo := Blk.frozen HO5.out k
            have HI6 := hid (HI5.out.setCell (g := w2.heap.size) hl2 k (.int .i64 (s.tdiv 4)))
            have HO6 := hid (IB.set_ HO5.out k (s.tdiv 4))
            clear ht1 B5 Z5
            go_wp2
            go_roundw
            case rel => exact ⟨k + 1, _, by omega, by go_num, NEXT.out, HI6, HO6⟩
            case measure => simp [intOf] <;> omega
          · obtain rfl : k = 8 := by omega
            have F2 := hid (FIN.out (wr.setRow (w.heap.size + 1 + 1) (agi ys)) ys HY.out.1 HY.out.2 (below_setRow HI.out.bel (g := w.heap.size + 1 + 1) (by omega) (agi ys)))
            have hRow := hid (HI.out.R.setRow ys)
            clear hlt
            go_wp2_with (first
              | (refine wpList_loadI rfl 33 (.tmp 8) rfl _ 33 ys 8 _ rfl HO.out Try.underlying33 rfl size8 HY.out.1 ?_)
              | (refine wpList_storeI rfl 33 (.tmp 6) (.tmp 52) rfl _ 33 Z8 ys 8 rfl rfl HI.out.R size8 rfl HY.out.1 ?_))
            refine bodyPost_ret (v := _) (hR _ _ _ 33 ys _ 8 rfl hRow.out Try.underlying33 rfl size8 HY.out.1) rfl ?_
            exact F2.out
      · have sb' : steadyB b = false := by simpa using sb
        have sa' := sa
        rw [sb'] at KB
        have FIN := hid (fun (w1 : World) => mix_bad (w := w) (w' := w1) (a := a) (b := b) (num := num) (by unfold mixB; rw [sb']; simp))
        clear sa sb sb' sa'
        go_enter Try.func23, Try.ntmps23
        go_wp2_with (refine wpList_loadI rfl 33 (.tmp 3) rfl _ 33 a 8 _ rfl I0.out.A Try.underlying33 rfl size8 HA.out ?_)
        refine (KA.out _).mono ?_
        rintro e w1 ⟨rfl, hB1⟩
        have I1 := hid (I0.out.below hB1)
        clear hB1
        go_wp2_with (refine wpList_loadI rfl 33 (.tmp 4) rfl _ 33 b 8 _ rfl I1.out.B Try.underlying33 rfl size8 HB.out ?_)
        refine (KB.out _).mono ?_
        rintro e w2 ⟨rfl, hB2⟩
        have I2 := hid (I1.out.below hB2)
        have F2 := hid (FIN.out _ (below_setRow I2.out.bel (g := w.heap.size + 1 + 1) (by omega) (agi Z8)))
        have hRow := hid (I2.out.R.setRow Z8)
        clear hB2 I1
        go_wp2_with (refine wpList_storeI rfl 33 (.tmp 6) (.tmp 27) rfl _ 33 Z8 Z8 8 rfl rfl I2.out.R size8 rfl rfl ?_)
        refine bodyPost_ret (v := _) (hR _ _ _ 33 Z8 _ 8 rfl hRow.out Try.underlying33 rfl size8 rfl) rfl ?_
        exact F2.out
    · have sa' : steadyB a = false := by simpa using sa
      rw [sa'] at KA
      have FIN := hid (fun (w1 : World) => mix_bad (w := w) (w' := w1) (a := a) (b := b) (num := num) (by unfold mixB; rw [sa']; simp))
      clear sa sa'
      go_enter Try.func23, Try.ntmps23
      go_wp2_with (refine wpList_loadI rfl 33 (.tmp 3) rfl _ 33 a 8 _ rfl I0.out.A Try.underlying33 rfl size8 HA.out ?_)
      refine (KA.out _).mono ?_
      rintro e w1 ⟨rfl, hB1⟩
      have I1 := hid (I0.out.below hB1)
      have F2 := hid (FIN.out _ (below_setRow I1.out.bel (g := w.heap.size + 1 + 1) (by omega) (agi Z8)))
      have hRow := hid (I1.out.R.setRow Z8)
      clear hB1
      go_wp2_with (refine wpList_storeI rfl 33 (.tmp 6) (.tmp 27) rfl _ 33 Z8 Z8 8 rfl rfl I1.out.R size8 rfl rfl ?_)
      refine bodyPost_ret (v := _) (hR _ _ _ 33 Z8 _ 8 rfl hRow.out Try.underlying33 rfl size8 rfl) rfl ?_
      exact F2.out
end Go.Proofs.Ythajpmilccpgeaa
