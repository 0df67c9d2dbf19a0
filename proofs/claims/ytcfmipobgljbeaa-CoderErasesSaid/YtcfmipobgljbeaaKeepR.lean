/- The reference's Keep. -/
import Derived.Test.YtcfmipobgljbeaaKeepW
namespace Go.Proofs.Ytcfmipobgljbeaa
set_option linter.unusedVariables false
set_option linter.unusedSimpArgs false
set_option maxRecDepth 100000
open Go.RowKit

/-- The three boxes: the past, the answer's, what is filled. -/
structure Kr (w wr : World) (h ys : List Int) : Prop where
  A : IB wr w.heap.size 34 h
  R : IB wr (w.heap.size + 1) 34 Z80
  O : IB wr (w.heap.size + 2) 34 ys
  bel : Below w.heap.size w wr
theorem Kr.start (w : World) (h : List Int) : Kr w (((w.alloc (.cells (agi h) 34)).alloc (.cells Try.zeroCells34 34)).alloc (.cells Try.zeroCells34 34)) h Z80 := by
  have h1 := IB.new w 34 h
  have h2 := IB.new (w.alloc (.cells (agi h) 34)) 34 Z80
  have h3 := IB.new ((w.alloc (.cells (agi h) 34)).alloc (.cells (agi Z80) 34)) 34 Z80
  simp only [World.size_alloc] at h2 h3
  rw [z80_ag]
  exact ⟨Blk.alloc (Blk.alloc h1 _) _, Blk.alloc h2 _, h3, (((Below.refl _ _).alloc (Nat.le_refl _) _).alloc (by simp) _).alloc (by simp; omega) _⟩
theorem Kr.set_ {w wr : World} {h ys : List Int} (s : Kr w wr h ys) (k : Nat) (x : Int) : Kr w (wr.setCell ⟨w.heap.size + 2, k, none⟩ (.int .i64 x)) h (ys.set k x) :=
  ⟨Blk.far s.A (by simp) _, Blk.far s.R (by simp) _, IB.set_ s.O k x, s.bel.setCell (p := ⟨w.heap.size + 2, k, none⟩) (by show w.heap.size ≤ w.heap.size + 2; omega) _⟩
theorem Kr.below {w wr w' : World} {h ys : List Int} (s : Kr w wr h ys) (hb : Below wr.heap.size wr w') : Kr w w' h ys :=
  ⟨Blk.below' s.A hb, Blk.below' s.R hb, Blk.below' s.O hb, s.bel.trans (hb.mono s.bel.size)⟩
theorem Kr.lt {w wr : World} {h ys : List Int} (s : Kr w wr h ys) : w.heap.size + 3 ≤ wr.heap.size := Blk.lt s.O

set_option maxHeartbeats 4000000 in
theorem refKeep_any (h x : List Int) (A : Option Addr) (c n : Nat) (w : World) (hh : h.length = 80) (hr : Rs w w.heap.size A x) (hn : x.length = n) (hl : n ≤ 17592186044416) (hw : W64 x) :
    Calls Try.prog 98 #[.agg (agi h), .slice A n c] w (Keeps w h x n) := by
  have hR := results_row2 (fn := Try.f98) (p := 4) (q := 5) (ty := 34) rfl
  have S0 := hid (Kr.start w h)
  have HR := hid hr
  have HN := hid hn
  have HH := hid hh
  have HW := hid hw
  by_cases h40 : n = 40
  · subst h40
    have FA : keepA h x 40 = keepL h x := if_pos rfl
    have KL := hid (keepL_len hh hn)
    have LO := hid (fun j hj => keepL_lo (x := x) hh j hj)
    have HI := hid (fun j hj => keepL_hi hh hn j hj)
    have FA' := hid FA
    clear hr hn hh hw FA
    go_enter Try.func98, Try.ntmps98
    go_wp2
    go_loopw [12] (fun iv wr => ∃ (k : Nat) (ys : List Int), k ≤ 80 ∧ iv = .int .i64 k ∧ Hid (ys.length = 80 ∧ ∀ j, j < k → ys.getD j 0 = (keepL h x).getD j 0) ∧ Hid (Kr w wr h ys)) (fun iv _ => 80 - (intOf iv).toNat)
    case atStart => exact ⟨0, _, by omega, rfl, hid ⟨rfl, fun j h => by omega⟩, S0⟩
    case round =>
      clear S0
      obtain ⟨k, ys, hk, rfl, HY, HS⟩ := hrel
      by_cases hlt : k < 80
      · have NEXT := fun v (hv : v = (keepL h x).getD k 0) => hid (show (ys.set k v).length = 80 ∧ ∀ j, j < k + 1 → (ys.set k v).getD j 0 = (keepL h x).getD j 0 from by
          obtain ⟨q1, q3⟩ := HY.out
          refine ⟨by simpa using q1, fun j hj => ?_⟩
          by_cases he : k = j
          · subst he
            rw [get_set_same _ _ _ (by omega), hv]
          · rw [get_set_other _ _ he]
            exact q3 j (by omega))
        have hk80 : (k : Int) < 80 := by omega
        by_cases hlow : k < 40
        · obtain ⟨J, hJ⟩ : ∃ J : Nat, J = k + 40 := ⟨_, rfl⟩
          have ci := IB.cell HS.out.A J (by rw [HH.out]; omega)
          have NX := NEXT (h.getD J 0) (by rw [LO.out k hlow, hJ, Nat.add_comm])
          have SX := hid (HS.out.set_ k (h.getD J 0))
          have co := IB.cell HS.out.O k (by rw [HY.out.1]; exact hlt)
          have fo := Blk.frozen HS.out.O k
          have hwJ : IntKind.i64.wrap ((k : Int) + 40) = (J : Nat) := by rw [IntKind.wrap_i64]; omega
          have hJ80 : (J : Int) < 80 := by omega
          generalize h.getD J 0 = v at *
          clear hJ NEXT
          go_wp2
          go_roundw
          case rel => exact ⟨k + 1, _, by omega, by go_num, NX, SX⟩
          case measure => simp [intOf] <;> omega
        · obtain ⟨d, hd⟩ : ∃ d : Nat, k = 40 + d := ⟨k - 40, by omega⟩
          obtain ⟨ad, rfl, _, c1⟩ := (HR.out.below HS.out.bel).at_ (k := d) (by rw [HN.out]; omega)
          have vb := HW.out.at_ d
          have hv2 : s16 (x.getD d 0) = (keepL h x).getD k 0 := by rw [hd, HI.out d (by omega)]
          generalize x.getD d 0 = v at *
          have NX := NEXT (s16 v) hv2
          have SX := hid (fun w' (hb : Below wr.heap.size wr w') => (HS.out.below hb).set_ k (s16 v))
          have KS := hid (fun W => S_any v W vb.1 vb.2)
          have LT := hid HS.out.lt
          have hwd : IntKind.i64.wrap ((k : Int) - 40) = (d : Nat) := by rw [IntKind.wrap_i64]; omega
          have hd40 : (d : Int) < 40 := by omega
          have hd0 : ¬ (k : Int) < 40 := by omega
          have HK := hid hd
          clear hd NEXT hv2 vb hlow
          go_wp2_with fail
          refine (KS.out _).mono ?_
          rintro e w9 ⟨rfl, hB⟩
          have SX9 := hid (SX.out _ hB)
          have S9 := HS.out.below hB
          have co := IB.cell S9.O k (by rw [HY.out.1]; exact hlt)
          have fo := Blk.frozen S9.O k
          clear hB S9
          go_wp2
          go_roundw
          case rel => exact ⟨k + 1, _, by omega, by go_num, NX, SX9⟩
          case measure => simp [intOf] <;> omega
      · obtain rfl : k = 80 := by omega
        have HF : ys = keepL h x := list_ext (by rw [HY.out.1, KL.out]) (fun k hk => HY.out.2 k (by rw [HY.out.1] at hk; exact hk))
        subst HF
        have FIN := hid (below_setRow HS.out.bel (g := w.heap.size + 1) (by omega) (agi (keepL h x)))
        have hRow := hid (IB.setRow HS.out.R (keepL h x))
        go_wp2_with (first
          | (refine wpList_loadI rfl 34 (.tmp 6) rfl _ 34 (keepL h x) 80 _ rfl HS.out.O Try.underlying34 rfl size80k KL.out ?_)
          | (refine wpList_storeI rfl 34 (.tmp 4) (.tmp 32) rfl _ 34 Z80 (keepL h x) 80 rfl rfl HS.out.R size80k rfl KL.out ?_))
        refine bodyPost_ret (v := _) (hR _ _ _ 34 (keepL h x) _ 80 rfl hRow.out Try.underlying34 rfl size80k KL.out) rfl ?_
        exact ⟨by rw [FA'.out]; rfl, FIN.out⟩
  · have FA := hid (show keepA h x n = Z80 from if_neg h40)
    have FE := hid (show keepE n = 1 from if_neg h40)
    have d1 : ((n : Int) == 40) = false := by simp; omega
    have d2 : ((n : Int) != 40) = true := by simp; omega
    clear h40
    have FIN := hid (below_setRow S0.out.bel (g := w.heap.size + 1) (by omega) (agi Z80))
    have hRow := hid (IB.setRow S0.out.R Z80)
    go_enter Try.func98, Try.ntmps98
    go_wp2_with (first
      | (refine wpList_loadI rfl 34 (.tmp 6) rfl _ 34 Z80 80 _ rfl S0.out.O Try.underlying34 rfl size80k rfl ?_)
      | (refine wpList_storeI rfl 34 (.tmp 4) (.tmp 11) rfl _ 34 Z80 Z80 80 rfl rfl S0.out.R size80k rfl rfl ?_))
    refine bodyPost_ret (v := _) (hR _ _ _ 34 Z80 _ 80 rfl hRow.out Try.underlying34 rfl size80k rfl) rfl ?_
    exact ⟨by rw [FA.out, FE.out]; rfl, FIN.out⟩
end Go.Proofs.Ytcfmipobgljbeaa
