/- The walk of the reference's BestOf. -/
import Derived.Test.YtcfmipobgljbeaaBstR
import Derived.Test.YtcfmipobgljbeaaRow4
import Derived.Test.YtcfmipobgljbeaaCopyI
namespace Go.Proofs.Ytcfmipobgljbeaa
set_option linter.unusedVariables false
set_option linter.unusedSimpArgs false
set_option maxRecDepth 100000
open Go.RowKit

/-- Behind i of the places: the best ones, their sums. -/
def boS (d ring : List Int) (l : List (List Int)) (i : Nat) : Bst := if i = 0 then ⟨l.getD 0 [], true, 0, 0⟩ else bestL d ring (l.take i)
theorem take_snocL {l : List (List Int)} {i : Nat} (h : i < l.length) : l.take (i + 1) = l.take i ++ [l.getD i []] := by
  rw [List.take_add_one, List.getD_eq_getElem?_getD, List.getElem?_eq_getElem h]
  rfl
theorem boS_step {d ring : List Int} {l : List (List Int)} {i : Nat} (h : i < l.length) :
    boS d ring l (i + 1) = if i = 0 ∨ betterB (scC d (l.getD i []) 4) (scE d ring (l.getD i [])) (boS d ring l i).c (boS d ring l i).e = true then ⟨l.getD i [], false, scC d (l.getD i []) 4, scE d ring (l.getD i [])⟩ else boS d ring l i := by
  unfold boS
  rw [if_neg (by omega), take_snocL h, bestL_snoc]
  by_cases h0 : i = 0
  · subst h0
    rw [if_pos (.inl rfl)]
    rfl
  · rw [if_neg h0]
    have hf : (bestL d ring (l.take i)).first = false := by
      unfold bestL
      rw [bst_first]
      have : (l.take i).isEmpty = false := by
        have hl : (l.take i).length = i := by rw [List.length_take]; omega
        cases hq : l.take i with
        | nil => rw [hq] at hl; simp at hl; omega
        | cons a b => rfl
      rw [this, Bool.and_false]
    unfold bstS
    rw [hf, Bool.false_or]
    by_cases hb : betterB (scC d (l.getD i []) 4) (scE d ring (l.getD i [])) (bestL d ring (l.take i)).c (bestL d ring (l.take i)).e = true
    · rw [if_pos hb, if_pos (.inr hb)]
    · rw [if_neg hb, if_neg (by rintro (h1 | h1); exact h0 h1; exact hb h1)]
theorem boS_ix {d ring : List Int} {l : List (List Int)} (hl : ∀ x ∈ l, Ix x) (h0 : 0 < l.length) (i : Nat) : Ix (boS d ring l i).at_ := by
  unfold boS
  split
  · show Ix (l.getD 0 [])
    rw [List.getD_eq_getElem?_getD, List.getElem?_eq_getElem h0]
    exact hl _ (List.getElem_mem h0)
  · exact bestL_ix (s := bst0) ix_Z4 fun x hx => hl x (List.mem_of_mem_take hx)
theorem boS_64 {d ring : List Int} {l : List (List Int)} (i : Nat) : in64 (boS d ring l i) := by
  unfold boS
  split
  · exact ⟨⟨(by decide : (-9223372036854775808 : Int) ≤ 0), (by decide : (0 : Int) ≤ 9223372036854775807)⟩, ⟨(by decide : (-9223372036854775808 : Int) ≤ 0), (by decide : (0 : Int) ≤ 9223372036854775807)⟩⟩
  · exact bestL_64 (s := bst0) ⟨⟨by decide, by decide⟩, ⟨by decide, by decide⟩⟩
theorem get_ix {l : List (List Int)} (hl : ∀ x ∈ l, Ix x) {i : Nat} (h : i < l.length) : Ix (l.getD i []) := by
  rw [List.getD_eq_getElem?_getD, List.getElem?_eq_getElem h]
  exact hl _ (List.getElem_mem h)

set_option maxHeartbeats 8000000 in
theorem bestOf_any (A A2 : Option Addr) (c c2 c3 g n : Nat) (d ring : List Int) (l : List (List Int)) (w : World) (hd : Rs w w.heap.size A d) (hr : Rs w w.heap.size A2 ring) (l1 : d.length = 40) (l2 : ring.length = 40) (dw : W64 d) (rw_ : W64 ring) (hl : ∀ x ∈ l, Ix x) (hn : l.length = n) (h0 : 0 < n) (hn2 : n ≤ 100000) (h4 : Rs4 w g l) :
    Calls Try.prog 54 #[.slice A 40 c, .slice A2 40 c2, .slice (some ⟨g, 0, none⟩) n c3] w (fun e w' => e = .returned (.agg (agi (bestL d ring l).at_)) ∧ Below w.heap.size w w') := by
  have hR := results_row1 (fn := Try.f54) (p := 6) (ty := 29) rfl
  have KS := hid (fun (W : World) (h1 : Rs W W.heap.size A d) (h2 : Rs W W.heap.size A2 ring) (x : List Int) (hx : Ix x) => show Calls Try.prog 13 #[.slice A 40 c, .slice A2 40 c2, .agg (agi x)] W (fun e w' => e = .returned (.tuple #[.int .i64 (scC d x 4), .int .i64 (scE d ring x), .int .i64 0]) ∧ Below W.heap.size W w') from by
    refine (refScore_any A A2 c c2 40 40 d ring x W h1 h2 l1 l2 dw rw_ hx.1).mono ?_
    rintro e w' ⟨rfl, hB⟩
    have he : scErr d ring x = 0 := by unfold scErr; rw [if_pos ⟨l1, l2⟩, hx.2]; rfl
    exact ⟨by unfold scCv scEv; rw [he]; rfl, hB⟩)
  have HD := hid hd
  have HR := hid hr
  have HL := hid hl
  have HN := hid hn
  have H0 := hid h0
  have B0 := ((Below.refl w.heap.size w).alloc (Nat.le_refl _) (.cells (agi Z4) 29)).alloc (by simp) (.cells (agi Z4) 29)
  have I0 := hid (get_ix hl (show 0 < l.length by omega))
  have R0 := hid (show w.rangeAt g 0 (ints (l.getD 0 [])) from h4.2 0 (by omega))
  have RA := hid (show (w.alloc (.cells (agi Z4) 29)).rangeAt g 0 (ints (l.getD 0 [])) from World.rangeAt_alloc R0.out _)
  have hi4 : (Try.prog.info? 29).map (·.size) = some (ints (l.getD 0 [])).length := by rw [ints_len, I0.out.1]; exact size4i
  have GL := hid h4.1
  have ZA := hid (IB.new w 29 Z4)
  have QA := IB.new (w.alloc (.cells (agi Z4) 29)) 29 Z4
  simp only [World.size_alloc] at QA
  have QA := hid QA
  rename_i QAr
  clear QAr
  have Q1 := hid (IB.setRow QA.out (l.getD 0 []))
  have Z1 := hid (show IB (((w.alloc (.cells (agi Z4) 29)).alloc (.cells (agi Z4) 29)).setRow (w.heap.size + 1) (agi (l.getD 0 []))) w.heap.size 29 Z4 from Blk.rowFar (Blk.alloc ZA.out _) (by omega))
  have R1 := hid (show Rs4 (((w.alloc (.cells (agi Z4) 29)).alloc (.cells (agi Z4) 29)).setRow (w.heap.size + 1) (agi (l.getD 0 []))) g l from Rs4.rowFar ((h4.below ((Below.refl w.heap.size w).alloc (Nat.le_refl _) _)).below ((Below.refl _ _).alloc (Nat.le_refl _) _)) (by have := GL.out; omega) _)
  have B1 := hid (below_setRow B0 (g := w.heap.size + 1) (by omega) (agi (l.getD 0 [])))
  obtain ⟨W, hW⟩ : ∃ W, W = (((w.alloc (.cells (agi Z4) 29)).alloc (.cells (agi Z4) 29)).setRow (w.heap.size + 1) (agi (l.getD 0 []))) := ⟨_, rfl⟩
  rw [← hW] at Q1 Z1 R1 B1
  rw [show agi Z4 = #[.int .i64 0, .int .i64 0, .int .i64 0, .int .i64 0] from rfl] at hW
  have HW := hid hW
  have S0 := hid (show boS d ring l 0 = ⟨l.getD 0 [], true, 0, 0⟩ from rfl)
  have HI4 := hid hi4
  clear hd hr l1 l2 dw rw_ hl hn h4 B0 hW hi4
  obtain ⟨y0, hy0⟩ : ∃ y0, y0 = l.getD 0 [] := ⟨_, rfl⟩
  rw [← hy0] at I0 R0 RA HI4 Q1 HW S0
  clear hy0
  have n0 : (0 : Int) < n := by omega
  have u4 := Try.underlying29
  go_enter Try.func54, Try.ntmps54
  go_wp2_with (first
    | (refine wpList_load_mid rfl 29 (.tmp 16) rfl g 0 rfl (ints y0) _ RA.out u4 rfl HI4.out ?_)
    | (refine wpList_storeI rfl 29 (.tmp 7) (.tmp 17) rfl _ 29 Z4 y0 4 rfl rfl QA.out size4i rfl I0.out.1 ?_; rw [← HW.out]))
  clear RA ZA QA
  go_loopw [8, 9, 20] (fun cv ev iv wr => ∃ i : Nat, i ≤ n ∧ iv = .int .i64 i ∧ cv = .int .i64 (boS d ring l i).c ∧ ev = .int .i64 (boS d ring l i).e ∧ Hid (IB wr w.heap.size 29 Z4) ∧ Hid (IB wr (w.heap.size + 1) 29 (boS d ring l i).at_) ∧ Hid (Rs4 wr g l) ∧ Hid (Below w.heap.size w wr)) (fun _ _ iv _ => n - (intOf iv).toNat)
  case atStart => exact ⟨0, by omega, rfl, by rw [S0.out], by rw [S0.out], Z1, by rw [S0.out]; exact Q1, R1, B1⟩
  case round =>
    clear Z1 Q1 R1 B1
    obtain ⟨i, hi, rfl, rfl, rfl, HZ, HQ, H4, HB⟩ := hrel
    by_cases hlt : i < n
    · have IX := hid (get_ix HL.out (show i < l.length by rw [HN.out]; exact hlt))
      have ST := hid (boS_step (d := d) (ring := ring) (l := l) (i := i) (by rw [HN.out]; exact hlt))
      have SI := hid (boS_ix (d := d) (ring := ring) HL.out (show 0 < l.length by rw [HN.out]; exact H0.out) i)
      have S64 := boS_64 (d := d) (ring := ring) (l := l) i
      have RG := hid (show wr.rangeAt g (i * 4) (ints (l.getD i [])) from by rw [Nat.mul_comm]; exact H4.out.2 i (by rw [HN.out]; exact hlt))
      have er := scE_range d ring (l.getD i [])
      have cr := scC_64 d (l.getD i []) 4
      have KS1 := hid (fun W h1 h2 => KS.out W h1 h2 (l.getD i []) IX.out)
      obtain ⟨x, hx⟩ : ∃ x, x = l.getD i [] := ⟨_, rfl⟩
      rw [← hx] at IX ST RG er cr KS1
      clear hx
      generalize scC d x 4 = C at *
      generalize scE d ring x = E at *
      obtain ⟨sa, hsa⟩ : ∃ sa, sa = (boS d ring l i).at_ := ⟨_, rfl⟩
      obtain ⟨sc, hsc⟩ : ∃ sc, sc = (boS d ring l i).c := ⟨_, rfl⟩
      obtain ⟨se, hse⟩ : ∃ se, se = (boS d ring l i).e := ⟨_, rfl⟩
      unfold in64 at S64
      rw [← hsc, ← hse] at ST S64 ⊢
      rw [← hsa] at SI HQ
      have KB := hid (fun W => refBetter_any C E sc se W cr.1 cr.2 (by omega) (by omega) S64.1.1 S64.1.2 S64.2.1 S64.2.2)
      have X4 := hid IX.out.1
      have SL := hid SI.out.1
      have HSA := hid hsa
      have HSC := hid hsc
      have HSE := hid hse
      have hi4 : (Try.prog.info? 29).map (·.size) = some (ints x).length := by rw [ints_len, X4.out]; exact size4i
      have HI4 := hid hi4
      have hL := (Below.refl wr.heap.size wr).alloc (Nat.le_refl _) (.cells (agi Z4) 29)
      have XX0 := hid (IB.setRow (IB.new wr 29 Z4) x)
      have Z2 := hid (show IB ((wr.alloc (.cells (agi Z4) 29)).setRow wr.heap.size (agi x)) w.heap.size 29 Z4 from Blk.rowFar (Blk.below' HZ.out hL) (by have := Blk.lt HZ.out; omega))
      have Q2 := hid (show IB ((wr.alloc (.cells (agi Z4) 29)).setRow wr.heap.size (agi x)) (w.heap.size + 1) 29 sa from Blk.rowFar (Blk.below' HQ.out hL) (by have := Blk.lt HQ.out; omega))
      have R2 := hid (show Rs4 ((wr.alloc (.cells (agi Z4) 29)).setRow wr.heap.size (agi x)) g l from Rs4.rowFar (H4.out.below hL) (by have := H4.out.1; omega) _)
      have B2 := hid (below_setRow (HB.out.trans (hL.mono HB.out.size)) (g := wr.heap.size) HB.out.size (agi x))
      have RGA := hid (show (wr.alloc (.cells (agi Z4) 29)).rangeAt g (i * 4) (ints x) from World.rangeAt_alloc RG.out _)
      obtain ⟨w1, hw1⟩ : ∃ w1, w1 = (wr.alloc (.cells (agi Z4) 29)).setRow wr.heap.size (agi x) := ⟨_, rfl⟩
      rw [← hw1] at XX0 Z2 Q2 R2 B2
      rw [show agi Z4 = #[.int .i64 0, .int .i64 0, .int .i64 0, .int .i64 0] from rfl] at hw1
      have HW1 := hid hw1
      have in1 : (i : Int) < n := by omega
      have in0 : (0 : Int) ≤ i := by omega
      clear hsa hsc hse hi4 hL hw1 er cr S64 HZ HQ H4 HB
      go_wp2_with (first
        | (refine wpList_load_mid rfl 29 (.tmp 23) rfl g (i * 4) rfl (ints x) _ RG.out u4 rfl HI4.out ?_)
        | (refine wpList_load_mid rfl 29 (.tmp 23) rfl g (i * 4) rfl (ints x) _ RGA.out u4 rfl HI4.out ?_)
        | (refine wpList_storeI rfl 29 (.tmp 11) (.tmp 24) rfl _ 29 Z4 x 4 rfl rfl (IB.new wr _ Z4) size4i rfl X4.out ?_; rw [← HW1.out])
        | (refine wpList_loadI rfl 29 (.tmp 11) rfl _ 29 x 4 _ rfl XX0.out Try.underlying29 rfl size4i X4.out ?_))
      refine (KS1.out w1 ((HD.out.below B2.out).more B2.out.size) ((HR.out.below B2.out).more B2.out.size)).mono ?_
      rintro e w2 ⟨rfl, hB⟩
      have XX := hid (Blk.below' XX0.out hB)
      have ZX := hid (Blk.below' Z2.out hB)
      have QX := hid (Blk.below' Q2.out hB)
      have RX := hid (R2.out.below hB)
      have BX := hid (B2.out.trans (hB.mono B2.out.size))
      clear hB KS1 XX0 Z2 Q2 R2 B2 RG RGA HW1
      by_cases hi0 : i = 0
      · have NS := hid (show boS d ring l (i + 1) = ⟨x, false, C, E⟩ by rw [ST.out, if_pos (.inl hi0)])
        have e0 : ((i : Int) == 0) = true := by simp; omega
        have e1 : (i : Int) = 0 := by omega
        clear ST KB hi0
        have P1 := hid (IB.setRow QX.out x)
        have P2 := hid (Blk.rowFar (c2 := agi x) (g := w.heap.size + 1) ZX.out (by omega))
        have P3 := hid (RX.out.rowFar (b := w.heap.size + 1) (by have := RX.out.1; have := GL.out; omega) (agi x))
        have P4 := hid (below_setRow BX.out (g := w.heap.size + 1) (by omega) (agi x))
        go_wp2_with (first
          | (refine wpList_loadI rfl 29 (.tmp 11) rfl _ 29 x 4 _ rfl XX.out Try.underlying29 rfl size4i X4.out ?_)
          | (refine wpList_storeI rfl 29 (.tmp 7) (.tmp 42) rfl _ 29 sa x 4 rfl rfl QX.out size4i SL.out X4.out ?_))
        go_roundw
        case rel => exact ⟨i + 1, by omega, by go_num, by rw [NS.out], by rw [NS.out], P2, by rw [NS.out]; exact P1, P3, P4⟩
        case measure => simp [intOf] <;> omega
      · have e0 : ((i : Int) == 0) = false := by simp; omega
        have e1 : ¬ (i : Int) = 0 := by omega
        obtain ⟨b, hb⟩ : ∃ b, b = betterB C E sc se := ⟨_, rfl⟩
        rw [← hb] at KB ST
        clear hb
        go_wp2_with fail
        refine (KB.out w2).mono ?_
        rintro e w3 ⟨rfl, hB⟩
        have XX' := hid (Blk.below' XX.out hB)
        have ZX' := hid (Blk.below' ZX.out hB)
        have QX' := hid (Blk.below' QX.out hB)
        have RX' := hid (RX.out.below hB)
        have BX' := hid (BX.out.trans (hB.mono BX.out.size))
        clear hB XX ZX QX RX BX KB
        rename Hid (IB w3 wr.heap.size _ x) => XX
        rename Hid (IB w3 w.heap.size _ Z4) => ZX
        rename Hid (IB w3 (w.heap.size + 1) _ sa) => QX
        rename Hid (Rs4 w3 g l) => RX
        rename Hid (Below w.heap.size w w3) => BX
        rcases Bool.eq_false_or_eq_true b with rfl | rfl
        rotate_left
        · have NS := hid (show boS d ring l (i + 1) = boS d ring l i by rw [ST.out, if_neg (by rintro (h1 | h1); exact hi0 h1; cases h1)])
          go_wp2
          go_roundw
          case rel => exact ⟨i + 1, by omega, by go_num, by rw [NS.out, HSC.out], by rw [NS.out, HSE.out], ZX, by rw [NS.out, ← HSA.out]; exact QX, RX, BX⟩
          case measure => simp [intOf] <;> omega
        have NS := hid (show boS d ring l (i + 1) = ⟨x, false, C, E⟩ by rw [ST.out, if_pos (.inr rfl)])
        clear ST hi0
        have P1 := hid (IB.setRow QX.out x)
        have P2 := hid (Blk.rowFar (c2 := agi x) (g := w.heap.size + 1) ZX.out (by omega))
        have P3 := hid (RX.out.rowFar (b := w.heap.size + 1) (by have := RX.out.1; have := GL.out; omega) (agi x))
        have P4 := hid (below_setRow BX.out (g := w.heap.size + 1) (by omega) (agi x))
        go_wp2_with (first
          | (refine wpList_loadI rfl 29 (.tmp 11) rfl _ 29 x 4 _ rfl XX.out Try.underlying29 rfl size4i X4.out ?_)
          | (refine wpList_storeI rfl 29 (.tmp 7) (.tmp 42) rfl _ 29 sa x 4 rfl rfl QX.out size4i SL.out X4.out ?_))
        go_roundw
        case rel => exact ⟨i + 1, by omega, by go_num, by rw [NS.out], by rw [NS.out], P2, by rw [NS.out]; exact P1, P3, P4⟩
        case measure => simp [intOf] <;> omega
    · obtain rfl : i = n := by omega
      have EE := hid (show boS d ring l i = bestL d ring l by
        unfold boS
        rw [if_neg (by have := H0.out; omega), ← HN.out, List.take_length])
      have XL := (boS_ix (d := d) (ring := ring) HL.out (show 0 < l.length by rw [HN.out]; exact H0.out) i).1
      rw [EE.out] at HQ XL
      obtain ⟨xs, hxs⟩ : ∃ xs, xs = (bestL d ring l).at_ := ⟨_, rfl⟩
      rw [← hxs] at HQ XL
      have HXS := hid hxs
      clear hxs
      have XL := hid XL
      have RF := hid (IB.setRow HZ.out xs)
      have BF := hid (below_setRow HB.out (Nat.le_refl _) (agi xs))
      go_wp2_with (first
        | (refine wpList_loadI rfl 29 (.tmp 7) rfl _ 29 xs 4 _ rfl HQ.out Try.underlying29 rfl size4i XL.out ?_)
        | (refine wpList_storeI rfl 29 (.tmp 6) (.tmp 46) rfl _ 29 Z4 xs 4 rfl rfl HZ.out size4i rfl XL.out ?_))
      refine bodyPost_ret (v := _) (hR _ _ _ 29 xs _ 4 rfl RF.out Try.underlying29 rfl size4i XL.out) rfl ?_
      exact ⟨by rw [HXS.out], BF.out⟩
end Go.Proofs.Ytcfmipobgljbeaa
