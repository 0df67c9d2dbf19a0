/- The walk of the reference's Levinson. -/
import Derived.Test.YthajpmilccpgeaaLevW
import Derived.Test.YthajpmilccpgeaaGrownW
import Derived.Test.YthajpmilccpgeaaDirR
import Derived.Test.YthajpmilccpgeaaBigMore
import Derived.Deep.RegionHeld3
namespace Go.Proofs.Ythajpmilccpgeaa
set_option linter.unusedVariables false
set_option linter.unusedSimpArgs false
set_option maxRecDepth 100000
open Go.RowKit

/-- The boxes of the reference's Levinson: the sums, the answer, the reflections. -/
structure BxL (w wr : World) (r kk : List Int) : Prop where
  A : IB wr w.heap.size 37 r
  R : IB wr (w.heap.size + 1) 33 Z8
  K : IB wr (w.heap.size + 1 + 1) 33 kk
  bel : Below w.heap.size w wr
theorem BxL.lt {w wr : World} {r kk : List Int} (h : BxL w wr r kk) : w.heap.size + 1 + 1 < wr.heap.size := Blk.lt h.K
theorem BxL.below {w wr wr' : World} {r kk : List Int} (h : BxL w wr r kk) (hb : Below wr.heap.size wr wr') : BxL w wr' r kk :=
  ⟨Blk.below' h.A hb, Blk.below' h.R hb, Blk.below' h.K hb, h.bel.trans (hb.mono (by have := h.lt; omega))⟩
theorem BxL.setK {w wr : World} {r kk : List Int} (h : BxL w wr r kk) (i : Nat) (v : Int) : BxL w (wr.setCell ⟨w.heap.size + 1 + 1, i, none⟩ (.int .i64 v)) r (kk.set i v) :=
  ⟨Blk.far h.A (by show w.heap.size ≠ w.heap.size + 1 + 1; omega) _, Blk.far h.R (by show w.heap.size + 1 ≠ w.heap.size + 1 + 1; omega) _, IB.set_ h.K i v, h.bel.setCell (p := ⟨w.heap.size + 1 + 1, i, none⟩) (by show w.heap.size ≤ w.heap.size + 1 + 1; omega) _⟩
theorem BxL.start (w : World) (r : List Int) : BxL w (((w.alloc (.cells (agi r) 37)).alloc (.cells (agi Z8) 33)).alloc (.cells (agi Z8) 33)) r Z8 := by
  have h1 := IB.new w 37 r
  have h2 := IB.new (w.alloc (.cells (agi r) 37)) 33 Z8
  have h3 := IB.new ((w.alloc (.cells (agi r) 37)).alloc (.cells (agi Z8) 33)) 33 Z8
  simp only [World.size_alloc] at h2 h3
  exact ⟨(Blk.alloc h1 _).alloc _, Blk.alloc h2 _, h3, (((Below.refl _ _).alloc (Nat.le_refl _) _).alloc (by simp) _).alloc (by simp; omega) _⟩

theorem own_ne {w : World} {base g g' c : Nat} {xs : List Int} {t : TypeId} {cs : Array Value} (h : Own w base (some ⟨g, 0, none⟩) c xs) (hn : 0 < xs.length) (hb : Blk w g' t cs) (ht : 3 ≠ t) : g ≠ g' := by
  obtain ⟨g2, cap, cur, hA, _, _, hh, _⟩ := h.form hn
  injection hA with hA
  injection hA with hA
  subst hA
  exact Blk.ne_ (t := 3) hh hb ht

set_option maxHeartbeats 16000000 in
theorem refLevinson_any (r : List Int) (w : World) (hl : r.length = 9) : Calls Try.prog 29 #[.agg (agi r)] w (Levs w r) := by
  have I0 := hid (BxL.start w r)
  have hR := results_row3 (fn := Try.f29) (p := 2) (q := 3) (r := 4) (ty := 33) rfl
  have HL := hid hl
  have HIX := hid (fun (k : Nat) (hk : k < 9) (w : World) => run_index_agi Try.underlying37 r hl k hk w)
  have c0 := IB.cell I0.out.A 0 (by omega)
  obtain ⟨r0, hr0⟩ : ∃ r0, r0 = r.getD 0 0 := ⟨_, rfl⟩
  rw [← hr0, z8_eq] at c0
  have HR0 := hid hr0
  rw [z8_eq] at I0
  clear hl hr0
  go_enter Try.func29, Try.ntmps29
  go_wp2_with (refine wpList_loadI rfl 37 (.tmp 1) rfl _ 37 r 9 _ rfl I0.out.A Try.underlying37 rfl size9 HL.out ?_)
  go_loop [16] (fun iv => ∃ k : Nat, k ≤ 9 ∧ iv = .int .i64 k ∧ Hid (allTo okS r k)) (fun iv => 9 - (intOf iv).toNat)
  case atStart => exact ⟨0, by omega, rfl, hid allTo.zero⟩
  case round =>
    obtain ⟨k, hk, rfl, HY⟩ := hrel
    by_cases hlt : k < 9
    · have hix := HIX.out k hlt
      obtain ⟨x, hx⟩ : ∃ x, x = r.getD k 0 := ⟨_, rfl⟩
      rw [← hx] at hix
      have HX := hid hx
      clear hx
      by_cases hbad : x < -2147483647 ∨ 2147483647 < x
      · have FIN := hid (lev_ans (levR_bad (all_no (i := k) (by rw [HL.out]; exact hlt) (okS_no (by rw [← HX.out]; exact hbad)))) (below_setRow I0.out.bel (g := w.heap.size + 1) (by omega) (agi Z8)))
        rw [pad_nil] at FIN
        rcases hbad with b1 | b1
        · have b0 : ¬ 2147483647 < x := by omega
          have hRow := hid (I0.out.R.setRow (Z8))
          go_wp2_with (first
            | (refine wpList_loadI rfl 33 (.tmp 5) rfl _ 33 (Z8) 8 _ rfl I0.out.K Try.underlying33 rfl size8 rfl ?_)
            | (refine wpList_storeI rfl 33 (.tmp 2) (.tmp 25) rfl _ 33 Z8 (Z8) 8 rfl rfl I0.out.R size8 rfl rfl ?_))
          refine bodyPost_ret (v := _) (hR _ _ _ 33 (Z8) _ 8 rfl hRow.out Try.underlying33 rfl size8 rfl) rfl ?_
          exact FIN.out
        · skip
          have hRow := hid (I0.out.R.setRow (Z8))
          go_wp2_with (first
            | (refine wpList_loadI rfl 33 (.tmp 5) rfl _ 33 (Z8) 8 _ rfl I0.out.K Try.underlying33 rfl size8 rfl ?_)
            | (refine wpList_storeI rfl 33 (.tmp 2) (.tmp 25) rfl _ 33 Z8 (Z8) 8 rfl rfl I0.out.R size8 rfl rfl ?_))
          refine bodyPost_ret (v := _) (hR _ _ _ 33 (Z8) _ 8 rfl hRow.out Try.underlying33 rfl size8 rfl) rfl ?_
          exact FIN.out
      · have b1 : -2147483647 ≤ x := by omega
        have b2 : x ≤ 2147483647 := by omega
        have HN := hid (HY.out.succ (by rw [← HX.out]; exact okS_yes b1 b2))
        clear hbad
        go_wp2
        go_round
        case rel => exact ⟨k + 1, by omega, by go_num, HN⟩
        case measure => simp [intOf] <;> omega
    · obtain rfl : k = 9 := by omega
      have sd : r.all okS = true := HY.out.all (by rw [HL.out]; exact Nat.le_refl _)
      have RW := hid (okS_within sd)
      clear hlt
      by_cases hlow : r0 < 1
      · have FIN := hid (lev_ans (levR_low (r := r) (by rw [← HR0.out]; omega)) (below_setRow I0.out.bel (g := w.heap.size + 1) (by omega) (agi Z8)))
        rw [pad_nil] at FIN
        clear sd
        have hRow := hid (I0.out.R.setRow (Z8))
        go_wp2_with (first
          | (refine wpList_loadI rfl 33 (.tmp 5) rfl _ 33 (Z8) 8 _ rfl I0.out.K Try.underlying33 rfl size8 rfl ?_)
          | (refine wpList_storeI rfl 33 (.tmp 2) (.tmp 31) rfl _ 33 Z8 (Z8) 8 rfl rfl I0.out.R size8 rfl rfl ?_))
        refine bodyPost_ret (v := _) (hR _ _ _ 33 (Z8) _ 8 rfl hRow.out Try.underlying33 rfl size8 rfl) rfl ?_
        exact FIN.out
      · have h0 : 0 < r0 := by omega
        have ST0 := hid (LevSt.start sd (by rw [← HR0.out]; exact h0))
        rw [← HR0.out] at ST0
        have hs0 : w.heap.size + 1 + 1 + 1 = (((w.alloc (.cells (agi r) 37)).alloc (.cells (agi Z8) 33)).alloc (.cells (agi Z8) 33)).heap.size := by simp
        have G0 := own_lit1 (((w.alloc (.cells (agi r) 37)).alloc (.cells (agi Z8) 33)).alloc (.cells (agi Z8) 33)) 16777216 w.heap.size (by rw [← hs0]; omega)
        rw [← hs0, z8_eq] at G0
        have G0 := hid G0
        have I1 := hid (I0.out.below ((Below.refl _ _).alloc (Nat.le_refl _) (.cells #[.int .i64 16777216] 3)))
        have hlow2 : ¬ r0 < 1 := hlow
        clear sd hlow hs0
        go_wp2
        go_loopw [8, 9, 10] (fun ev av mv wr => ∃ (m n g c : Nat) (e : Int) (al k : List Int), m ≤ 8 ∧ mv = .int .i64 m ∧ ev = .int .i64 e ∧ av = .slice (some ⟨g, 0, none⟩) n c ∧ Hid (n = m + 1) ∧ Hid (LevSt r (m + 1) al e k) ∧ Hid (Own wr w.heap.size (some ⟨g, 0, none⟩) c al) ∧ Hid (BxL w wr r (padTo 8 k))) (fun _ _ mv _ => 8 - (intOf mv).toNat)
        case atStart => exact ⟨0, 1, _, _, r0, _, [], by omega, rfl, rfl, rfl, hid rfl, ST0, G0, I1⟩
        case round =>
          clear I0 I1 c0 ST0 G0
          obtain ⟨m, n, g, c, e, al, k, hm8, rfl, rfl, rfl, HN, ST, HG, HI⟩ := hrel
          obtain ⟨wo, rfl⟩ : ∃ wo : World, wo = wr := ⟨_, rfl⟩
          have LK := hid (padTo_len (n := 8) (k := k) (by have := ST.out.lk; omega))
          have LA := hid (show al.length = n by rw [ST.out.la, HN.out])
          by_cases hlt : m < 8
          · have AB := hid (ST.out.bnd (by omega))
            have he0 := ST.out.e0
            have he1 := ST.out.e1
            have hn9 : n ≤ 8 := by have := HN.out; omega
            have dm : decide ((m : Int) < 8) = true := by simp; omega
            go_wp2
            go_loopw [11, 39] (fun sv iv wr => ∃ (i : Nat) (s : Int), i ≤ n ∧ iv = .int .i64 i ∧ sv = .int .i64 s ∧ Hid (s = sumN (lterm al r n) i) ∧ Hid (Own wr w.heap.size (some ⟨g, 0, none⟩) c al) ∧ Hid (BxL w wr r (padTo 8 k))) (fun _ iv _ => n - (intOf iv).toNat)
            case atStart => exact ⟨0, 0, by omega, rfl, rfl, hid rfl, HG, HI⟩
            case round =>
              clear HG HI
              obtain ⟨i, s, hi, rfl, rfl, HS, HG, HI⟩ := hrel
              by_cases hil : i < n
              · obtain ⟨d, hd⟩ : ∃ d : Nat, n = i + d := ⟨n - i, by omega⟩
                have ca := HG.out.cell i (by rw [LA.out]; omega)
                have c2 := HI.out.A.cell d (by rw [HL.out]; omega)
                have tb := lterm_bound (m := n) AB.out RW.out i
                have sb := lsum_bound (m := n) AB.out RW.out i (by omega)
                rw [← HS.out] at sb
                have HT := hid (show sumN (lterm al r n) (i + 1) = s + lterm al r n i by rw [HS.out]; rfl)
                unfold lterm at tb HT
                rw [show n - i = d from by omega] at tb HT
                have bx := AB.out i
                generalize al.getD i 0 = x at *
                generalize r.getD d 0 = y at *
                obtain ⟨⟨t1, t2⟩, ⟨t3, t4⟩, ⟨t5, t6⟩⟩ := tb
                obtain ⟨s1, s2⟩ := sb
                obtain ⟨bx1, bx2⟩ := bx
                have hd9 : d < 9 := by omega
                have hdI : (d : Int) < 9 := by omega
                have hd0 : (0 : Int) ≤ (d : Int) := by omega
                have hin : (i : Int) < n := by omega
                have hmn := HN.out
                have hwA : IntKind.i64.wrap ((m : Int) + 1) = (m : Int) + 1 := by rw [IntKind.wrap_i64]; omega
                have hwB : IntKind.i64.wrap ((m : Int) + 1 - (i : Int)) = (d : Nat) := by rw [IntKind.wrap_i64]; omega
                have hwC : IntKind.i64.wrap (x / 512 * y) = x / 512 * y := by rw [IntKind.wrap_i64]; omega
                have hwD : IntKind.i64.wrap (s + x / 512 * y / 32768) = s + x / 512 * y / 32768 := by rw [IntKind.wrap_i64]; omega
                have K1 := hid (fun W => down9 x W (by omega) (by omega))
                have K2 := hid (fun W => down15 (x / 512 * y) W (by omega) (by omega))
                have hltA := Blk.lt HI.out.A
                have HD := hid hd
                have HMN := hid hmn
                clear hd hmn
                go_wp2
                go_region_held3 (fun w' => w'.cell? ⟨w.heap.size, d, none⟩ = some (.int .i64 y)) (go_keep)
                  (first
                  | (go_at_call 47; (with_reducible refine (K1.out _).mono ?_); rintro e1 w3 ⟨rfl, hB⟩; have k1 := (hB.cell (p := ⟨w.heap.size, d, none⟩) hltA).trans c2; have q1 := hid hB; clear hB)
                  | (go_at_call 47; (with_reducible refine (K2.out _).mono ?_); rintro e1 w4 ⟨rfl, hB⟩; have k2 := (hB.cell (p := ⟨w.heap.size, d, none⟩) (Nat.lt_of_lt_of_le hltA q1.out.size)).trans k1; have q2 := hid hB; clear hB))
                all_goals
                  clear hwA hwB hwC hwD
                  have BB := hid (show Below wr.heap.size wr w4 from (below_undrew q1.out).trans (q2.out.mono q1.out.size))
                  have G4 := hid (HG.out.below BB.out)
                  have I4 := hid (HI.out.below BB.out)
                  go_wp2
                  go_roundw
                  case rel => exact ⟨i + 1, _, by omega, by go_num, rfl, hid HT.out.symm, G4, I4⟩
                  case measure => simp [intOf] <;> omega
              · obtain rfl : n = i := by omega
                have sb := lsum_bound (m := n) AB.out RW.out n hn9
                rw [← HS.out] at sb
                obtain ⟨s1, s2⟩ := sb
                obtain ⟨q, hq⟩ : ∃ q, q = (-s * 32768).tdiv e := ⟨_, rfl⟩
                have tq := tdiv_bound (x := -s * 32768) (e := e) he0
                rw [← hq] at tq
                have q1 : -1000000000000000000 ≤ q := by omega
                have q2 : q ≤ 1000000000000000000 := by omega
                have HQ := hid (show q = (-lacc al r (m + 1) * 32768).tdiv e by rw [hq, HS.out, lacc_eq, HN.out])
                have HQE := hid hq
                have hne := own_ne HG.out (by rw [LA.out]; have := HN.out; omega) HI.out.K (by decide)
                clear hq tq hil
                go_wp2_with fail
                refine (whole_any _ (-s) (by omega) (by omega)).mono ?_
                rintro e1 w1 ⟨bA, rfl, hbA, hI, hB⟩
                have n1 := IntBlk.new wr (.bool false) (.slice none 0 0)
                have n2 := IntBlk.new (wr.alloc (.cells #[.bool false, .slice none 0 0] 64)) (.bool false) (.slice none 0 0)
                simp only [World.size_alloc] at n2
                have Z1 := hid (IntBlk.below (n1.below ((Below.refl _ _).alloc (Nat.le_refl _) (.cells #[.bool false, .slice none 0 0] 64)) (Nat.le_refl _)) hB (Nat.le_refl _))
                have Y1 := hid (IntBlk.below n2 hB (Nat.le_refl _))
                have X1 := hid hI
                have B1 := hid ((((Below.refl _ wr).alloc (Nat.le_refl _) (.cells #[.bool false, .slice none 0 0] 64)).alloc (by simp) (.cells #[.bool false, .slice none 0 0] 64)).trans (hB.mono (by simp; omega)))
                have hbA2 : wr.heap.size + 1 + 1 ≤ bA := by simpa using hbA
                clear hI hB n1 n2 hbA
                go_wp2_with fail
                refine (Lsh_any _ (wr.heap.size + 1) bA (-s) 15 Y1.out X1.out (sm_of_lt (by omega)) (by omega)).mono ?_
                rintro e1 w2 ⟨rfl, hI, hG⟩
                rw [show (2 : Int) ^ 15 = 32768 from by decide] at hI
                have Z2 := hid (IntBlk.kept Z1.out hG (by omega))
                have Y2 := hid hI
                have B2 := hid (below_of_grownBy B1.out hG (by omega))
                clear hI hG Z1 Y1 X1 B1
                go_wp2_with fail
                refine (whole_any _ e (by omega) (by omega)).mono ?_
                rintro e1 w3 ⟨bB, rfl, hbB, hI, hB⟩
                have Z3 := hid (Z2.out.below hB (Nat.le_refl _))
                have Y3 := hid (Y2.out.below hB (Nat.le_refl _))
                have X3 := hid hI
                have B3 := hid (B2.out.trans (hB.mono B2.out.size))
                clear hI hB Z2 Y2 B2
                go_wp2_with fail
                refine (Quo_any _ wr.heap.size (wr.heap.size + 1) bB (-s * 32768) e Z3.out Y3.out X3.out (.inl (by omega)) (by omega) (sm_of_lt (by omega)) (sm_of_lt (by omega))).mono ?_
                rintro e1 w4 ⟨rfl, hI, hG⟩
                rw [← HQE.out] at hI
                have Z4 := hid hI
                have B4 := hid (below_of_grownBy B3.out hG (Nat.le_refl _))
                clear hI hG Z3 Y3 X3 B3
                have KI := hid (IsInt64_yes w4 wr.heap.size q Z4.out (by omega) (by omega))
                have KJ := hid (Int64_any w4 wr.heap.size q Z4.out (by omega) (by omega))
                have G4 := hid (HG.out.below B4.out)
                have I4 := hid (HI.out.below B4.out)
                have hlt4 := I4.out.lt
                clear Z4 B4 HG HI
                by_cases hb : q ≤ -32000 ∨ 32000 ≤ q
                · have FIN := hid (lev_ans (ST.out.stop (by omega) (by omega) HQ.out hb) (below_setRow I4.out.bel (g := w.heap.size + 1) (by omega) (agi (padTo 8 k))))
                  rcases hb with b1 | b1
                  · skip
                    have hRow := hid (I4.out.R.setRow (padTo 8 k))
                    go_wp2_with (first
                    | (go_at_call 53; refine KI.out.mono ?_; rintro e1 w5 ⟨rfl, rfl⟩)
                    | (go_at_call 46; refine KJ.out.mono ?_; rintro e1 w5 ⟨rfl, rfl⟩)
                      | (refine wpList_loadI rfl 33 (.tmp 5) rfl _ 33 (padTo 8 k) 8 _ rfl I4.out.K Try.underlying33 rfl size8 LK.out ?_)
                      | (refine wpList_storeI rfl 33 (.tmp 2) (.tmp 79) rfl _ 33 Z8 (padTo 8 k) 8 rfl rfl I4.out.R size8 rfl LK.out ?_))
                    refine bodyPost_ret (v := _) (hR _ _ _ 33 (padTo 8 k) _ 8 rfl hRow.out Try.underlying33 rfl size8 LK.out) rfl ?_
                    exact FIN.out
                  · have b0 : ¬ q ≤ -32000 := by omega
                    have hRow := hid (I4.out.R.setRow (padTo 8 k))
                    go_wp2_with (first
                    | (go_at_call 53; refine KI.out.mono ?_; rintro e1 w5 ⟨rfl, rfl⟩)
                    | (go_at_call 46; refine KJ.out.mono ?_; rintro e1 w5 ⟨rfl, rfl⟩)
                      | (refine wpList_loadI rfl 33 (.tmp 5) rfl _ 33 (padTo 8 k) 8 _ rfl I4.out.K Try.underlying33 rfl size8 LK.out ?_)
                      | (refine wpList_storeI rfl 33 (.tmp 2) (.tmp 79) rfl _ 33 Z8 (padTo 8 k) 8 rfl rfl I4.out.R size8 rfl LK.out ?_))
                    refine bodyPost_ret (v := _) (hR _ _ _ 33 (padTo 8 k) _ 8 rfl hRow.out Try.underlying33 rfl size8 LK.out) rfl ?_
                    exact FIN.out
                · have b1 : -32000 < q := by omega
                  have b2 : q < 32000 := by omega
                  clear hb
                  have cK := I4.out.K.cell m (by rw [LK.out]; exact hlt)
                  have fK := Blk.frozen I4.out.K m
                  have LK2 := hid (padTo_len (n := 8) (k := k ++ [q]) (by have := ST.out.lk; simp; omega))
                  have I5 := hid (show BxL w (w4.setCell ⟨w.heap.size + 1 + 1, m, none⟩ (.int .i64 q)) r (padTo 8 (k ++ [q])) by
                    have := I4.out.setK m q
                    rw [padTo_snoc q (by have := ST.out.lk; omega), show k.length = m from by have := ST.out.lk; omega]
                    exact this)
                  have cq : (w4.setCell ⟨w.heap.size + 1 + 1, m, none⟩ (.int .i64 q)).cell? ⟨w.heap.size + 1 + 1, m, none⟩ = some (.int .i64 q) := World.cell?_setCell_same _ _ _ cK
                  have G5 := hid (G4.out.kept (row := some (w.heap.size + 1 + 1)) (w' := w4.setCell ⟨w.heap.size + 1 + 1, m, none⟩ (.int .i64 q)) ⟨rfl, rfl, rfl, by simp [World.setCell], fun i _ hn => Below.heap_setCell _ _ _ i (by simpa using hn)⟩ (fun ad h => by injection h with h; subst h; simpa using hne))
                  have KG := hid (grown_any (some ⟨g, 0, none⟩) c al q n _ G5.out.reads LA.out (by have := HN.out; omega) (by omega) ⟨by omega, by omega⟩ AB.out)
                  go_wp2_with (first
                    | (go_at_call 53; refine KI.out.mono ?_; rintro e1 w5 ⟨rfl, rfl⟩)
                    | (go_at_call 46; refine KJ.out.mono ?_; rintro e1 w5 ⟨rfl, rfl⟩))
                  refine KG.out.mono ?_
                  rintro e1 w5 ⟨P2, c2, rfl, hO, hB⟩
                  obtain ⟨g2, rfl, _, _⟩ := hO.head (by rw [growL_len]; omega)
                  have G6 := hid (hO.more (base' := w.heap.size) I5.out.bel.size)
                  have I6 := hid (I5.out.below hB)
                  have cq6 : w5.cell? ⟨w.heap.size + 1 + 1, m, none⟩ = some (.int .i64 q) := (hB.cell (p := ⟨w.heap.size + 1 + 1, m, none⟩) (by have := I5.out.lt; exact this)).trans cq
                  have hltK := Blk.lt I6.out.K
                  rw [growL_len]
                  clear hO hB cq cK fK KG KI KJ I5 G5 G4 I4
                  obtain ⟨⟨u1, u2⟩, ⟨u3, u4⟩, u5, u6⟩ := e_bound he0 he1 b1 b2
                  have D1 := hid (fun W => down15 (e * q) W (by omega) (by omega))
                  have D2 := hid (fun W => down15 (e * q / 32768 * q) W (by omega) (by omega))
                  obtain ⟨e', he'⟩ : ∃ e', e' = e - e * q / 32768 * q / 32768 := ⟨_, rfl⟩
                  have hm0 : (0 : Int) ≤ (m : Int) := by omega
                  have hm1 : (m : Int) < 8 := by omega
                  have hw1 : IntKind.i64.wrap (e * q) = e * q := by rw [IntKind.wrap_i64]; omega
                  have hw2 : IntKind.i64.wrap (e * q / 32768 * q) = e * q / 32768 * q := by rw [IntKind.wrap_i64]; omega
                  have hw3 : IntKind.i64.wrap (e - e * q / 32768 * q / 32768) = e' := by rw [IntKind.wrap_i64]; omega
                  have HE := hid he'
                  have v1 : e' ≤ 2147483647 := by omega
                  have v2 : -2147483648 ≤ e' := by omega
                  clear he' u5 u6
                  go_wp2
                  go_region_held3 (fun w' => w'.cell? ⟨w.heap.size + 1 + 1, m, none⟩ = some (.int .i64 q)) (go_keep)
                    (first
                    | (go_at_call 47; (with_reducible refine (D1.out _).mono ?_); rintro e1 w6 ⟨rfl, hB⟩; have k1 := (hB.cell (p := ⟨w.heap.size + 1 + 1, m, none⟩) hltK).trans cq6; have r1 := hid hB; clear hB)
                    | (go_at_call 47; (with_reducible refine (D2.out _).mono ?_); rintro e1 w7 ⟨rfl, hB⟩; have k2 := (hB.cell (p := ⟨w.heap.size + 1 + 1, m, none⟩) (Nat.lt_of_lt_of_le hltK r1.out.size)).trans k1; have r2 := hid hB; clear hB))
                  all_goals
                    clear hw1 hw2 hw3
                    have BB := hid (show Below w5.heap.size w5 w7 from (below_undrew r1.out).trans (r2.out.mono r1.out.size))
                    have G7 := hid (G6.out.below BB.out)
                    have I7 := hid (I6.out.below BB.out)
                    by_cases hend : e' < 1
                    · have FIN := hid (lev_ans (ST.out.none_ (by omega) (by omega) HQ.out b1 b2 (by rw [← HE.out]; omega)) (below_setRow I7.out.bel (g := w.heap.size + 1) (by omega) (agi (padTo 8 (k ++ [q])))))
                      have hRow := hid (I7.out.R.setRow (padTo 8 (k ++ [q])))
                      go_wp2_with (first
                        | (refine wpList_loadI rfl 33 (.tmp 5) rfl _ 33 (padTo 8 (k ++ [q])) 8 _ rfl I7.out.K Try.underlying33 rfl size8 LK2.out ?_)
                        | (refine wpList_storeI rfl 33 (.tmp 2) (.tmp 105) rfl _ 33 Z8 (padTo 8 (k ++ [q])) 8 rfl rfl I7.out.R size8 rfl LK2.out ?_))
                      refine bodyPost_ret (v := _) (hR _ _ _ 33 (padTo 8 (k ++ [q])) _ 8 rfl hRow.out Try.underlying33 rfl size8 LK2.out) rfl ?_
                      exact FIN.out
                    · have NST := hid (ST.out.next (by omega) (by omega) HQ.out b1 b2 (by rw [← HE.out]; omega))
                      rw [← HE.out] at NST
                      have hend2 : 1 ≤ e' := by omega
                      go_wp2
                      go_roundw
                      case rel => exact ⟨m + 1, n + 1, g2, c2, e', _, _, by omega, by go_num, rfl, rfl, hid (by rw [HN.out]), by rw [← HN.out] at *; exact NST, G7, I7⟩
                      case measure => simp [intOf] <;> omega
          · obtain rfl : m = 8 := by omega
            have FIN := hid (lev_ans ST.out.fin (below_setRow HI.out.bel (g := w.heap.size + 1) (by omega) (agi (padTo 8 k))))
            clear hlt
            have hRow := hid (HI.out.R.setRow (padTo 8 k))
            go_wp2_with (first
              | (refine wpList_loadI rfl 33 (.tmp 5) rfl _ 33 (padTo 8 k) 8 _ rfl HI.out.K Try.underlying33 rfl size8 LK.out ?_)
              | (refine wpList_storeI rfl 33 (.tmp 2) (.tmp 106) rfl _ 33 Z8 (padTo 8 k) 8 rfl rfl HI.out.R size8 rfl LK.out ?_))
            refine bodyPost_ret (v := _) (hR _ _ _ 33 (padTo 8 k) _ 8 rfl hRow.out Try.underlying33 rfl size8 LK.out) rfl ?_
            exact FIN.out
end Go.Proofs.Ythajpmilccpgeaa
