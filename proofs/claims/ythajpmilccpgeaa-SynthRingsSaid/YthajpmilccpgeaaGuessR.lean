/- The walk of the reference's guess. -/
import Derived.Test.YthajpmilccpgeaaNewR
import Derived.Test.YthajpmilccpgeaaFiltR
import Derived.Test.YthajpmilccpgeaaMakeW
namespace Go.Proofs.Ythajpmilccpgeaa
set_option linter.unusedVariables false
set_option linter.unusedSimpArgs false
set_option maxRecDepth 100000
open Go.RowKit

theorem agi8 (q0 q1 q2 q3 q4 q5 q6 q7 : Int) : agi [q0, q1, q2, q3, q4, q5, q6, q7] = #[.int .i64 q0, .int .i64 q1, .int .i64 q2, .int .i64 q3, .int .i64 q4, .int .i64 q5, .int .i64 q6, .int .i64 q7] := rfl

set_option maxHeartbeats 4000000 in
theorem refguess_any (a p l : List Int) (A : Option Addr) (c n m : Nat) (w : World) (ha : a.length = 9) (hp : p.length = 8) (oa : okP a = true) (op : all16 p = true) (ol : all16 l = true) (hr : Rs w w.heap.size A l) (hn : l.length = n) (hl : n ≤ 17592186044416) (hm : m ≤ n) (hc : n ≤ c) :
    Calls Try.prog 67 #[.agg (agi a), .agg (agi p), .slice A n c, .int .i64 m] w fun e w' => e = .returned (.int .i64 (guessL a (newL p (l.take m)))) ∧ Below w.heap.size w w' := by
  obtain ⟨p0, p1, p2, p3, p4, p5, p6, p7, rfl⟩ := list8 hp
  obtain ⟨ys, hy⟩ : ∃ ys, ys = newL [p0, p1, p2, p3, p4, p5, p6, p7] (l.take m) := ⟨_, rfl⟩
  have hyl : ys.length = 8 := by rw [hy]; exact newL_len _ _ rfl
  have h16 : all16 ys = true := by rw [hy]; exact newL_all _ _ op (all16_take ol m)
  have KN := fun (W : World) (hW : Rs W W.heap.size A (l.take m)) => newest_any [p0, p1, p2, p3, p4, p5, p6, p7] (l.take m) A c m 0 W rfl hW (by simp; omega) (by omega)
  rw [← hy] at KN ⊢
  obtain ⟨y0, y1, y2, y3, y4, y5, y6, y7, rfl⟩ := list8 hyl
  rw [agi8, agi8] at KN
  have KN := hid KN
  have hI := IB.new w 37 a
  have hJ := IB.new (w.alloc (.cells (agi a) 37)) 33 [p0, p1, p2, p3, p4, p5, p6, p7]
  simp only [World.size_alloc] at hJ
  have hI := Blk.alloc hI (.cells (agi [p0, p1, p2, p3, p4, p5, p6, p7]) 33)
  have hB := (((Below.refl _ w).alloc (Nat.le_refl _) (.cells (agi a) 37)).alloc (by simp) (.cells (agi [p0, p1, p2, p3, p4, p5, p6, p7]) 33))
  have hs : ((w.alloc (.cells (agi a) 37)).alloc (.cells (agi [p0, p1, p2, p3, p4, p5, p6, p7]) 33)).heap.size = w.heap.size + 1 + 1 := by simp
  have hr1 := hr.below hB
  have HA := hid ha
  have OA := hid oa
  have HY := hid hy
  have H16 := hid h16
  rw [agi8] at hI hJ hB hs hr1
  generalize hW : (w.alloc (.cells (agi a) 37)).alloc (.cells #[.int .i64 p0, .int .i64 p1, .int .i64 p2, .int .i64 p3, .int .i64 p4, .int .i64 p5, .int .i64 p6, .int .i64 p7] 33) = W at hI hJ hB hs hr1
  have c0 : W.cell? ⟨w.heap.size + 1, 0, none⟩ = some (.int .i64 p0) := IB.cell hJ 0 (by simp)
  have c1 : W.cell? ⟨w.heap.size + 1, 1, none⟩ = some (.int .i64 p1) := IB.cell hJ 1 (by simp)
  have c2 : W.cell? ⟨w.heap.size + 1, 2, none⟩ = some (.int .i64 p2) := IB.cell hJ 2 (by simp)
  have c3 : W.cell? ⟨w.heap.size + 1, 3, none⟩ = some (.int .i64 p3) := IB.cell hJ 3 (by simp)
  have c4 : W.cell? ⟨w.heap.size + 1, 4, none⟩ = some (.int .i64 p4) := IB.cell hJ 4 (by simp)
  have c5 : W.cell? ⟨w.heap.size + 1, 5, none⟩ = some (.int .i64 p5) := IB.cell hJ 5 (by simp)
  have c6 : W.cell? ⟨w.heap.size + 1, 6, none⟩ = some (.int .i64 p6) := IB.cell hJ 6 (by simp)
  have c7 : W.cell? ⟨w.heap.size + 1, 7, none⟩ = some (.int .i64 p7) := IB.cell hJ 7 (by simp)
  have HR2 := hid (fun W2 (hb : Below W.heap.size W W2) => (((hr1.take (k := m) (by omega)).below (hb.mono (by omega))).more (show w.heap.size ≤ W2.heap.size from by have := hb.size; omega)))
  have hm1 : (m : Int) ≤ c := by omega
  have hm0 : (0 : Int) ≤ m := by omega
  have hmc : m ≤ c := by omega
  have HI := hid hI
  have HB := hid hB
  have HW := hid hW
  have HS := hid hs
  clear hy hyl h16 hI hJ hB hr1 hs oa op ol ha hr hn
  go_enter Try.func67, Try.ntmps67
  go_wp2
  rw [agi8, hW]
  clear hW
  have HRZ := hid (HR2.out (W.alloc (.cells (agi Z8) 33)).drew (Below.drew ((Below.refl _ _).alloc (Nat.le_refl _) _)))
  have KZ := hid (KN.out (W.alloc (.cells (agi Z8) 33)).drew HRZ.out)
  rw [z8_eq] at KZ
  have hltJ : w.heap.size + 1 < W.heap.size := by have := HS.out; omega
  have hne1 : ¬ W.heap.size = w.heap.size + 1 := by omega
  have hne2 : ¬ w.heap.size + 1 = W.heap.size := by omega
  go_region_held3 (fun w' => w'.cell? ⟨w.heap.size + 1, 0, none⟩ = some (.int .i64 p0) ∧ w'.cell? ⟨w.heap.size + 1, 1, none⟩ = some (.int .i64 p1) ∧ w'.cell? ⟨w.heap.size + 1, 2, none⟩ = some (.int .i64 p2) ∧ w'.cell? ⟨w.heap.size + 1, 3, none⟩ = some (.int .i64 p3) ∧ w'.cell? ⟨w.heap.size + 1, 4, none⟩ = some (.int .i64 p4) ∧ w'.cell? ⟨w.heap.size + 1, 5, none⟩ = some (.int .i64 p5) ∧ w'.cell? ⟨w.heap.size + 1, 6, none⟩ = some (.int .i64 p6) ∧ w'.cell? ⟨w.heap.size + 1, 7, none⟩ = some (.int .i64 p7)) (go_keep) (first
    | (go_at_call 68; (with_reducible refine (KN.out W.drew (HR2.out _ (Below.drew (Below.refl _ _)))).mono ?_); rintro e w2 ⟨rfl, hB⟩; have HB2 := hid hB; clear hB; have hz2 : W.heap.size ≤ w2.heap.size := HB2.out.size; have n1 : ¬ w2.heap.size = w.heap.size + 1 := (by omega); have n2 : ¬ w.heap.size + 1 = w2.heap.size := (by omega); have k0 := (HB2.out.cell (p := ⟨w.heap.size + 1, 0, none⟩) (show w.heap.size + 1 < W.drew.heap.size from hltJ)).trans c0; have k1 := (HB2.out.cell (p := ⟨w.heap.size + 1, 1, none⟩) (show w.heap.size + 1 < W.drew.heap.size from hltJ)).trans c1; have k2 := (HB2.out.cell (p := ⟨w.heap.size + 1, 2, none⟩) (show w.heap.size + 1 < W.drew.heap.size from hltJ)).trans c2; have k3 := (HB2.out.cell (p := ⟨w.heap.size + 1, 3, none⟩) (show w.heap.size + 1 < W.drew.heap.size from hltJ)).trans c3; have k4 := (HB2.out.cell (p := ⟨w.heap.size + 1, 4, none⟩) (show w.heap.size + 1 < W.drew.heap.size from hltJ)).trans c4; have k5 := (HB2.out.cell (p := ⟨w.heap.size + 1, 5, none⟩) (show w.heap.size + 1 < W.drew.heap.size from hltJ)).trans c5; have k6 := (HB2.out.cell (p := ⟨w.heap.size + 1, 6, none⟩) (show w.heap.size + 1 < W.drew.heap.size from hltJ)).trans c6; have k7 := (HB2.out.cell (p := ⟨w.heap.size + 1, 7, none⟩) (show w.heap.size + 1 < W.drew.heap.size from hltJ)).trans c7)
    | (go_at_call 68; (with_reducible refine KZ.out.mono ?_); rintro e w2 ⟨rfl, hB⟩; have b9 : IB w2 W.heap.size 33 Z8 := Blk.below' (Blk.drew (IB.new W 33 Z8)) hB; have z0 : w2.cell? ⟨W.heap.size, 0, none⟩ = some (.int .i64 0) := IB.cell b9 0 (by decide); have g0 : w2.frozen? ⟨W.heap.size, 0, none⟩ = false := Blk.frozen b9 0; have z1 : w2.cell? ⟨W.heap.size, 1, none⟩ = some (.int .i64 0) := IB.cell b9 1 (by decide); have g1 : w2.frozen? ⟨W.heap.size, 1, none⟩ = false := Blk.frozen b9 1; have z2 : w2.cell? ⟨W.heap.size, 2, none⟩ = some (.int .i64 0) := IB.cell b9 2 (by decide); have g2 : w2.frozen? ⟨W.heap.size, 2, none⟩ = false := Blk.frozen b9 2; have z3 : w2.cell? ⟨W.heap.size, 3, none⟩ = some (.int .i64 0) := IB.cell b9 3 (by decide); have g3 : w2.frozen? ⟨W.heap.size, 3, none⟩ = false := Blk.frozen b9 3; have z4 : w2.cell? ⟨W.heap.size, 4, none⟩ = some (.int .i64 0) := IB.cell b9 4 (by decide); have g4 : w2.frozen? ⟨W.heap.size, 4, none⟩ = false := Blk.frozen b9 4; have z5 : w2.cell? ⟨W.heap.size, 5, none⟩ = some (.int .i64 0) := IB.cell b9 5 (by decide); have g5 : w2.frozen? ⟨W.heap.size, 5, none⟩ = false := Blk.frozen b9 5; have z6 : w2.cell? ⟨W.heap.size, 6, none⟩ = some (.int .i64 0) := IB.cell b9 6 (by decide); have g6 : w2.frozen? ⟨W.heap.size, 6, none⟩ = false := Blk.frozen b9 6; have z7 : w2.cell? ⟨W.heap.size, 7, none⟩ = some (.int .i64 0) := IB.cell b9 7 (by decide); have g7 : w2.frozen? ⟨W.heap.size, 7, none⟩ = false := Blk.frozen b9 7; have HB2 := hid hB; have B9 := hid b9; clear hB b9; have k0 := (HB2.out.cell (p := ⟨w.heap.size + 1, 0, none⟩) (by simp; omega)).trans (((Below.refl _ W).alloc (Nat.le_refl _) _).cell (p := ⟨w.heap.size + 1, 0, none⟩) hltJ |>.trans c0); have k1 := (HB2.out.cell (p := ⟨w.heap.size + 1, 1, none⟩) (by simp; omega)).trans (((Below.refl _ W).alloc (Nat.le_refl _) _).cell (p := ⟨w.heap.size + 1, 1, none⟩) hltJ |>.trans c1); have k2 := (HB2.out.cell (p := ⟨w.heap.size + 1, 2, none⟩) (by simp; omega)).trans (((Below.refl _ W).alloc (Nat.le_refl _) _).cell (p := ⟨w.heap.size + 1, 2, none⟩) hltJ |>.trans c2); have k3 := (HB2.out.cell (p := ⟨w.heap.size + 1, 3, none⟩) (by simp; omega)).trans (((Below.refl _ W).alloc (Nat.le_refl _) _).cell (p := ⟨w.heap.size + 1, 3, none⟩) hltJ |>.trans c3); have k4 := (HB2.out.cell (p := ⟨w.heap.size + 1, 4, none⟩) (by simp; omega)).trans (((Below.refl _ W).alloc (Nat.le_refl _) _).cell (p := ⟨w.heap.size + 1, 4, none⟩) hltJ |>.trans c4); have k5 := (HB2.out.cell (p := ⟨w.heap.size + 1, 5, none⟩) (by simp; omega)).trans (((Below.refl _ W).alloc (Nat.le_refl _) _).cell (p := ⟨w.heap.size + 1, 5, none⟩) hltJ |>.trans c5); have k6 := (HB2.out.cell (p := ⟨w.heap.size + 1, 6, none⟩) (by simp; omega)).trans (((Below.refl _ W).alloc (Nat.le_refl _) _).cell (p := ⟨w.heap.size + 1, 6, none⟩) hltJ |>.trans c6); have k7 := (HB2.out.cell (p := ⟨w.heap.size + 1, 7, none⟩) (by simp; omega)).trans (((Below.refl _ W).alloc (Nat.le_refl _) _).cell (p := ⟨w.heap.size + 1, 7, none⟩) hltJ |>.trans c7)))
  · have IA := Blk.alloc (Blk.below' (Blk.drew HI.out) HB2.out) (.cells (agi [y0, y1, y2, y3, y4, y5, y6, y7]) 33)
    have IY := IB.new w2 33 [y0, y1, y2, y3, y4, y5, y6, y7]
    have IL := ((HB.out.drew).trans (HB2.out.mono (show w.heap.size ≤ W.drew.heap.size from (show w.heap.size ≤ W.heap.size by omega)))).alloc (show w.heap.size ≤ w2.heap.size by omega) (.cells (agi [y0, y1, y2, y3, y4, y5, y6, y7]) 33)
    rw [agi8] at IA IL
    generalize hV : World.alloc w2 _ = V
    rw [hV] at IA IL
    have IY2 : IB V w2.heap.size 33 [y0, y1, y2, y3, y4, y5, y6, y7] := by rw [← hV]; exact IY
    generalize w2.heap.size = g9 at *
    have IA := hid IA
    have IY := hid IY2
    have IL := hid IL
    clear IY2 c0 k0 c1 k1 c2 k2 c3 k3 c4 k4 c5 k5 c6 k6 c7 k7
    go_wp2
    go_loopw [10, 11] (fun sv iv wr => ∃ (k : Nat) (s : Int), k ≤ 8 ∧ iv = .int .i64 ((k + 1 : Nat) : Int) ∧ sv = .int .i64 s ∧ Hid (s = 2048 + sumN (gterm a [y0, y1, y2, y3, y4, y5, y6, y7]) k) ∧ Hid (Blk wr w.heap.size 37 (agi a)) ∧ Hid (IB wr g9 33 [y0, y1, y2, y3, y4, y5, y6, y7]) ∧ Hid (Below w.heap.size w wr)) (fun _ iv _ => 9 - (intOf iv).toNat)
    case atStart => exact ⟨0, 2048, by omega, rfl, rfl, hid rfl, IA, IY, IL⟩
    case round =>
      clear IA IY IL
      obtain ⟨k, s, hk, rfl, rfl, HSM, IA, IY, IL⟩ := hrel
      by_cases hlt : k < 8
      · have ca := IB.cell IA.out (k + 1) (by rw [HA.out]; omega)
        have cy := IB.cell IY.out k (by simpa using hlt)
        have tb := gterm_bound OA.out H16.out k
        have sb := gsum_bound OA.out H16.out k
        have HT := hid (show 2048 + sumN (gterm a [y0, y1, y2, y3, y4, y5, y6, y7]) (k + 1) = s + gterm a [y0, y1, y2, y3, y4, y5, y6, y7] k by rw [HSM.out]; simp only [sumN]; omega)
        have hs := HSM.out
        have s1 : -300000000000 ≤ s := by omega
        have s2 : s ≤ 300000000000 := by omega
        clear hs sb HSM
        obtain ⟨t, ht⟩ : ∃ t, t = gterm a [y0, y1, y2, y3, y4, y5, y6, y7] k := ⟨_, rfl⟩
        rw [← ht] at HT tb
        unfold gterm at ht
        generalize a.getD (k + 1) 0 = x at *
        generalize [y0, y1, y2, y3, y4, y5, y6, y7].getD k 0 = y at *
        subst ht
        obtain ⟨t1, t2⟩ := tb
        have i1 : ((k + 1 : Nat) : Int) ≤ 8 := by omega
        have i2 : ((k + 1 : Nat) : Int) < 9 := by omega
        have i3 : (k : Int) < 8 := by omega
        have hwA : IntKind.i64.wrap (((k + 1 : Nat) : Int) - 1) = (k : Nat) := by rw [IntKind.wrap_i64]; omega
        have hwB : IntKind.i64.wrap (x * y) = x * y := by rw [IntKind.wrap_i64]; omega
        have hwC : IntKind.i64.wrap (s + x * y) = s + x * y := by rw [IntKind.wrap_i64]; omega
        go_wp2
        go_region
        all_goals
          clear hwA hwB hwC
          go_wp2
          go_roundw
          case rel => exact ⟨k + 1, _, by omega, by go_num, rfl, hid HT.out.symm, IA, IY, hid IL.out.drew⟩
          case measure => simp [intOf] <;> omega
      · obtain rfl : k = 8 := by omega
        have sb := gsum_bound OA.out H16.out 8
        have hs := HSM.out
        have s1 : -300000000000 ≤ s := by omega
        have s2 : s ≤ 300000000000 := by omega
        have HF := hid (show s / 4096 = guessL a [y0, y1, y2, y3, y4, y5, y6, y7] by unfold guessL; rw [HSM.out])
        have KD := hid (fun W => down12 s W (by omega) (by omega))
        clear hs sb
        go_wp2_with (go_at_call 47; (with_reducible refine (KD.out _).mono ?_); rintro e w9 ⟨rfl, hB⟩; have HB9 := hid hB; clear hB)
        go_ret
        exact ⟨by rw [← HF.out]; rfl, IL.out.trans (HB9.out.mono IL.out.size)⟩
  · have IA0 := Blk.below' (Blk.drew (Blk.alloc HI.out (.cells (agi Z8) 33))) HB2.out
    have far : ∀ (W2 : World) (i : Nat) (v : Value), Blk W2 w.heap.size 37 (agi a) → Blk (W2.setCell ⟨W.heap.size, i, none⟩ v) w.heap.size 37 (agi a) := fun W2 i v h => Blk.far h (show w.heap.size ≠ W.heap.size by omega) v
    have IA := far _ 7 (.int .i64 y7) (far _ 6 (.int .i64 y6) (far _ 5 (.int .i64 y5) (far _ 4 (.int .i64 y4) (far _ 3 (.int .i64 y3) (far _ 2 (.int .i64 y2) (far _ 1 (.int .i64 y1) (far _ 0 (.int .i64 y0) IA0)))))))
    have IY2 := IB.set8 B9.out y0 y1 y2 y3 y4 y5 y6 y7
    have IL := below_set8 (((HB.out.alloc (show w.heap.size ≤ W.heap.size by omega) (.cells (agi Z8) 33)).drew).trans (HB2.out.mono (by simp; omega))) (show w.heap.size ≤ W.heap.size by omega) y0 y1 y2 y3 y4 y5 y6 y7
    generalize World.setCell _ _ _ = V at *
    generalize W.heap.size = g9 at *
    have IA := hid IA
    have IY := hid IY2
    have IL := hid IL
    clear IY2 c0 k0 c1 k1 c2 k2 c3 k3 c4 k4 c5 k5 c6 k6 c7 k7
    go_wp2
    go_loopw [10, 11] (fun sv iv wr => ∃ (k : Nat) (s : Int), k ≤ 8 ∧ iv = .int .i64 ((k + 1 : Nat) : Int) ∧ sv = .int .i64 s ∧ Hid (s = 2048 + sumN (gterm a [y0, y1, y2, y3, y4, y5, y6, y7]) k) ∧ Hid (Blk wr w.heap.size 37 (agi a)) ∧ Hid (IB wr g9 33 [y0, y1, y2, y3, y4, y5, y6, y7]) ∧ Hid (Below w.heap.size w wr)) (fun _ iv _ => 9 - (intOf iv).toNat)
    case atStart => exact ⟨0, 2048, by omega, rfl, rfl, hid rfl, IA, IY, IL⟩
    case round =>
      clear IA IY IL
      obtain ⟨k, s, hk, rfl, rfl, HSM, IA, IY, IL⟩ := hrel
      by_cases hlt : k < 8
      · have ca := IB.cell IA.out (k + 1) (by rw [HA.out]; omega)
        have cy := IB.cell IY.out k (by simpa using hlt)
        have tb := gterm_bound OA.out H16.out k
        have sb := gsum_bound OA.out H16.out k
        have HT := hid (show 2048 + sumN (gterm a [y0, y1, y2, y3, y4, y5, y6, y7]) (k + 1) = s + gterm a [y0, y1, y2, y3, y4, y5, y6, y7] k by rw [HSM.out]; simp only [sumN]; omega)
        have hs := HSM.out
        have s1 : -300000000000 ≤ s := by omega
        have s2 : s ≤ 300000000000 := by omega
        clear hs sb HSM
        obtain ⟨t, ht⟩ : ∃ t, t = gterm a [y0, y1, y2, y3, y4, y5, y6, y7] k := ⟨_, rfl⟩
        rw [← ht] at HT tb
        unfold gterm at ht
        generalize a.getD (k + 1) 0 = x at *
        generalize [y0, y1, y2, y3, y4, y5, y6, y7].getD k 0 = y at *
        subst ht
        obtain ⟨t1, t2⟩ := tb
        have i1 : ((k + 1 : Nat) : Int) ≤ 8 := by omega
        have i2 : ((k + 1 : Nat) : Int) < 9 := by omega
        have i3 : (k : Int) < 8 := by omega
        have hwA : IntKind.i64.wrap (((k + 1 : Nat) : Int) - 1) = (k : Nat) := by rw [IntKind.wrap_i64]; omega
        have hwB : IntKind.i64.wrap (x * y) = x * y := by rw [IntKind.wrap_i64]; omega
        have hwC : IntKind.i64.wrap (s + x * y) = s + x * y := by rw [IntKind.wrap_i64]; omega
        go_wp2
        go_region
        all_goals
          clear hwA hwB hwC
          go_wp2
          go_roundw
          case rel => exact ⟨k + 1, _, by omega, by go_num, rfl, hid HT.out.symm, IA, IY, hid IL.out.drew⟩
          case measure => simp [intOf] <;> omega
      · obtain rfl : k = 8 := by omega
        have sb := gsum_bound OA.out H16.out 8
        have hs := HSM.out
        have s1 : -300000000000 ≤ s := by omega
        have s2 : s ≤ 300000000000 := by omega
        have HF := hid (show s / 4096 = guessL a [y0, y1, y2, y3, y4, y5, y6, y7] by unfold guessL; rw [HSM.out])
        have KD := hid (fun W => down12 s W (by omega) (by omega))
        clear hs sb
        go_wp2_with (go_at_call 47; (with_reducible refine (KD.out _).mono ?_); rintro e w9 ⟨rfl, hB⟩; have HB9 := hid hB; clear hB)
        go_ret
        exact ⟨by rw [← HF.out]; rfl, IL.out.trans (HB9.out.mono IL.out.size)⟩
end Go.Proofs.Ythajpmilccpgeaa
