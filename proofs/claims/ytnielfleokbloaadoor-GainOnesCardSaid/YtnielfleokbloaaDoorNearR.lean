/- The walk of the reference's nearer. -/
import Derived.Test.YtnielfleokbloaaDoorPowR
import Derived.Test.YtnielfleokbloaaDoorBigICmp
import Derived.Deep.RegionHeld3
namespace Go.Proofs.YtnielfleokbloaaDoor
set_option linter.unusedVariables false
set_option linter.unusedSimpArgs false
set_option maxRecDepth 100000
open Go.RowKit

/-- The number of the value nearest, of those below k. -/
def nearB (vs : List Int) (one c e : Int) : Nat → Int
  | 0 => 0
  | k + 1 => if k = 0 then 0 else if (vs.getD k 0 + vs.getD (k - 1) 0) * e < 2 * one * c then k else nearB vs one c e k
theorem nearB_step (vs : List Int) (one c e : Int) {k : Nat} (h : 0 < k) : nearB vs one c e (k + 1) = if (vs.getD k 0 + vs.getD (k - 1) 0) * e < 2 * one * c then (k : Int) else nearB vs one c e k := by
  rw [nearB, if_neg (by omega)]
theorem nearB_range (vs : List Int) (one c e : Int) (k : Nat) : 0 ≤ nearB vs one c e k ∧ nearB vs one c e k ≤ k := by
  induction k with
  | zero => simp [nearB]
  | succ k ih =>
    unfold nearB
    split
    · omega
    · split <;> omega
theorem mul_small {x y X Y : Int} (h1 : 0 ≤ x) (h2 : x ≤ X) (h3 : -Y ≤ y) (h4 : y ≤ Y) : -(X * Y) ≤ x * y ∧ x * y ≤ X * Y := by
  have hX : 0 ≤ X := by omega
  have hY : 0 ≤ Y := by omega
  have a1 : x * y ≤ x * Y := Int.mul_le_mul_of_nonneg_left h4 h1
  have a2 : x * Y ≤ X * Y := Int.mul_le_mul_of_nonneg_right h2 hY
  have a3 : x * (-Y) ≤ x * y := Int.mul_le_mul_of_nonneg_left h3 h1
  have a4 : x * (-Y) = -(x * Y) := by rw [Int.mul_neg]
  omega

set_option maxHeartbeats 4000000 in
theorem nearer_any (A : Option Addr) (cA n : Nat) (vs : List Int) (one c e : Int) (w : World) (hr : Rs w w.heap.size A vs) (hn : vs.length = n) (h1n : 1 ≤ n) (hl : n ≤ 100) (hv : ∀ i, 0 ≤ vs.getD i 0 ∧ vs.getD i 0 ≤ 65536)
    (o1 : 0 ≤ one) (o2 : one ≤ 16384) (c1 : -9223372036854775808 ≤ c) (c2 : c ≤ 9223372036854775807) (e1 : -9223372036854775808 ≤ e) (e2 : e ≤ 9223372036854775807) :
    Calls Tryd.prog 42 #[.slice A n cA, .int .i64 one, .int .i64 c, .int .i64 e] w fun e' w' => e' = .returned (.int .i64 (nearB vs one c e n)) ∧ Below w.heap.size w w' := by
  have HR := hid hr
  have HN := hid hn
  have HV := hid hv
  have xb := mul_small (x := 2 * one) (X := 32768) (y := c) (Y := 9223372036854775808) (by omega) (by omega) (by omega) (by omega)
  have XB := hid (show (2 * one * c).natAbs < 340282366920938463463374607431768211456 by omega)
  clear hr hn hv xb
  go_enter Tryd.func42, Tryd.ntmps42
  go_wp2
  go_loopw [9, 10] (fun bv iv wr => ∃ (k : Nat), 1 ≤ k ∧ k ≤ n ∧ iv = .int .i64 k ∧ bv = .int .i64 (nearB vs one c e k) ∧ Hid (Below w.heap.size w wr)) (fun _ iv _ => n - (intOf iv).toNat)
  case atStart => exact ⟨1, by omega, by omega, rfl, by simp [nearB], hid (Below.refl _ _)⟩
  case round =>
    obtain ⟨k, hk1, hk, rfl, rfl, HB⟩ := hrel
    have nb := nearB_range vs one c e k
    have ST := hid (nearB_step vs one c e (k := k) (by omega))
    by_cases hlt : k < n
    · generalize nearB vs one c e k = bst at *
      go_wp2_with fail
      refine (whole_any _ (2 * one) (by omega) (by omega)).mono ?_
      rintro e' w2 ⟨b2, rfl, hb2, hI2, hB2⟩
      have P2 := hid (IntBlk.below (IntBlk.new wr (.bool false) (.slice none 0 0)) hB2 (Nat.le_refl _))
      have I2 := hid hI2
      have B2 := hid ((HB.out.alloc HB.out.size _).trans (hB2.mono (by have := HB.out.size; simp; omega)))
      have hws := HB.out.size
      clear hI2 hB2
      go_wp2_with fail
      refine (whole_any _ c (by omega) (by omega)).mono ?_
      rintro e' w3 ⟨b3, rfl, hb3, hI3, hB3⟩
      have P3 := hid (P2.out.below hB3 (Nat.le_refl _))
      have I3 := hid hI3
      have J3 := hid (I2.out.below hB3 (Nat.le_refl _))
      have B3 := hid (B2.out.trans (hB3.mono B2.out.size))
      clear hI3 hB3 P2 I2 B2
      go_wp2_with fail
      refine (Mul_any w3 wr.heap.size b2 b3 (2 * one) c P3.out J3.out I3.out (sm_small (by omega) (by omega)) (sm_small (by omega) (by omega))).mono ?_
      rintro e' W ⟨rfl, hIW, hGW⟩
      have XW := hid hIW
      have BW := hid (below_of_grownBy B3.out hGW hws)
      clear hIW hGW P3 I3 J3 B3
      have hxl := XW.out.lt
      have RW := hid (HR.out.below BW.out)
      obtain ⟨ad, rfl, hadb, k0⟩ := RW.out.at_ (k := k) (by rw [HN.out]; exact hlt)
      obtain ⟨ad2, had2, _, k1⟩ := RW.out.at_ (k := k - 1) (by rw [HN.out]; omega)
      injection had2 with had2
      subst had2
      have v0 := HV.out k
      have v1 := HV.out (k - 1)
      generalize vs.getD k 0 = y at *
      generalize vs.getD (k - 1) 0 = x at *
      obtain ⟨m, hm⟩ : ∃ m, m = k - 1 := ⟨_, rfl⟩
      rw [← hm] at k1
      have hw0 : IntKind.i64.wrap ((k : Int) - 1) = (m : Nat) := by rw [IntKind.wrap_i64]; omega
      have hw1 : IntKind.i64.wrap (y + x) = y + x := by rw [IntKind.wrap_i64]; omega
      have i1 : (k : Int) < n := by omega
      have i2 : (m : Int) < n := by omega
      have i3 : (0 : Int) ≤ m := by omega
      have i4 : (0 : Int) ≤ k := by omega
      have HM := hid hm
      clear hm
      have K1 := hid (fun W' => whole_any W' (y + x) (by omega) (by omega))
      have K2 := hid (fun W' => whole_any W' e (by omega) (by omega))
      go_wp2
      go_region_held3 (fun w' => w'.cell? (ad.add k) = some (.int .i64 y) ∧ w'.cell? (ad.add m) = some (.int .i64 x)) (go_keep) (first
        | (go_at_call 38; (with_reducible refine (K1.out W.drew).mono ?_); rintro e' wA ⟨bA, rfl, hbA, hIA, hBA⟩; have LA : Below W.heap.size W wA := ((Below.refl W.heap.size W).drew).trans (hBA.mono (by first | exact Nat.le_refl _ | simp)); have sA := LA.size; have a0 : World.cell? wA (ad.add k) = some (.int .i64 y) := (LA.cell (by rw [block_of_add]; first | omega | (simp; omega))).trans k0; have a1 : World.cell? wA (ad.add m) = some (.int .i64 x) := (LA.cell (by rw [block_of_add]; first | omega | (simp; omega))).trans k1; have IA := hid hIA; have LA := hid LA; clear hIA hBA)
        | (go_at_call 38; (with_reducible refine (K1.out (World.drew (W.alloc (.cells #[.bool false, .slice none 0 0] 48)))).mono ?_); rintro e' wA ⟨bA, rfl, hbA, hIA, hBA⟩; have LA : Below W.heap.size W wA := (((Below.refl W.heap.size W).alloc (Nat.le_refl _) (.cells #[.bool false, .slice none 0 0] 48)).drew).trans (hBA.mono (by first | exact Nat.le_refl _ | simp)); have sA := LA.size; have a0 : World.cell? wA (ad.add k) = some (.int .i64 y) := (LA.cell (by rw [block_of_add]; first | omega | (simp; omega))).trans k0; have a1 : World.cell? wA (ad.add m) = some (.int .i64 x) := (LA.cell (by rw [block_of_add]; first | omega | (simp; omega))).trans k1; have PA := hid (IntBlk.below (IntBlk.new W (.bool false) (.slice none 0 0)).drew hBA (Nat.le_refl _)); have IA := hid hIA; have LA := hid LA; clear hIA hBA)
        | (go_at_call 38; (with_reducible refine (K2.out wA).mono ?_); rintro e' wB ⟨bB, rfl, hbB, hIB, hBB⟩; have LB : Below W.heap.size W wB := LA.out.trans (hBB.mono (by first | exact sA | (simp; omega))); have sB := LB.size; have b0 : World.cell? wB (ad.add k) = some (.int .i64 y) := (LB.cell (by rw [block_of_add]; first | omega | (simp; omega))).trans k0; have b1 : World.cell? wB (ad.add m) = some (.int .i64 x) := (LB.cell (by rw [block_of_add]; first | omega | (simp; omega))).trans k1; have IB := hid (IA.out.below hBB (Nat.le_refl _)); have sAB := hBB.size; have ABw := hid hBB; have JB := hid hIB; have LB := hid LB; clear hIB hBB)
        | (go_at_call 38; (with_reducible refine (K2.out (wA.alloc (.cells #[.bool false, .slice none 0 0] 48))).mono ?_); rintro e' wB ⟨bB, rfl, hbB, hIB, hBB⟩; have LB : Below W.heap.size W wB := (LA.out.alloc sA (.cells #[.bool false, .slice none 0 0] 48)).trans (hBB.mono (by first | exact sA | (simp; omega))); have sB := LB.size; have b0 : World.cell? wB (ad.add k) = some (.int .i64 y) := (LB.cell (by rw [block_of_add]; first | omega | (simp; omega))).trans k0; have b1 : World.cell? wB (ad.add m) = some (.int .i64 x) := (LB.cell (by rw [block_of_add]; first | omega | (simp; omega))).trans k1; have PB := hid (IntBlk.below (IntBlk.new wA (.bool false) (.slice none 0 0)) hBB (Nat.le_refl _)); have IB := hid ((IA.out.below ((Below.refl _ _).alloc (Nat.le_refl _) (.cells #[.bool false, .slice none 0 0] 48)) (Nat.le_refl _)).below hBB (Nat.le_refl _)); have JB := hid hIB; have LB := hid LB; clear hIB hBB)
        | (go_at_call 37; (with_reducible refine (Mul_any (wB.alloc (.cells #[.bool false, .slice none 0 0] 48)) wB.heap.size bA bB (y + x) e (IntBlk.new wB (.bool false) (.slice none 0 0)) (IB.out.below ((Below.refl _ _).alloc (Nat.le_refl _) (.cells #[.bool false, .slice none 0 0] 48)) (Nat.le_refl _)) (JB.out.below ((Below.refl _ _).alloc (Nat.le_refl _) (.cells #[.bool false, .slice none 0 0] 48)) (Nat.le_refl _)) (sm_small (by omega) (by omega)) (sm_small (by omega) (by omega))).mono ?_); rintro e' wM ⟨rfl, hIM, hGM⟩; have ltM : W.heap.size ≤ wB.heap.size := (by omega); have XM := hid ((XW.out.below (LB.out.alloc sB (.cells #[.bool false, .slice none 0 0] 48)) (Nat.le_refl _) : IntAt (wB.alloc (.cells #[.bool false, .slice none 0 0] 48)) wr.heap.size (2 * one * c)).kept (IntBlk.new wB (.bool false) (.slice none 0 0)) hGM (by have := XW.out.lt; omega)); have LM : Below W.heap.size W wM := below_of_grownBy (LB.out.alloc sB (.cells #[.bool false, .slice none 0 0] 48)) hGM (by omega); have m0 : World.cell? wM (ad.add k) = some (.int .i64 y) := (LM.cell (by rw [block_of_add]; first | omega | (simp; omega))).trans k0; have m1 : World.cell? wM (ad.add m) = some (.int .i64 x) := (LM.cell (by rw [block_of_add]; first | omega | (simp; omega))).trans k1; have IM := hid hIM; have LM := hid LM; clear hIM hGM)
        | (go_at_call 37; have tok := PB.out; clear tok; (with_reducible refine (Mul_any wB wA.heap.size bA bB (y + x) e PB.out IB.out JB.out (sm_small (by omega) (by omega)) (sm_small (by omega) (by omega))).mono ?_); rintro e' wM ⟨rfl, hIM, hGM⟩; have ltM : W.heap.size ≤ wA.heap.size := (by omega); have XM := hid ((XW.out.below LB.out (Nat.le_refl _) : IntAt wB wr.heap.size (2 * one * c)).kept PB.out hGM (by have := XW.out.lt; omega)); have LM : Below W.heap.size W wM := below_of_grownBy (LB.out) hGM (by omega); have m0 : World.cell? wM (ad.add k) = some (.int .i64 y) := (LM.cell (by rw [block_of_add]; first | omega | (simp; omega))).trans k0; have m1 : World.cell? wM (ad.add m) = some (.int .i64 x) := (LM.cell (by rw [block_of_add]; first | omega | (simp; omega))).trans k1; have IM := hid hIM; have LM := hid LM; clear hIM hGM)
        | (go_at_call 37; have PC := hid (IntBlk.below PA.out (B := wA.heap.size) ABw.out (Nat.le_refl _)); (with_reducible refine (Mul_any wB W.heap.size bA bB (y + x) e PC.out IB.out JB.out (sm_small (by omega) (by omega)) (sm_small (by omega) (by omega))).mono ?_); rintro e' wM ⟨rfl, hIM, hGM⟩; have ltM : W.heap.size ≤ W.heap.size := (by omega); have XM := hid ((XW.out.below LB.out (Nat.le_refl _) : IntAt wB wr.heap.size (2 * one * c)).kept PC.out hGM (by have := XW.out.lt; omega)); have LM : Below W.heap.size W wM := below_of_grownBy (LB.out) hGM (by omega); have m0 : World.cell? wM (ad.add k) = some (.int .i64 y) := (LM.cell (by rw [block_of_add]; first | omega | (simp; omega))).trans k0; have m1 : World.cell? wM (ad.add m) = some (.int .i64 x) := (LM.cell (by rw [block_of_add]; first | omega | (simp; omega))).trans k1; have IM := hid hIM; have LM := hid LM; clear hIM hGM))
      all_goals
        rename_i hHeldZ
        clear hHeldZ a0 a1 b0 b1 m0 m1 k0 k1
        simp only [Exit.then]
        have YB := hid (show ((y + x) * e).natAbs < 340282366920938463463374607431768211456 by
          have := mul_small (x := y + x) (X := 131072) (y := e) (Y := 9223372036854775808) (by omega) (by omega) (by omega) (by omega)
          omega)
        have KC := hid (Cmp_any wM wr.heap.size _ (2 * one * c) ((y + x) * e) XM.out IM.out (sm_of_lt XB.out) (sm_of_lt YB.out))
        have BM := hid (BW.out.trans (LM.out.mono BW.out.size))
        clear IM XM LM K1 K2
        by_cases hgt : (y + x) * e < 2 * one * c
        · have hc : 0 < cmpZ (2 * one * c) ((y + x) * e) := by unfold cmpZ; rw [if_neg (by omega), if_pos hgt]; decide
          have HS2 := hid (show nearB vs one c e (k + 1) = k by rw [ST.out, if_pos hgt])
          generalize cmpZ (2 * one * c) ((y + x) * e) = z at *
          clear hgt hw0 hw1
          go_wp2_with (go_at_call 54; (with_reducible refine KC.out.mono ?_); rintro e' w7 ⟨rfl, n7, rfl⟩)
          go_roundw
          case rel => exact ⟨k + 1, by omega, by omega, by go_num, by rw [HS2.out], hid (BM.out.trans ((below_drN _ _).mono BM.out.size))⟩
          case measure => simp [intOf] <;> omega
        · have hc : ¬ 0 < cmpZ (2 * one * c) ((y + x) * e) := by
            unfold cmpZ
            repeat' split
            all_goals first | decide | omega
          have HS2 := hid (show nearB vs one c e (k + 1) = bst by rw [ST.out, if_neg hgt])
          generalize cmpZ (2 * one * c) ((y + x) * e) = z at *
          clear hgt hw0 hw1
          go_wp2_with (go_at_call 54; (with_reducible refine KC.out.mono ?_); rintro e' w7 ⟨rfl, n7, rfl⟩)
          go_roundw
          case rel => exact ⟨k + 1, by omega, by omega, by go_num, by rw [HS2.out], hid (BM.out.trans ((below_drN _ _).mono BM.out.size))⟩
          case measure => simp [intOf] <;> omega
    · obtain rfl : k = n := by omega
      go_wp2
      go_ret
      exact ⟨rfl, HB.out⟩
end Go.Proofs.YtnielfleokbloaaDoor
