/- The walk of the reference's dot. -/
import Derived.Test.YtcfmipobgljbeaaRefClip
import Derived.Test.YtcfmipobgljbeaaBigMulO
import Derived.Test.YtcfmipobgljbeaaBigAddO
import Derived.Test.YtcfmipobgljbeaaSumM
import Derived.Test.YtcfmipobgljbeaaMem
import Derived.Deep.RegionHeld3
namespace Go.Proofs.Ytcfmipobgljbeaa
set_option linter.unusedVariables false
set_option linter.unusedSimpArgs false
set_option maxRecDepth 100000
open Go.RowKit

theorem sm_small' {z : Int} (h1 : -9223372036854775808 ≤ z) (h2 : z ≤ 9223372036854775807) : Sm z.natAbs := sm_of_lt (by omega)
theorem cell_grown {w w' : World} {b : Nat} {p : Addr} (h : w.grownBy w' (some b)) (hp : p.block ≠ b) (hlt : p.block < w.heap.size) : w'.cell? p = w.cell? p := by
  have := h.block p.block hlt (by simpa using hp)
  unfold World.cell?
  rw [this]
theorem IntAt_zero (w : World) : IntAt (w.alloc (.cells #[.bool false, .slice none 0 0] 57)) w.heap.size 0 := ⟨_, heap_alloc_new w _, Nm.nil _⟩
def dterm (xs ys : List Int) (i : Nat) : Int := xs.getD i 0 * ys.getD i 0
def dotL (xs ys : List Int) (n : Nat) : Int := sumN (dterm xs ys) n
/-- All of 16 bits. -/
def In16 (xs : List Int) : Prop := ∀ i, -32768 ≤ xs.getD i 0 ∧ xs.getD i 0 ≤ 32767
theorem prod16 {x y : Int} (h1 : -32768 ≤ x) (h2 : x ≤ 32767) (h3 : -32768 ≤ y) (h4 : y ≤ 32767) : -1073741824 ≤ x * y ∧ x * y ≤ 1073741824 := by
  have := mul_bound (x := x) (X := 32768) (y := y) (Y := 32768) (by omega) (by omega) ⟨by omega, by omega⟩ ⟨by omega, by omega⟩
  omega
theorem dotL_range {xs ys : List Int} (hx : In16 xs) (hy : In16 ys) (n : Nat) : -(1073741824 * (n : Int)) ≤ dotL xs ys n ∧ dotL xs ys n ≤ 1073741824 * (n : Int) := by
  unfold dotL
  induction n with
  | zero => simp [sumN]
  | succ n ih =>
    have h := prod16 (hx n).1 (hx n).2 (hy n).1 (hy n).2
    simp only [sumN]
    unfold dterm at *
    push_cast
    omega

set_option maxHeartbeats 4000000 in
theorem dot_any (A A2 : Option Addr) (cA cB n m : Nat) (xs ys : List Int) (w : World) (hx : Rs w w.heap.size A xs) (hy : Rs w w.heap.size A2 ys) (hn : xs.length = n) (hm : ys.length = m) (hnm : n ≤ m) (hl : n ≤ 1000) (h1 : In16 xs) (h2 : In16 ys) :
    Calls Try.prog 48 #[.slice A n cA, .slice A2 m cB] w (GivesZ w (dotL xs ys n)) := by
  have HX := hid hx
  have HY := hid hy
  have HN := hid hn
  have HM := hid hm
  have H1 := hid h1
  have H2 := hid h2
  clear hx hy hn hm h1 h2
  go_enter Try.func48, Try.ntmps48
  go_wp2
  obtain ⟨bs, hbs⟩ : ∃ bs, bs = w.heap.size := ⟨_, rfl⟩
  have I0 := hid (show IntAt (w.alloc (.cells #[.bool false, .slice none 0 0] 57)) bs 0 from by rw [hbs]; exact IntAt_zero w)
  have B0 := hid ((Below.refl w.heap.size w).alloc (Nat.le_refl _) (.cells #[.bool false, .slice none 0 0] 57))
  rw [← hbs]
  have HBS := hid hbs
  clear hbs
  go_loopw [10] (fun iv wr => ∃ k : Nat, k ≤ n ∧ iv = .int .i64 k ∧ Hid (IntAt wr bs (dotL xs ys k)) ∧ Hid (Below w.heap.size w wr)) (fun iv _ => n - (intOf iv).toNat)
  case atStart => exact ⟨0, by omega, rfl, I0, B0⟩
  case round =>
    clear I0 B0
    obtain ⟨k, hk, rfl, XW, BW⟩ := hrel
    obtain ⟨W, rfl⟩ : ∃ W : World, W = wr := ⟨_, rfl⟩
    have dr := dotL_range H1.out H2.out k
    have ST := hid (show dotL xs ys (k + 1) = dotL xs ys k + xs.getD k 0 * ys.getD k 0 from rfl)
    obtain ⟨s, hs⟩ : ∃ s, s = dotL xs ys k := ⟨_, rfl⟩
    rw [← hs] at dr ST XW
    have HS := hid hs
    clear hs
    have s1 : -1073741824000 ≤ s := by omega
    have s2 : s ≤ 1073741824000 := by omega
    clear dr
    by_cases hlt : k < n
    · have RX := HX.out.below BW.out
      have RY := HY.out.below BW.out
      obtain ⟨ad, rfl, hadb, k0⟩ := RX.at_ (k := k) (by rw [HN.out]; exact hlt)
      obtain ⟨ae, rfl, haeb, k1⟩ := RY.at_ (k := k) (by rw [HM.out]; omega)
      have x16 := H1.out k
      have y16 := H2.out k
      generalize xs.getD k 0 = x at *
      generalize ys.getD k 0 = y at *
      obtain ⟨p1, p2⟩ := prod16 x16.1 x16.2 y16.1 y16.2
      obtain ⟨x1, x2⟩ := x16
      obtain ⟨y1, y2⟩ := y16
      have i1 : (k : Int) < n := by omega
      have i2 : (k : Int) < m := by omega
      have i3 : (0 : Int) ≤ k := by omega
      have hws := BW.out.size
      have hbW := HBS.out
      have hadW : ad.block < W.heap.size := by omega
      have haeW : ae.block < W.heap.size := by omega
      have hadb' : ad.block ≠ bs := by omega
      have haeb' : ae.block ≠ bs := by omega
      have K1 := hid (fun W' => whole_any W' x (by omega) (by omega))
      have K2 := hid (fun W' => whole_any W' y (by omega) (by omega))
      clear RX RY hbW
      go_wp2
      go_region_held3 (fun w' => w'.cell? (ad.add k) = some (.int .i64 x) ∧ w'.cell? (ae.add k) = some (.int .i64 y)) (go_keep) (first
        | (go_at_call 32; (with_reducible refine (K1.out W.drew).mono ?_); rintro e' wA ⟨bA, rfl, hbA, hIA, hBA⟩; have LA : Below W.heap.size W wA := ((Below.refl W.heap.size W).drew).trans (hBA.mono (by first | exact Nat.le_refl _ | simp)); have sA := LA.size; have a0 : World.cell? wA (ad.add k) = some (.int .i64 x) := (LA.cell (by rw [block_of_add]; first | omega | (simp; omega))).trans k0; have a1 : World.cell? wA (ae.add k) = some (.int .i64 y) := (LA.cell (by rw [block_of_add]; first | omega | (simp; omega))).trans k1; have IA := hid hIA; have LA := hid LA; clear hIA hBA)
        | (go_at_call 32; (with_reducible refine (K1.out (World.drew (W.alloc (.cells #[.bool false, .slice none 0 0] 57)))).mono ?_); rintro e' wA ⟨bA, rfl, hbA, hIA, hBA⟩; have LA : Below W.heap.size W wA := (((Below.refl W.heap.size W).alloc (Nat.le_refl _) (.cells #[.bool false, .slice none 0 0] 57)).drew).trans (hBA.mono (by first | exact Nat.le_refl _ | simp)); have sA := LA.size; have a0 : World.cell? wA (ad.add k) = some (.int .i64 x) := (LA.cell (by rw [block_of_add]; first | omega | (simp; omega))).trans k0; have a1 : World.cell? wA (ae.add k) = some (.int .i64 y) := (LA.cell (by rw [block_of_add]; first | omega | (simp; omega))).trans k1; have PA := hid (IntBlk.below (IntBlk.new W (.bool false) (.slice none 0 0)).drew hBA (Nat.le_refl _)); have IA := hid hIA; have LA := hid LA; clear hIA hBA)
        | (go_at_call 32; (with_reducible refine (K2.out wA).mono ?_); rintro e' wB ⟨bB, rfl, hbB, hIB, hBB⟩; have LB : Below W.heap.size W wB := LA.out.trans (hBB.mono (by first | exact sA | (simp; omega))); have sB := LB.size; have b0 : World.cell? wB (ad.add k) = some (.int .i64 x) := (LB.cell (by rw [block_of_add]; first | omega | (simp; omega))).trans k0; have b1 : World.cell? wB (ae.add k) = some (.int .i64 y) := (LB.cell (by rw [block_of_add]; first | omega | (simp; omega))).trans k1; have IB := hid (IA.out.below hBB (Nat.le_refl _)); have sAB := hBB.size; have ABw := hid hBB; have JB := hid hIB; have LB := hid LB; clear hIB hBB)
        | (go_at_call 32; (with_reducible refine (K2.out (wA.alloc (.cells #[.bool false, .slice none 0 0] 57))).mono ?_); rintro e' wB ⟨bB, rfl, hbB, hIB, hBB⟩; have LB : Below W.heap.size W wB := (LA.out.alloc sA (.cells #[.bool false, .slice none 0 0] 57)).trans (hBB.mono (by first | exact sA | (simp; omega))); have sB := LB.size; have b0 : World.cell? wB (ad.add k) = some (.int .i64 x) := (LB.cell (by rw [block_of_add]; first | omega | (simp; omega))).trans k0; have b1 : World.cell? wB (ae.add k) = some (.int .i64 y) := (LB.cell (by rw [block_of_add]; first | omega | (simp; omega))).trans k1; have PB := hid (IntBlk.below (IntBlk.new wA (.bool false) (.slice none 0 0)) hBB (Nat.le_refl _)); have IB := hid ((IA.out.below ((Below.refl _ _).alloc (Nat.le_refl _) (.cells #[.bool false, .slice none 0 0] 57)) (Nat.le_refl _)).below hBB (Nat.le_refl _)); have JB := hid hIB; have LB := hid LB; clear hIB hBB)
        | (go_at_call 83; (with_reducible refine (Mul_any (wB.alloc (.cells #[.bool false, .slice none 0 0] 57)) wB.heap.size bA bB x y (IntBlk.new wB (.bool false) (.slice none 0 0)) (IB.out.below ((Below.refl _ _).alloc (Nat.le_refl _) (.cells #[.bool false, .slice none 0 0] 57)) (Nat.le_refl _)) (JB.out.below ((Below.refl _ _).alloc (Nat.le_refl _) (.cells #[.bool false, .slice none 0 0] 57)) (Nat.le_refl _)) (sm_small' (by omega) (by omega)) (sm_small' (by omega) (by omega))).mono ?_); rintro e' wM ⟨rfl, hIM, hGM⟩; have ltM : W.heap.size ≤ wB.heap.size := (by omega); have XM := hid ((XW.out.below (LB.out.alloc sB (.cells #[.bool false, .slice none 0 0] 57)) (Nat.le_refl _) : IntAt (wB.alloc (.cells #[.bool false, .slice none 0 0] 57)) bs s).kept (IntBlk.new wB (.bool false) (.slice none 0 0)) hGM (by have := XW.out.lt; omega)); have LM : Below W.heap.size W wM := below_of_grownBy (LB.out.alloc sB (.cells #[.bool false, .slice none 0 0] 57)) hGM (by omega); have m0 : World.cell? wM (ad.add k) = some (.int .i64 x) := (LM.cell (by rw [block_of_add]; first | omega | (simp; omega))).trans k0; have m1 : World.cell? wM (ae.add k) = some (.int .i64 y) := (LM.cell (by rw [block_of_add]; first | omega | (simp; omega))).trans k1; have IM := hid hIM; have LM := hid LM; clear hIM hGM)
        | (go_at_call 83; have tok := PB.out; clear tok; (with_reducible refine (Mul_any wB wA.heap.size bA bB x y PB.out IB.out JB.out (sm_small' (by omega) (by omega)) (sm_small' (by omega) (by omega))).mono ?_); rintro e' wM ⟨rfl, hIM, hGM⟩; have ltM : W.heap.size ≤ wA.heap.size := (by omega); have XM := hid ((XW.out.below LB.out (Nat.le_refl _) : IntAt wB bs s).kept PB.out hGM (by have := XW.out.lt; omega)); have LM : Below W.heap.size W wM := below_of_grownBy (LB.out) hGM (by omega); have m0 : World.cell? wM (ad.add k) = some (.int .i64 x) := (LM.cell (by rw [block_of_add]; first | omega | (simp; omega))).trans k0; have m1 : World.cell? wM (ae.add k) = some (.int .i64 y) := (LM.cell (by rw [block_of_add]; first | omega | (simp; omega))).trans k1; have IM := hid hIM; have LM := hid LM; clear hIM hGM)
        | (go_at_call 83; have PC := hid (IntBlk.below PA.out (B := wA.heap.size) ABw.out (Nat.le_refl _)); (with_reducible refine (Mul_any wB W.heap.size bA bB x y PC.out IB.out JB.out (sm_small' (by omega) (by omega)) (sm_small' (by omega) (by omega))).mono ?_); rintro e' wM ⟨rfl, hIM, hGM⟩; have ltM : W.heap.size ≤ W.heap.size := (by omega); have XM := hid ((XW.out.below LB.out (Nat.le_refl _) : IntAt wB bs s).kept PC.out hGM (by have := XW.out.lt; omega)); have LM : Below W.heap.size W wM := below_of_grownBy (LB.out) hGM (by omega); have m0 : World.cell? wM (ad.add k) = some (.int .i64 x) := (LM.cell (by rw [block_of_add]; first | omega | (simp; omega))).trans k0; have m1 : World.cell? wM (ae.add k) = some (.int .i64 y) := (LM.cell (by rw [block_of_add]; first | omega | (simp; omega))).trans k1; have IM := hid hIM; have LM := hid LM; clear hIM hGM)
        | (go_at_call 31; (with_reducible refine (Add_any wM bs bs _ s (x * y) XM.out.blk XM.out IM.out (sm_small' (by omega) (by omega)) (sm_small' (by omega) (by omega))).mono ?_); rintro e' wS ⟨rfl, hIS, hGS⟩; have XS := hid hIS; have GS := hid hGS; have ns0 : World.cell? wS (ad.add k) = some (.int .i64 x) := (cell_grown GS.out (by rw [block_of_add]; omega) (by rw [block_of_add]; have := LM.out.size; omega)).trans m0; have ns1 : World.cell? wS (ae.add k) = some (.int .i64 y) := (cell_grown GS.out (by rw [block_of_add]; omega) (by rw [block_of_add]; have := LM.out.size; omega)).trans m1; clear hIS hGS))
      all_goals
        rename_i hHeldZ
        clear hHeldZ a0 a1 b0 b1 m0 m1 k0 k1 ns0 ns1
        try simp only [Exit.then]
        have BS := hid (below_of_grownBy (BW.out.trans (LM.out.mono BW.out.size)) GS.out (by rw [HBS.out]; exact Nat.le_refl _))
        have XS2 := hid (show IntAt wS bs (dotL xs ys (k + 1)) by rw [ST.out]; exact XS.out)
        go_wp2
        go_roundw
        case rel => exact ⟨k + 1, by omega, by go_num, XS2, BS⟩
        case measure => simp [intOf] <;> omega
    · obtain rfl : k = n := by omega
      have K := hid (Int64_any W bs s XW.out (by omega) (by omega))
      go_wp2_with (go_at_call 37; (with_reducible refine K.out.mono ?_); rintro e w' ⟨rfl, rfl⟩)
      go_ret
      exact ⟨by rw [HS.out]; rfl, BW.out⟩
end Go.Proofs.Ytcfmipobgljbeaa
