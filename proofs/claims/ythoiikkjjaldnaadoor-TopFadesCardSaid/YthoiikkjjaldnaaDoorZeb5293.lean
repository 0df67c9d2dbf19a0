/- Texts that the law rests on, laid together: HighW, Held, CorC, CorR, CorL. -/
import Derived.Test.YthoiikkjjaldnaaDoorZc583e9
import Derived.Test.YthoiikkjjaldnaaDoorZ7f3e4a
import Derived.Deep.RegionHeld3
import Derived.Deep.MidRow
import Derived.Test.YthoiikkjjaldnaaDoorZ03f83b
import Derived.Test.YthoiikkjjaldnaaDoorZ9fe276
import Derived.Test.YthoiikkjjaldnaaDoorZ753720
import Derived.Test.YthoiikkjjaldnaaDoorZ104825
import Derived.Test.YthoiikkjjaldnaaDoorZe90ea5
import Derived.Test.YthoiikkjjaldnaaDoorZ8ebc89
import Derived.Test.YthoiikkjjaldnaaDoorZ5b5962
/- The walks of package front's High and the reference's High. -/
namespace Go.Proofs.YthoiikkjjaldnaaDoor
set_option linter.unusedVariables false
set_option linter.unusedSimpArgs false
set_option maxRecDepth 100000
open Go.RowKit

/-! Plain facts: the filter. -/
def hiY (a b c d x : Int) : Int := s16 ((3798 * x - 7596 * a + 3798 * b + 7807 * c - 3733 * d + 2048) / 4096)
/-- Behind k samples: what is remembered, and the samples made. -/
def hiN (l : List Int) (a b c d : Int) : Nat → (Int × Int × Int × Int) × List Int
  | 0 => ((a, b, c, d), [])
  | k + 1 => ((l.getD k 0, (hiN l a b c d k).1.1, hiY (hiN l a b c d k).1.1 (hiN l a b c d k).1.2.1 (hiN l a b c d k).1.2.2.1 (hiN l a b c d k).1.2.2.2 (l.getD k 0), (hiN l a b c d k).1.2.2.1),
      (hiN l a b c d k).2 ++ [hiY (hiN l a b c d k).1.1 (hiN l a b c d k).1.2.1 (hiN l a b c d k).1.2.2.1 (hiN l a b c d k).1.2.2.2 (l.getD k 0)])
def hiOk (a b c d : Int) (l : List Int) : Bool := all16 l && (all16 [a, b] && all16 [c, d])
def In16x (x : Int) : Prop := -32768 ≤ x ∧ x ≤ 32767
theorem s16_in (x : Int) : In16x (s16 x) := by
  unfold s16 lim In16x
  repeat' split
  all_goals omega
theorem hiN_len (l : List Int) (a b c d : Int) (k : Nat) : (hiN l a b c d k).2.length = k := by
  induction k with
  | zero => rfl
  | succ k ih => simp only [hiN, List.length_append, ih]; rfl
theorem hiN_in {l : List Int} {a b c d : Int} (hl : all16 l = true) (h1 : all16 [a, b] = true) (h2 : all16 [c, d] = true) (k : Nat) :
    In16x (hiN l a b c d k).1.1 ∧ In16x (hiN l a b c d k).1.2.1 ∧ In16x (hiN l a b c d k).1.2.2.1 ∧ In16x (hiN l a b c d k).1.2.2.2 := by
  induction k with
  | zero => exact ⟨all16_at h1 0, all16_at h1 1, all16_at h2 0, all16_at h2 1⟩
  | succ k ih => exact ⟨all16_at hl k, ih.1, s16_in _, ih.2.2.1⟩

/-- The two boxes of four numbers. -/
structure Hx (w wr : World) (h : List Int) : Prop where
  H : IB wr w.heap.size 25 h
  R : IB wr (w.heap.size + 1) 25 [0, 0, 0, 0]
  bel : Below w.heap.size w wr
theorem Hx.lt {w wr : World} {h : List Int} (s : Hx w wr h) : w.heap.size + 2 ≤ wr.heap.size := Blk.lt s.R
theorem Hx.start (w : World) (h : List Int) : Hx w ((w.alloc (.cells (agi h) 25)).alloc (.cells (agi [0, 0, 0, 0]) 25)) h := by
  have h1 := IB.new w 25 h
  have h2 := IB.new (w.alloc (.cells (agi h) 25)) 25 [0, 0, 0, 0]
  simp only [World.size_alloc] at h2
  exact ⟨Blk.alloc h1 _, h2, ((Below.refl _ _).alloc (Nat.le_refl _) _).alloc (by simp) _⟩
theorem Hx.alloc {w wr : World} {h : List Int} (s : Hx w wr h) (o : Obj) : Hx w (wr.alloc o) h :=
  ⟨Blk.alloc s.H o, Blk.alloc s.R o, s.bel.alloc (by have := s.lt; omega) o⟩
theorem Hx.drew {w wr : World} {h : List Int} (s : Hx w wr h) : Hx w wr.drew h := ⟨s.H, s.R, s.bel.drew⟩
theorem Hx.grown {w wr wr' : World} {h xs : List Int} {A : Option Addr} {c : Nat} (s : Hx w wr h) (hO : Own wr (w.heap.size + 2) A c xs) (hG : wr.grownBy wr' (A.map (·.block))) : Hx w wr' h :=
  ⟨Blk.grownA s.H hG (hO.ne_ (by omega)), Blk.grownA s.R hG (hO.ne_ (by omega)), below_grown s.bel (hO.more (by omega)) hG (by have := s.lt; omega)⟩
theorem Hx.set {w wr : World} {h : List Int} (s : Hx w wr h) (i : Nat) (x : Int) : Hx w (wr.setCell ⟨w.heap.size, i, none⟩ (.int .i64 x)) (h.set i x) :=
  ⟨IB.set_ s.H i x, Blk.far s.R (by simp) _, s.bel.setCell (by simp) _⟩
theorem Hx.set4 {w wr : World} {a b c d : Int} (s : Hx w wr [a, b, c, d]) (x0 x1 x2 x3 : Int) :
    Hx w ((((wr.setCell ⟨w.heap.size, 0, none⟩ (.int .i64 x0)).setCell ⟨w.heap.size, 1, none⟩ (.int .i64 x1)).setCell ⟨w.heap.size, 2, none⟩ (.int .i64 x2)).setCell ⟨w.heap.size, 3, none⟩ (.int .i64 x3)) [x0, x1, x2, x3] :=
  (((s.set 0 x0).set 1 x1).set 2 x2).set 3 x3
theorem z4_eq : agi [0, 0, 0, 0] = #[.int .i64 0, .int .i64 0, .int .i64 0, .int .i64 0] := rfl
theorem size4 : (Tryd.prog.info? 25).map (·.size) = some 4 := by kernel_rfl
theorem Own.set4 {w : World} {base c g : Nat} {A : Option Addr} {xs : List Int} (h : Own w base A c xs) (hg : g < base) (x0 x1 x2 x3 : Int) :
    Own ((((w.setCell ⟨g, 0, none⟩ (.int .i64 x0)).setCell ⟨g, 1, none⟩ (.int .i64 x1)).setCell ⟨g, 2, none⟩ (.int .i64 x2)).setCell ⟨g, 3, none⟩ (.int .i64 x3)) base A c xs :=
  (((h.setC hg 0 _).setC hg 1 _).setC hg 2 _).setC hg 3 _
theorem IB.set4 {w : World} {g : Nat} {t : TypeId} {a b c d : Int} (h : IB w g t [a, b, c, d]) (x0 x1 x2 x3 : Int) :
    IB ((((w.setCell ⟨g, 0, none⟩ (.int .i64 x0)).setCell ⟨g, 1, none⟩ (.int .i64 x1)).setCell ⟨g, 2, none⟩ (.int .i64 x2)).setCell ⟨g, 3, none⟩ (.int .i64 x3)) g t [x0, x1, x2, x3] :=
  IB.set_ (IB.set_ (IB.set_ (IB.set_ h 0 x0) 1 x1) 2 x2) 3 x3
theorem below_set4 {B g : Nat} {w0 w : World} (h : Below B w0 w) (hg : B ≤ g) (x0 x1 x2 x3 : Int) :
    Below B w0 ((((w.setCell ⟨g, 0, none⟩ (.int .i64 x0)).setCell ⟨g, 1, none⟩ (.int .i64 x1)).setCell ⟨g, 2, none⟩ (.int .i64 x2)).setCell ⟨g, 3, none⟩ (.int .i64 x3)) :=
  (((h.setCell hg _).setCell hg _).setCell hg _).setCell hg _
/-- Two cells of a block, read as a slice. -/
theorem rs_two {w : World} {g o B : Nat} {x y : Int} (h0 : w.cell? ⟨g, o, none⟩ = some (.int .i64 x)) (h1 : w.cell? ⟨g, o + 1, none⟩ = some (.int .i64 y)) (hg : g < B) : Rs w B (some ⟨g, o, none⟩) [x, y] :=
  ⟨by simp [ints], fun _ => ⟨_, rfl, hg, fun j u hu => by
    have hj : j < 2 := by
      have := (List.getElem?_eq_some_iff.mp hu).1
      rwa [ints_len] at this
    rw [ints_get [x, y] j hj] at hu
    rw [← hu]
    match j, hj with
    | 0, _ => exact h0
    | 1, _ => exact h1⟩⟩

/-- The answer. -/
def hiA (l : List Int) (a b c d : Int) (n : Nat) : List Int × List Int × Bool :=
  if hiOk a b c d l then ([(hiN l a b c d n).1.1, (hiN l a b c d n).1.2.1, (hiN l a b c d n).1.2.2.1, (hiN l a b c d n).1.2.2.2], (hiN l a b c d n).2, true) else ([0, 0, 0, 0], [], false)

set_option maxHeartbeats 4000000 in
theorem frontHigh_any (a b c d : Int) (l : List Int) (A0 : Option Addr) (c0 n : Nat) (w : World) (hr : Rs w w.heap.size A0 l) (hn : l.length = n) (hl : n ≤ 17592186044000) :
    Calls Tryd.prog 24 #[.agg (agi [a, b, c, d]), .slice A0 n c0] w (NewSP w (hiA l a b c d n).2.1 (hiA l a b c d n).1 (errOf (hiA l a b c d n).2.2)) := by
  have hR := results_mid3 (fn := Tryd.f24) (p := 4) (q := 5) (r := 6) (ty := 25) rfl
  have S0 := Hx.start w [a, b, c, d]
  rw [z4_eq] at S0
  have S0 := hid S0
  have R0 := hid (hr.below S0.out.bel)
  have HN := hid hn
  have HR := hid hr
  have KL := hid (fun (W : World) (h : Rs W W.heap.size A0 l) => frontright_any A0 c0 n W.heap.size l W h hn (by omega))
  have KX := hid (fun (W : World) (h : Rs W W.heap.size (some ⟨w.heap.size, 0, none⟩) [a, b]) => frontright_any _ 2 2 W.heap.size [a, b] W h rfl (by omega))
  have KY := hid (fun (W : World) (h : Rs W W.heap.size (some ⟨w.heap.size, 2, none⟩) [c, d]) => frontright_any _ 2 2 W.heap.size [c, d] W h rfl (by omega))
  have k0 : ∀ W, Hx w W [a, b, c, d] → W.cell? ⟨w.heap.size, 0, none⟩ = some (.int .i64 a) := fun W s => IB.cell s.H 0 (by simp)
  have RX := hid (rs_two (IB.cell S0.out.H 0 (by simp)) (IB.cell S0.out.H 1 (by simp)) (Blk.lt S0.out.H))
  have RY := hid (rs_two (IB.cell S0.out.H 2 (by simp)) (IB.cell S0.out.H 3 (by simp)) (Blk.lt S0.out.H))
  have RL := hid (R0.out.more (show w.heap.size ≤ _ from S0.out.bel.size))
  clear hn hr k0 R0
  have K1 := hid (KL.out _ RL.out)
  have K2 := hid (KX.out _ RX.out)
  have K3 := hid (KY.out _ RY.out)
  clear KL KX KY RX RY RL
  by_cases hg : hiOk a b c d l = true
  · obtain ⟨gl, g1, g2⟩ : all16 l = true ∧ all16 [a, b] = true ∧ all16 [c, d] = true := by simpa [hiOk] using hg
    unfold hiA
    rw [if_pos hg]
    have GN := hid (fun k => hiN_in gl g1 g2 k)
    have GL := hid gl
    have K1' := K1.out
    have K2' := K2.out
    have K3' := K3.out
    rw [gl] at K1'
    rw [g1] at K2'
    rw [g2] at K3'
    have K1 := hid K1'
    have K2 := hid K2'
    have K3 := hid K3'
    clear K1' K2' K3' gl g1 g2 hg
    go_enter Tryd.func24, Tryd.ntmps24
    go_wp2_with (first
      | (go_at_call 42; (with_reducible refine K1.out.mono ?_); rintro e w' ⟨rfl, rfl⟩)
      | (go_at_call 42; (with_reducible refine K2.out.mono ?_); rintro e w' ⟨rfl, rfl⟩)
      | (go_at_call 42; (with_reducible refine K3.out.mono ?_); rintro e w' ⟨rfl, rfl⟩))
    have S0' := S0
    clear K1 K2 K3 S0
    go_loopw [7, 30] (fun ov iv wr => ∃ (k : Nat) (A : Option Addr) (cc : Nat) (h0 h1 h2 h3 : Int) (ys : List Int), k ≤ n ∧ iv = .int .i64 k ∧ ov = .slice A k cc ∧ Hid (hiN l a b c d k = ((h0, h1, h2, h3), ys)) ∧ Hid (Own wr (w.heap.size + 2) A cc ys) ∧ Hid (Hx w wr [h0, h1, h2, h3])) (fun _ iv _ => n - (intOf iv).toNat)
    case atStart => exact ⟨0, none, 0, a, b, c, d, [], by omega, rfl, rfl, hid rfl, hid Own.nil, S0'⟩
    case round =>
      clear S0'
      obtain ⟨k, A, cc, h0, h1, h2, h3, ys, hk, rfl, rfl, HY, HO, HS⟩ := hrel
      have YL := hid (show ys.length = k by have := hiN_len l a b c d k; rw [HY.out] at this; exact this)
      have e0 : wr.cell? ⟨w.heap.size, 0, none⟩ = some (.int .i64 h0) := IB.cell HS.out.H 0 (by simp)
      have e1 : wr.cell? ⟨w.heap.size, 1, none⟩ = some (.int .i64 h1) := IB.cell HS.out.H 1 (by simp)
      have e2 : wr.cell? ⟨w.heap.size, 2, none⟩ = some (.int .i64 h2) := IB.cell HS.out.H 2 (by simp)
      have e3 : wr.cell? ⟨w.heap.size, 3, none⟩ = some (.int .i64 h3) := IB.cell HS.out.H 3 (by simp)
      by_cases hlt : k < n
      · obtain ⟨ad, rfl, hadb, c1⟩ := (HR.out.below HS.out.bel).at_ (k := k) (by rw [HN.out]; exact hlt)
        have xb := all16_at GL.out k
        have gn := GN.out k
        rw [HY.out] at gn
        dsimp only at gn
        have HY2 := hid (show hiN l a b c d (k + 1) = ((l.getD k 0, h0, hiY h0 h1 h2 h3 (l.getD k 0), h2), ys ++ [hiY h0 h1 h2 h3 (l.getD k 0)]) by rw [hiN, HY.out])
        obtain ⟨x, hx⟩ : ∃ x, x = l.getD k 0 := ⟨_, rfl⟩
        rw [← hx] at c1 xb HY2
        unfold hiY In16x at *
        obtain ⟨x1, x2⟩ := xb
        obtain ⟨⟨g1, g2⟩, ⟨g3, g4⟩, ⟨g5, g6⟩, g7, g8⟩ := gn
        have f0 : wr.frozen? ⟨w.heap.size, 0, none⟩ = false := Blk.frozen HS.out.H 0
        have f1 : wr.frozen? ⟨w.heap.size, 1, none⟩ = false := Blk.frozen HS.out.H 1
        have f2 : wr.frozen? ⟨w.heap.size, 2, none⟩ = false := Blk.frozen HS.out.H 2
        have f3 : wr.frozen? ⟨w.heap.size, 3, none⟩ = false := Blk.frozen HS.out.H 3
        clear hx
        have hw1 : IntKind.i64.wrap (3798 * x) = 3798 * x := by rw [IntKind.wrap_i64]; omega
        have hw2 : IntKind.i64.wrap (7596 * h0) = 7596 * h0 := by rw [IntKind.wrap_i64]; omega
        have hw3 : IntKind.i64.wrap (3798 * h1) = 3798 * h1 := by rw [IntKind.wrap_i64]; omega
        have hw4 : IntKind.i64.wrap (7807 * h2) = 7807 * h2 := by rw [IntKind.wrap_i64]; omega
        have hw5 : IntKind.i64.wrap (3733 * h3) = 3733 * h3 := by rw [IntKind.wrap_i64]; omega
        have hw6 : IntKind.i64.wrap (3798 * x - 7596 * h0) = 3798 * x - 7596 * h0 := by rw [IntKind.wrap_i64]; omega
        have hw7 : IntKind.i64.wrap (3798 * x - 7596 * h0 + 3798 * h1) = 3798 * x - 7596 * h0 + 3798 * h1 := by rw [IntKind.wrap_i64]; omega
        have hw8 : IntKind.i64.wrap (3798 * x - 7596 * h0 + 3798 * h1 + 7807 * h2) = 3798 * x - 7596 * h0 + 3798 * h1 + 7807 * h2 := by rw [IntKind.wrap_i64]; omega
        have hw9 : IntKind.i64.wrap (3798 * x - 7596 * h0 + 3798 * h1 + 7807 * h2 - 3733 * h3) = 3798 * x - 7596 * h0 + 3798 * h1 + 7807 * h2 - 3733 * h3 := by rw [IntKind.wrap_i64]; omega
        have hw10 : IntKind.i64.wrap (3798 * x - 7596 * h0 + 3798 * h1 + 7807 * h2 - 3733 * h3 + 2048) = 3798 * x - 7596 * h0 + 3798 * h1 + 7807 * h2 - 3733 * h3 + 2048 := by rw [IntKind.wrap_i64]; omega
        clear x1 x2 g1 g2 g3 g4 g5 g6 g7 g8 hR
        obtain ⟨y, hy⟩ : ∃ y, y = s16 ((3798 * x - 7596 * h0 + 3798 * h1 + 7807 * h2 - 3733 * h3 + 2048) / 4096) := ⟨_, rfl⟩
        rw [← hy] at HY2
        have KS := hid (fun W => frontsat_any ((3798 * x - 7596 * h0 + 3798 * h1 + 7807 * h2 - 3733 * h3 + 2048) / 4096) W)
        rw [← hy] at KS
        clear hy
        obtain ⟨w4, hw4⟩ : ∃ w4, w4 = ((((wr.setCell ⟨w.heap.size, 0, none⟩ (.int .i64 x)).setCell ⟨w.heap.size, 1, none⟩ (.int .i64 h0)).setCell ⟨w.heap.size, 2, none⟩ (.int .i64 y)).setCell ⟨w.heap.size, 3, none⟩ (.int .i64 h2)) := ⟨_, rfl⟩
        have S4 := hid (show Hx w w4 [x, h0, y, h2] from hw4 ▸ HS.out.set4 x h0 y h2)
        have O4 := hid (show Own w4 (w.heap.size + 2) A cc ys from hw4 ▸ HO.out.set4 (g := w.heap.size) (by omega) x h0 y h2)
        have HW4 := hid hw4
        have HCN := hid (show (w4.alloc (.cells #[.int .i64 y] 3)).cell? ⟨wr.heap.size, 0, none⟩ = some (.int .i64 y) from by rw [show wr.heap.size = w4.heap.size from by rw [hw4]; simp]; exact cell_new w4 _ _)
        clear hw4
        go_wp2_with (first
          | (go_at_call 43; (with_reducible refine (KS.out _).mono ?_); rintro e w' ⟨rfl, rfl⟩; clear hw1 hw2 hw3 hw4 hw5 hw6 hw7 hw8 hw9 hw10)
          | (at_builtin; rw [← HW4.out]; refine wpList_pushN rfl (.tmp 76) (.tmp 78) rfl (w.heap.size + 2) A cc k ys rfl YL.out (O4.out.alloc _) ⟨wr.heap.size, 0, none⟩ y rfl HCN.out (by omega) (Nat.le_trans S4.out.lt (by simp)) ?_; intro A2 c2 w5 hO hG hA; have O5 := hid hO; have G5 := hid hG; clear hO hG hA))
        have S5 := hid ((S4.out.alloc _).grown (O4.out.alloc _) G5.out)
        go_wp2
        go_roundw
        case rel => exact ⟨k + 1, A2, c2, _, _, _, _, _, by omega, by go_num, rfl, HY2, O5, S5⟩
        case measure => simp [intOf] <;> omega
      · obtain rfl : k = n := by omega
        have r0 : wr.cell? ⟨w.heap.size + 1, 0, none⟩ = some (.int .i64 0) := IB.cell HS.out.R 0 (by decide)
        have r1 : wr.cell? ⟨w.heap.size + 1, 1, none⟩ = some (.int .i64 0) := IB.cell HS.out.R 1 (by decide)
        have r2 : wr.cell? ⟨w.heap.size + 1, 2, none⟩ = some (.int .i64 0) := IB.cell HS.out.R 2 (by decide)
        have r3 : wr.cell? ⟨w.heap.size + 1, 3, none⟩ = some (.int .i64 0) := IB.cell HS.out.R 3 (by decide)
        have f0 : wr.frozen? ⟨w.heap.size + 1, 0, none⟩ = false := Blk.frozen HS.out.R 0
        have f1 : wr.frozen? ⟨w.heap.size + 1, 1, none⟩ = false := Blk.frozen HS.out.R 1
        have f2 : wr.frozen? ⟨w.heap.size + 1, 2, none⟩ = false := Blk.frozen HS.out.R 2
        have f3 : wr.frozen? ⟨w.heap.size + 1, 3, none⟩ = false := Blk.frozen HS.out.R 3
        have IR := hid (Blk.drew (IB.set4 HS.out.R h0 h1 h2 h3))
        have OR := hid ((HO.out.set4 (g := w.heap.size + 1) (by omega) h0 h1 h2 h3).drew.more (base' := w.heap.size) (by omega))
        have BR := hid (below_set4 HS.out.bel (g := w.heap.size + 1) (by omega) h0 h1 h2 h3).drew
        go_wp2
        go_region
        clear e0 e1 e2 e3 r0 r1 r2 r3 f0 f1 f2 f3
        simp only [Exit.then]
        go_wp2
        refine bodyPost_ret (v := _) (hR _ _ _ 25 [h0, h1, h2, h3] _ 4 rfl IR.out Tryd.underlying25 rfl size4 rfl) rfl ?_
        rw [HY.out]
        exact ⟨A, cc, by rw [YL.out]; rfl, OR.out, BR.out⟩
  · have hA : hiA l a b c d n = ([0, 0, 0, 0], [], false) := by unfold hiA; rw [if_neg hg]
    rw [hA]
    clear hA
    obtain ⟨W, hW⟩ : ∃ W, W = (w.alloc (.cells (agi [a, b, c, d]) 25)).alloc (.cells #[.int .i64 0, .int .i64 0, .int .i64 0, .int .i64 0] 25) := ⟨_, rfl⟩
    rw [← hW] at K1 K2 K3 S0
    have r0 : W.cell? ⟨w.heap.size + 1, 0, none⟩ = some (.int .i64 0) := IB.cell S0.out.R 0 (by decide)
    have r1 : W.cell? ⟨w.heap.size + 1, 1, none⟩ = some (.int .i64 0) := IB.cell S0.out.R 1 (by decide)
    have r2 : W.cell? ⟨w.heap.size + 1, 2, none⟩ = some (.int .i64 0) := IB.cell S0.out.R 2 (by decide)
    have r3 : W.cell? ⟨w.heap.size + 1, 3, none⟩ = some (.int .i64 0) := IB.cell S0.out.R 3 (by decide)
    have f0 : W.frozen? ⟨w.heap.size + 1, 0, none⟩ = false := Blk.frozen S0.out.R 0
    have f1 : W.frozen? ⟨w.heap.size + 1, 1, none⟩ = false := Blk.frozen S0.out.R 1
    have f2 : W.frozen? ⟨w.heap.size + 1, 2, none⟩ = false := Blk.frozen S0.out.R 2
    have f3 : W.frozen? ⟨w.heap.size + 1, 3, none⟩ = false := Blk.frozen S0.out.R 3
    have IR := hid S0.out.R
    have BR := hid S0.out.bel
    have FIN := hid (show NewSP w [] [0, 0, 0, 0] (errOf false) (.returned (.tuple #[.slice none 0 0, .agg (agi [0, 0, 0, 0]), .int .i64 2])) W from ⟨none, 0, rfl, Own.nil, BR.out⟩)
    unfold hiOk at hg
    cases gl : all16 l with
    | false =>
          rw [gl] at K1
          clear K2 K3 hg S0
          go_enter Tryd.func24, Tryd.ntmps24
          go_wp2_with (first
            | (rw [← hW])
            | (go_at_call 42; (with_reducible refine K1.out.mono ?_); rintro e w' ⟨rfl, rfl⟩)
            | (go_at_call 42; (with_reducible refine K2.out.mono ?_); rintro e w' ⟨rfl, rfl⟩)
            | (go_at_call 42; (with_reducible refine K3.out.mono ?_); rintro e w' ⟨rfl, rfl⟩))
          refine bodyPost_ret (v := _) (hR _ _ _ 25 [0, 0, 0, 0] _ 4 rfl IR.out Tryd.underlying25 rfl size4 rfl) rfl ?_
          exact FIN.out
    | true =>
      rw [gl] at K1 hg
      cases g1 : all16 [a, b] with
      | false =>
          rw [g1] at K2
          clear K3 hg S0
          go_enter Tryd.func24, Tryd.ntmps24
          go_wp2_with (first
            | (rw [← hW])
            | (go_at_call 42; (with_reducible refine K1.out.mono ?_); rintro e w' ⟨rfl, rfl⟩)
            | (go_at_call 42; (with_reducible refine K2.out.mono ?_); rintro e w' ⟨rfl, rfl⟩)
            | (go_at_call 42; (with_reducible refine K3.out.mono ?_); rintro e w' ⟨rfl, rfl⟩))
          refine bodyPost_ret (v := _) (hR _ _ _ 25 [0, 0, 0, 0] _ 4 rfl IR.out Tryd.underlying25 rfl size4 rfl) rfl ?_
          exact FIN.out
      | true =>
        rw [g1] at K2 hg
        cases g2 : all16 [c, d] with
        | false =>
          rw [g2] at K3
          clear hg S0
          go_enter Tryd.func24, Tryd.ntmps24
          go_wp2_with (first
            | (rw [← hW])
            | (go_at_call 42; (with_reducible refine K1.out.mono ?_); rintro e w' ⟨rfl, rfl⟩)
            | (go_at_call 42; (with_reducible refine K2.out.mono ?_); rintro e w' ⟨rfl, rfl⟩)
            | (go_at_call 42; (with_reducible refine K3.out.mono ?_); rintro e w' ⟨rfl, rfl⟩))
          refine bodyPost_ret (v := _) (hR _ _ _ 25 [0, 0, 0, 0] _ 4 rfl IR.out Tryd.underlying25 rfl size4 rfl) rfl ?_
          exact FIN.out
        | true => rw [g2] at hg; simp at hg
end Go.Proofs.YthoiikkjjaldnaaDoor

/- Blocks of numbers as the drawing regions speak of them: ranges. -/
namespace Go.Proofs.YthoiikkjjaldnaaDoor
set_option linter.unusedVariables false
set_option linter.unusedSimpArgs false
set_option maxRecDepth 100000
open Go.RowKit

section
variable {w w' : World} {g : Nat} {t : TypeId} {xs : List Int} {cs : Array Value}
theorem Blk.rangeAt (h : Blk w g t cs) : w.rangeAt g 0 cs.toList := fun j v hv => by
  rw [Nat.zero_add, Blk.cell h j, ← hv]
  simp
theorem IB.rangeAt (h : IB w g t xs) : w.rangeAt g 0 (ints xs) := by
  have := Blk.rangeAt h
  simpa [agi] using this
theorem Blk.there (h : Blk w g t cs) : w.there g 0 cs.size := fun j hj => by
  rw [Nat.zero_add]
  refine ⟨?_, Blk.frozen h j⟩
  rw [Blk.cell h j]
  simp [hj]
end
end Go.Proofs.YthoiikkjjaldnaaDoor

/- What the reference's Correlate holds: nine whole numbers behind an array of pointers. -/
namespace Go.Proofs.YthoiikkjjaldnaaDoor
set_option linter.unusedVariables false
set_option linter.unusedSimpArgs false
set_option maxRecDepth 100000
open Go.RowKit

section
variable {w wr w' : World} {q ws : List Int} {gw gs k : Nat} {P : Nat → Nat} {X Y : Nat → Int}
end
end Go.Proofs.YthoiikkjjaldnaaDoor

/- The walk of the reference's Correlate. -/
namespace Go.Proofs.YthoiikkjjaldnaaDoor
set_option linter.unusedVariables false
set_option linter.unusedSimpArgs false
set_option maxRecDepth 100000
open Go.RowKit

end Go.Proofs.YthoiikkjjaldnaaDoor

/- The walk of the law FrontCorrelates. -/
namespace Go.Proofs.YthoiikkjjaldnaaDoor
set_option linter.unusedVariables false
set_option linter.unusedSimpArgs false
set_option maxRecDepth 100000
open Go.RowKit

def corA (l : List Int) : List Int := if l.length = 120 ∧ all16 l = true then corF l (corG l) 9 else Z9
def corP (l : List Int) : Int := if l.length = 120 ∧ all16 l = true then corK l else 0
def CorOut (l : List Int) (w : World) (e : Ending) (w' : World) : Prop := e = .returned (.tuple #[.agg (agi (corA l)), .int .i64 (corP l), .int .i64 (corErr l)]) ∧ Below w.heap.size w w'
theorem corA_len (l : List Int) : (corA l).length = 9 := by
  unfold corA
  split
  · exact corF_len _ _ _
  · rfl
theorem cor_out_good {l : List Int} {w w' : World} {e : Ending} (h1 : l.length = 120) (h2 : all16 l = true) (h : CorFin l w e w') : CorOut l w e w' := by
  obtain ⟨rfl, hB⟩ := h
  refine ⟨?_, hB⟩
  unfold corA corP corErr
  rw [if_pos ⟨h1, h2⟩, if_pos ⟨h1, h2⟩, if_pos h1, h2]
  rfl
theorem cor_out_len {l : List Int} {w w' : World} {e : Ending} (h1 : l.length ≠ 120) (h : CorBad w 1 e w') : CorOut l w e w' := by
  obtain ⟨rfl, hB⟩ := h
  refine ⟨?_, hB⟩
  unfold corA corP corErr
  rw [if_neg (fun h => h1 h.1), if_neg (fun h => h1 h.1), if_neg h1]
theorem cor_out_not {l : List Int} {w w' : World} {e : Ending} (h1 : l.length = 120) (h2 : all16 l = false) (h : CorBad w 2 e w') : CorOut l w e w' := by
  obtain ⟨rfl, hB⟩ := h
  refine ⟨?_, hB⟩
  unfold corA corP corErr
  rw [if_neg (fun h => by rw [h2] at h; exact absurd h.2 (by decide)), if_neg (fun h => by rw [h2] at h; exact absurd h.2 (by decide)), if_pos h1, h2]
  rfl
theorem correlate_any (A : Option Addr) (c n : Nat) (l : List Int) (w : World) (hr : Rs w w.heap.size A l) (hn : l.length = n) : Calls Tryd.prog 25 #[.slice A n c] w (CorOut l w) := by
  by_cases h1 : n = 120
  · subst h1
    by_cases h2 : all16 l = true
    · exact (correlate_good A c 120 l w hr hn h2).mono fun e w' h => cor_out_good hn h2 (cor_fin (all16_at h2) h)
    · exact (correlate_not A c l w hr hn (by simpa using h2)).mono fun e w' h => cor_out_not hn (by simpa using h2) h
  · exact (correlate_len A c n w h1).mono fun e w' h => cor_out_len (by rw [hn]; exact h1) h
end Go.Proofs.YthoiikkjjaldnaaDoor
