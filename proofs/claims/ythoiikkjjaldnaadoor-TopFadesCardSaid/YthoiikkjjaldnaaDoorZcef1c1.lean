/- Texts that the law rests on, laid together: MixW, StepI. -/
import Derived.Test.YthoiikkjjaldnaaDoorZ6b4648
import Derived.Test.YthoiikkjjaldnaaDoorZ7a1a29
import Derived.RegionTactic
import Derived.Test.YthoiikkjjaldnaaDoorZ10bfcc
/- The walk of Mix, the program's. -/
namespace Go.Proofs.YthoiikkjjaldnaaDoor
set_option linter.unusedVariables false
set_option linter.unusedSimpArgs false
set_option maxRecDepth 100000
open Go.RowKit

def Mixes (w : World) (a b : List Int) (num : Int) (e : Ending) (w' : World) : Prop := e = .returned (.tuple #[.agg (agi (mixL a b num)), .int .i64 (errOf (mixB a b num))]) ∧ Below w.heap.size w w'
def Z8 : List Int := List.replicate 8 0
def Z9 : List Int := List.replicate 9 0
theorem z8_eq : agi Z8 = #[.int .i64 0, .int .i64 0, .int .i64 0, .int .i64 0, .int .i64 0, .int .i64 0, .int .i64 0, .int .i64 0] := rfl
theorem z9_eq : agi Z9 = #[.int .i64 0, .int .i64 0, .int .i64 0, .int .i64 0, .int .i64 0, .int .i64 0, .int .i64 0, .int .i64 0, .int .i64 0] := rfl
theorem size8 : (Tryd.prog.info? 27).map (·.size) = some 8 := by kernel_rfl
theorem size9 : (Tryd.prog.info? 69).map (·.size) = some 9 := by kernel_rfl

theorem mix_bad {w w' : World} {a b : List Int} {num : Int} (h : mixB a b num = false) (hB : Below w.heap.size w w') : Mixes w a b num (.returned (.tuple #[.agg (agi Z8), .int .i64 2])) w' := by
  refine ⟨?_, hB⟩
  unfold mixL errOf
  rw [h]
  rfl
theorem mix_good {w w' : World} {a b ys : List Int} {num : Int} (h : mixB a b num = true) (hl : ys.length = 8) (hy : ∀ j, j < 8 → ys.getD j 0 = mixE a b num j) (hB : Below w.heap.size w w') : Mixes w a b num (.returned (.tuple #[.agg (agi ys), .int .i64 0])) w' := by
  refine ⟨?_, hB⟩
  have e : ys = mixL a b num := by
    apply list_ext (by rw [hl, mixL_len])
    intro j hj
    rw [hy j (by omega)]
    unfold mixL
    rw [if_pos h, List.getD_eq_getElem?_getD, List.getElem?_map, List.getElem?_range (by omega)]
    rfl
  unfold errOf
  rw [h, e]
  rfl
theorem mixB_a {a b : List Int} {num : Int} {k : Nat} (hk : k < a.length) (h : a.getD k 0 ≤ -32768 ∨ 32768 ≤ a.getD k 0) : mixB a b num = false := by
  unfold mixB steadyB; rw [all_no hk (okR_no h)]; simp
theorem mixB_b {a b : List Int} {num : Int} {k : Nat} (hk : k < b.length) (h : b.getD k 0 ≤ -32768 ∨ 32768 ≤ b.getD k 0) : mixB a b num = false := by
  unfold mixB steadyB; rw [all_no hk (okR_no h)]; simp

structure MixInv (w wr : World) (a b ys : List Int) : Prop where
  A : IB wr w.heap.size 27 a
  B : IB wr (w.heap.size + 1) 27 b
  R : IB wr (w.heap.size + 1 + 1) 27 Z8
  O : IB wr (w.heap.size + 1 + 1 + 1) 27 ys
  bel : Below w.heap.size w wr
theorem MixInv.start (w : World) (a b : List Int) : MixInv w ((((w.alloc (.cells (agi a) 27)).alloc (.cells (agi b) 27)).alloc (.cells (agi Z8) 27)).alloc (.cells (agi Z8) 27)) a b Z8 := by
  have h1 := IB.new w 27 a
  have h2 := IB.new (w.alloc (.cells (agi a) 27)) 27 b
  have h3 := IB.new ((w.alloc (.cells (agi a) 27)).alloc (.cells (agi b) 27)) 27 Z8
  have h4 := IB.new (((w.alloc (.cells (agi a) 27)).alloc (.cells (agi b) 27)).alloc (.cells (agi Z8) 27)) 27 Z8
  simp only [World.size_alloc] at h2 h3 h4
  exact ⟨((Blk.alloc h1 _).alloc _).alloc _, (Blk.alloc h2 _).alloc _, Blk.alloc h3 _, h4, ((((Below.refl _ _).alloc (Nat.le_refl _) _).alloc (by simp) _).alloc (by simp; omega) _).alloc (by simp; omega) _⟩

set_option maxHeartbeats 4000000 in
theorem lmix_any (a b : List Int) (num : Int) (w : World) (ha : a.length = 8) (hb : b.length = 8) : Calls Tryd.prog 47 #[.agg (agi a), .agg (agi b), .int .i64 num] w (Mixes w a b num) := by
  have S0 := hid (MixInv.start w a b)
  by_cases h1 : num < 0 ∨ 4 < num
  · have FIN := hid ((((((Below.refl _ w).alloc (Nat.le_refl _) (.cells (agi a) 27)).alloc (by simp) (.cells (agi b) 27)).alloc (by simp; omega) (.cells (agi Z8) 27))))
    have h3 := IB.new ((w.alloc (.cells (agi a) 27)).alloc (.cells (agi b) 27)) 27 Z8
    simp only [World.size_alloc] at h3
    have hRow := hid h3
    have hRow2 := hid (h3.setRow Z8)
    have FIN := hid (mix_bad (a := a) (b := b) (num := num) (by unfold mixB; simp; omega) (below_setRow FIN.out (g := w.heap.size + 1 + 1) (by omega) (agi Z8)))
    clear h3
    have hR := results_row2 (fn := Tryd.f47) (p := 6) (q := 7) (ty := 27) rfl
    rcases h1 with h1 | h1
    · have d1 : decide (num < 0) = true := by simpa using h1
      go_enter Tryd.func47, Tryd.ntmps47
      go_wp2_with (refine wpList_storeI rfl 27 (.tmp 6) (.tmp 16) rfl _ 27 Z8 Z8 8 rfl rfl hRow.out size8 rfl rfl ?_)
      refine bodyPost_ret (v := _) (hR _ _ _ 27 Z8 _ 8 rfl hRow2.out Tryd.underlying27 rfl size8 rfl) rfl ?_
      exact FIN.out
    · have d1 : decide (num < 0) = false := by simp; omega
      have d2 : decide (4 < num) = true := by simpa using h1
      go_enter Tryd.func47, Tryd.ntmps47
      go_wp2_with (refine wpList_storeI rfl 27 (.tmp 6) (.tmp 16) rfl _ 27 Z8 Z8 8 rfl rfl hRow.out size8 rfl rfl ?_)
      refine bodyPost_ret (v := _) (hR _ _ _ 27 Z8 _ 8 rfl hRow2.out Tryd.underlying27 rfl size8 rfl) rfl ?_
      exact FIN.out
  · have h0 : 0 ≤ num := by omega
    have h4 : num ≤ 4 := by omega
    have d1 : decide (num < 0) = false := by simp; omega
    have d2 : decide (4 < num) = false := by simp; omega
    clear h1
    rw [z8_eq] at S0
    have HA := hid ha
    have HB := hid hb
    clear ha hb
    go_enter Tryd.func47, Tryd.ntmps47
    go_wp2
    go_loopw [17] (fun iv wr => ∃ (k : Nat) (ys : List Int), k ≤ 8 ∧ iv = .int .i64 k ∧ Hid (ys.length = 8 ∧ (allTo okR a k ∧ allTo okR b k) ∧ ∀ j, j < k → ys.getD j 0 = mixE a b num j) ∧ Hid (MixInv w wr a b ys)) (fun iv _ => 8 - (intOf iv).toNat)
    case atStart => exact ⟨0, Z8, by omega, rfl, hid ⟨rfl, ⟨allTo.zero, allTo.zero⟩, fun j h => by omega⟩, S0⟩
    case round =>
      clear S0
      obtain ⟨k, ys, hk, rfl, HY, HI⟩ := hrel
      by_cases hlt : k < 8
      · have ca := HI.out.A.cell k (by rw [HA.out]; exact hlt)
        have cb := HI.out.B.cell k (by rw [HB.out]; exact hlt)
        have co := HI.out.O.cell k (by rw [HY.out.1]; exact hlt)
        have fo := HI.out.O.frozen k
        obtain ⟨x, hx⟩ : ∃ x, x = a.getD k 0 := ⟨_, rfl⟩
        obtain ⟨y, hy⟩ : ∃ y, y = b.getD k 0 := ⟨_, rfl⟩
        rw [← hx] at ca
        rw [← hy] at cb
        have HX := hid hx
        have HYY := hid hy
        clear hx hy
        by_cases hbad : (x ≤ -32768 ∨ 32768 ≤ x) ∨ (y ≤ -32768 ∨ 32768 ≤ y)
        · have FIN := hid (fun (w1 : World) => mix_bad (w := w) (w' := w1) (a := a) (b := b) (num := num) (by
            rcases hbad with h | h
            · exact mixB_a (k := k) (by rw [HA.out]; exact hlt) (by rw [← HX.out]; exact h)
            · exact mixB_b (k := k) (by rw [HB.out]; exact hlt) (by rw [← HYY.out]; exact h)))
          have hB := hid (below_setRow HI.out.bel (g := w.heap.size + 1 + 1) (by omega) (agi Z8))
          have hRow := hid (HI.out.R.setRow Z8)
          have hR := results_row2 (fn := Tryd.f47) (p := 6) (q := 7) (ty := 27) rfl
          by_cases b1 : x ≤ -32768
          · go_wp2_with (refine wpList_storeI rfl 27 (.tmp 6) (.tmp 42) rfl _ 27 Z8 Z8 8 rfl rfl HI.out.R size8 rfl rfl ?_)
            refine bodyPost_ret (v := _) (hR _ _ _ 27 Z8 _ 8 rfl hRow.out Tryd.underlying27 rfl size8 rfl) rfl ?_
            exact FIN.out _ hB.out
          by_cases b2 : 32768 ≤ x
          · go_wp2_with (refine wpList_storeI rfl 27 (.tmp 6) (.tmp 42) rfl _ 27 Z8 Z8 8 rfl rfl HI.out.R size8 rfl rfl ?_)
            refine bodyPost_ret (v := _) (hR _ _ _ 27 Z8 _ 8 rfl hRow.out Tryd.underlying27 rfl size8 rfl) rfl ?_
            exact FIN.out _ hB.out
          by_cases b3 : y ≤ -32768
          · go_wp2_with (refine wpList_storeI rfl 27 (.tmp 6) (.tmp 42) rfl _ 27 Z8 Z8 8 rfl rfl HI.out.R size8 rfl rfl ?_)
            refine bodyPost_ret (v := _) (hR _ _ _ 27 Z8 _ 8 rfl hRow.out Tryd.underlying27 rfl size8 rfl) rfl ?_
            exact FIN.out _ hB.out
          have b4 : 32768 ≤ y := by omega
          go_wp2_with (refine wpList_storeI rfl 27 (.tmp 6) (.tmp 42) rfl _ 27 Z8 Z8 8 rfl rfl HI.out.R size8 rfl rfl ?_)
          refine bodyPost_ret (v := _) (hR _ _ _ 27 Z8 _ 8 rfl hRow.out Tryd.underlying27 rfl size8 rfl) rfl ?_
          exact FIN.out _ hB.out
        · have b1 : -32768 < x := by omega
          have b2 : x < 32768 := by omega
          have b3 : -32768 < y := by omega
          have b4 : y < 32768 := by omega
          obtain ⟨m1, m2, m3, m4⟩ := mix_sum ⟨b1, b2⟩ ⟨b3, b4⟩ ⟨h0, h4⟩
          have NEXT := hid (show Hid ((ys.set k ((x * (4 - num) + y * num).tdiv 4)).length = 8 ∧ (allTo okR a (k + 1) ∧ allTo okR b (k + 1)) ∧ ∀ j, j < k + 1 → (ys.set k ((x * (4 - num) + y * num).tdiv 4)).getD j 0 = mixE a b num j) from by
            obtain ⟨q1, ⟨q2, q3⟩, q4⟩ := HY.out
            refine ⟨by simpa using q1, ⟨q2.succ (by rw [← HX.out]; exact okR_yes b1 b2), q3.succ (by rw [← HYY.out]; exact okR_yes b3 b4)⟩, fun j hj => ?_⟩
            by_cases he : k = j
            · subst he
              rw [get_set_same _ _ _ (by omega), mixE, ← HX.out, ← HYY.out]
            · rw [get_set_other _ _ he]
              exact q4 j (by omega))
          have NI := hid (fun v => show MixInv w (wr.setCell ⟨w.heap.size + 1 + 1 + 1, k, none⟩ (.int .i64 v)).drew a b (ys.set k v) from
            ⟨Blk.far HI.out.A (by simp; try omega) _, Blk.far HI.out.B (by simp; try omega) _, Blk.far HI.out.R (by simp; try omega) _, HI.out.O.set_ k v, Below.drew (HI.out.bel.setCell (p := ⟨w.heap.size + 1 + 1 + 1, k, none⟩) (show w.heap.size ≤ w.heap.size + 1 + 1 + 1 by omega) _)⟩)
          clear hbad
          go_wp2
          go_region
          all_goals
            go_wp2
            go_roundw
            case rel => exact ⟨k + 1, _, by omega, by go_num, NEXT.out, NI.out _⟩
            case measure => simp [intOf] <;> omega
      · obtain rfl : k = 8 := by omega
        have hg : mixB a b num = true := by
          unfold mixB steadyB
          rw [HY.out.2.1.1.all (by rw [HA.out]; exact Nat.le_refl _), HY.out.2.1.2.all (by rw [HB.out]; exact Nat.le_refl _)]
          simp; omega
        have FIN := hid (fun (w1 : World) => mix_good (w := w) (w' := w1) hg HY.out.1 HY.out.2.2)
        have hB := hid (below_setRow HI.out.bel (g := w.heap.size + 1 + 1) (by omega) (agi ys))
        have hRow := hid (HI.out.R.setRow ys)
        have hR := results_row2 (fn := Tryd.f47) (p := 6) (q := 7) (ty := 27) rfl
        clear hlt hg
        go_wp2_with (first
          | (refine wpList_loadI rfl 27 (.tmp 8) rfl _ 27 ys 8 _ rfl HI.out.O Tryd.underlying27 rfl size8 HY.out.1 ?_)
          | (refine wpList_storeI rfl 27 (.tmp 6) (.tmp 59) rfl _ 27 Z8 ys 8 rfl rfl HI.out.R size8 rfl HY.out.1 ?_))
        refine bodyPost_ret (v := _) (hR _ _ _ 27 ys _ 8 rfl hRow.out Tryd.underlying27 rfl size8 HY.out.1) rfl ?_
        exact FIN.out _ hB.out
end Go.Proofs.YthoiikkjjaldnaaDoor

/- append of numbers as one step of a region that draws its order; three rows that a call fills. -/
namespace Go.Proofs.YthoiikkjjaldnaaDoor
set_option linter.unusedVariables false
set_option linter.unusedSimpArgs false
set_option maxRecDepth 100000
open Go.RowKit

theorem cell_alloc {w : World} {p : Addr} {v : Value} (o : Obj) (h : w.cell? p = some v) : (w.alloc o).cell? p = some v := by
  have hlt : p.block < w.heap.size := by
    rcases Nat.lt_or_ge p.block w.heap.size with h1 | h1
    · exact h1
    · unfold World.cell? at h
      rw [Array.getElem?_eq_none h1] at h
      simp at h
  exact (((Below.refl w.heap.size w).alloc (Nat.le_refl _) o).cell hlt).trans h
/-- Cells of elder worlds that are not the row's stay. -/
def Lits (n0 : Nat) (w w' : World) : Prop := ∀ (p : Addr) v, n0 ≤ p.block → w.cell? p = some v → w'.cell? p = some v
theorem Lits.refl (n0 : Nat) (w : World) : Lits n0 w w := fun _ _ _ h => h
theorem Lits.trans {n0 : Nat} {a b c : World} (h : Lits n0 a b) (k : Lits n0 b c) : Lits n0 a c := fun p v hp hc => k p v hp (h p v hp hc)
theorem Lits.alloc {n0 : Nat} {a b : World} (h : Lits n0 a b) (o : Obj) : Lits n0 a (b.alloc o) := fun p v hp hc => cell_alloc o (h p v hp hc)
theorem Lits.drew {n0 : Nat} {a b : World} (h : Lits n0 a b) : Lits n0 a b.drew := h
theorem Lits.cell {n0 : Nat} {w w' : World} {p : Addr} {v : Value} (h : Lits n0 w w') (hp : n0 ≤ p.block) (hc : w.cell? p = some v) : w'.cell? p = some v := h p v hp hc
theorem cell_lt {w : World} {p : Addr} {v : Value} (h : w.cell? p = some v) : p.block < w.heap.size := by
  rcases Nat.lt_or_ge p.block w.heap.size with h1 | h1
  · exact h1
  · unfold World.cell? at h
    rw [Array.getElem?_eq_none h1] at h
    simp at h
theorem cell_newAt {w : World} {g i : Nat} {v : Value} {cs : Array Value} {t : TypeId} (h : g = w.heap.size) (hv : cs[i]? = some v) : (w.alloc (.cells cs t)).cell? ⟨g, i, none⟩ = some v := by rw [h]; exact (Blk.cell (Blk.new w t cs) i).trans hv
theorem add_two (g i : Nat) : (⟨g, 2, none⟩ : Addr).add i = ⟨g, 2 + i, none⟩ := by unfold Addr.add; split <;> simp_all
theorem rs_at4 {w : World} {B g : Nat} {a b c d : Int} (h0 : w.cell? ⟨g, 2, none⟩ = some (.int .i64 a)) (h1 : w.cell? ⟨g, 3, none⟩ = some (.int .i64 b)) (h2 : w.cell? ⟨g, 4, none⟩ = some (.int .i64 c)) (h3 : w.cell? ⟨g, 5, none⟩ = some (.int .i64 d)) (hg : g < B) : Rs w B (some ⟨g, 2, none⟩) [a, b, c, d] :=
  ⟨by simp [ints], fun _ => ⟨_, rfl, hg, fun j u hj => by
    match j, hj with
    | 0, hj => simp [ints] at hj; subst hj; rw [add_two]; exact h0
    | 1, hj => simp [ints] at hj; subst hj; rw [add_two]; exact h1
    | 2, hj => simp [ints] at hj; subst hj; rw [add_two]; exact h2
    | 3, hj => simp [ints] at hj; subst hj; rw [add_two]; exact h3⟩⟩
/-- What an append leaves: every cell but the row's. -/
def Hop (w : World) (A : Option Addr) (w' : World) : Prop := ∀ (p : Addr) v, (∀ a, A = some a → a.block ≠ p.block) → w.cell? p = some v → w'.cell? p = some v
theorem Hop.cell {w w' : World} {A : Option Addr} {p : Addr} {v : Value} (h : Hop w A w') (hp : ∀ a, A = some a → a.block ≠ p.block) (hc : w.cell? p = some v) : w'.cell? p = some v := h p v hp hc
/-- Eight cells of a block. -/
abbrev Box8 (g : Nat) (W : World) (a b c d e f x y : Int) : Prop := W.cell? ⟨g, 0, none⟩ = some (.int .i64 a) ∧ W.cell? ⟨g, 1, none⟩ = some (.int .i64 b) ∧ W.cell? ⟨g, 2, none⟩ = some (.int .i64 c) ∧ W.cell? ⟨g, 3, none⟩ = some (.int .i64 d) ∧ W.cell? ⟨g, 4, none⟩ = some (.int .i64 e) ∧ W.cell? ⟨g, 5, none⟩ = some (.int .i64 f) ∧ W.cell? ⟨g, 6, none⟩ = some (.int .i64 x) ∧ W.cell? ⟨g, 7, none⟩ = some (.int .i64 y)
theorem Box8.alloc {g : Nat} {W : World} {a b c d e f x y : Int} (h : Box8 g W a b c d e f x y) (o : Obj) : Box8 g (W.alloc o) a b c d e f x y :=
  ⟨cell_alloc o h.1, cell_alloc o h.2.1, cell_alloc o h.2.2.1, cell_alloc o h.2.2.2.1, cell_alloc o h.2.2.2.2.1, cell_alloc o h.2.2.2.2.2.1, cell_alloc o h.2.2.2.2.2.2.1, cell_alloc o h.2.2.2.2.2.2.2⟩
theorem Box8.drew {g : Nat} {W : World} {a b c d e f x y : Int} (h : Box8 g W a b c d e f x y) : Box8 g W.drew a b c d e f x y := h
theorem Box8.new (w : World) (t : TypeId) (a b c d e f x y : Int) : Box8 w.heap.size (w.alloc (.cells #[.int .i64 a, .int .i64 b, .int .i64 c, .int .i64 d, .int .i64 e, .int .i64 f, .int .i64 x, .int .i64 y] t)) a b c d e f x y :=
  ⟨cell_newAt rfl rfl, cell_newAt rfl rfl, cell_newAt rfl rfl, cell_newAt rfl rfl, cell_newAt rfl rfl, cell_newAt rfl rfl, cell_newAt rfl rfl, cell_newAt rfl rfl⟩
theorem Box8.lt {g : Nat} {W : World} {a b c d e f x y : Int} (h : Box8 g W a b c d e f x y) : g < W.heap.size := cell_lt (p := ⟨g, 0, none⟩) h.1
theorem Box8.rs {g B : Nat} {W : World} {a b c d e f x y : Int} (h : Box8 g W a b c d e f x y) (hg : g < B) : Rs W B (some ⟨g, 2, none⟩) [c, d, e, f] := rs_at4 h.2.2.1 h.2.2.2.1 h.2.2.2.2.1 h.2.2.2.2.2.1 hg
/-- A packet's box and three rows that the call fills. -/
structure N3 (w wr : World) (ps : List Int) (A1 : Option Addr) (c1 : Nat) (v : List Int) (A2 : Option Addr) (c2 : Nat) (u : List Int) (A3 : Option Addr) (c3 : Nat) (m : List Int) : Prop where
  P : IB wr w.heap.size 77 ps
  O1 : Own wr (w.heap.size + 1) A1 c1 v
  O2 : Own wr (w.heap.size + 1) A2 c2 u
  O3 : Own wr (w.heap.size + 1) A3 c3 m
  d12 : ∀ a b, A1 = some a → A2 = some b → a.block ≠ b.block
  d13 : ∀ a b, A1 = some a → A3 = some b → a.block ≠ b.block
  d23 : ∀ a b, A2 = some a → A3 = some b → a.block ≠ b.block
  B : Below w.heap.size w wr
section
variable {w wr w' : World} {ps v u m x : List Int} {A1 A2 A3 A' : Option Addr} {c1 c2 c3 c' : Nat}
theorem N3.size (s : N3 w wr ps A1 c1 v A2 c2 u A3 c3 m) : w.heap.size + 1 ≤ wr.heap.size := Blk.lt s.P
theorem N3.alloc (s : N3 w wr ps A1 c1 v A2 c2 u A3 c3 m) (o : Obj) : N3 w (wr.alloc o) ps A1 c1 v A2 c2 u A3 c3 m := ⟨Blk.alloc s.P o, s.O1.alloc o, s.O2.alloc o, s.O3.alloc o, s.d12, s.d13, s.d23, s.B.alloc s.B.size o⟩
theorem N3.drew (s : N3 w wr ps A1 c1 v A2 c2 u A3 c3 m) : N3 w wr.drew ps A1 c1 v A2 c2 u A3 c3 m := ⟨Blk.drew s.P, s.O1.drew, s.O2.drew, s.O3.drew, s.d12, s.d13, s.d23, s.B.drew⟩
/-- A cell of the elder world. -/
theorem N3.old (s : N3 w wr ps A1 c1 v A2 c2 u A3 c3 m) {p : Addr} {y : Value} (h : w.cell? p = some y) (hp : p.block < w.heap.size) : wr.cell? p = some y := (s.B.cell hp).trans h
end
end Go.Proofs.YthoiikkjjaldnaaDoor
