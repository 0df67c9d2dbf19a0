/- The walks of Expand, the program's and the reference's, and of the law LpcExpands. -/
import Derived.Test.YtniechgbbkkncaaMixR
import Derived.Test.YtniechgbbkkncaaEqA
import Derived.Test.YtniechgbbkkncaaDown
namespace Go.Proofs.Ytniechgbbkkncaa
set_option linter.unusedVariables false
set_option linter.unusedSimpArgs false
set_option maxRecDepth 100000
open Go.RowKit

def Exps (w : World) (a : List Int) (g : Int) (e : Ending) (w' : World) : Prop := e = .returned (.tuple #[.agg (agi (exL a g)), .int .i64 (errOf (exB a g))]) ∧ Below w.heap.size w w'
theorem exp_bad {w w' : World} {a : List Int} {g : Int} (h : exB a g = false) (hB : Below w.heap.size w w') : Exps w a g (.returned (.tuple #[.agg (agi Z9), .int .i64 2])) w' := by
  refine ⟨?_, hB⟩
  unfold exL errOf
  rw [h]
  rfl
theorem exp_good {w w' : World} {a ys : List Int} {g : Int} (h : exB a g = true) (hl : ys.length = 9) (hy : ∀ j, j < 9 → ys.getD j 0 = exE a g j) (hB : Below w.heap.size w w') : Exps w a g (.returned (.tuple #[.agg (agi ys), .int .i64 0])) w' := by
  refine ⟨?_, hB⟩
  have e : ys = exL a g := by
    apply list_ext (by rw [hl, exL_len])
    intro j hj
    rw [hy j (by omega)]
    unfold exL
    rw [if_pos h, List.getD_eq_getElem?_getD, List.getElem?_map, List.getElem?_range (by omega)]
    rfl
  unfold errOf
  rw [h, e]
  rfl
theorem okA_yes {x : Int} (h1 : -1073741824 ≤ x) (h2 : x ≤ 1073741824) : okA x = true := by unfold okA; simp; omega
theorem okA_no {x : Int} (h : x < -1073741824 ∨ 1073741824 < x) : okA x = false := by unfold okA; simp; omega
theorem exB_g {a : List Int} {g : Int} (h : g < 0 ∨ 32768 < g) : exB a g = false := by unfold exB; simp; omega
theorem exB_a {a : List Int} {g : Int} {k : Nat} (hk : k < a.length) (h : a.getD k 0 < -1073741824 ∨ 1073741824 < a.getD k 0) : exB a g = false := by
  unfold exB; rw [all_no hk (okA_no h)]; simp
theorem exB_yes {a : List Int} {g : Int} (h0 : 0 ≤ g) (h1 : g ≤ 32768) (h : allTo okA a 9) (hl : a.length = 9) : exB a g = true := by
  unfold exB; rw [h.all (by omega)]; simp; omega
theorem ex_prod {x f : Int} (h1 : -1073741824 ≤ x) (h2 : x ≤ 1073741824) (h3 : 0 ≤ f) (h4 : f ≤ 32768) : -35184372088832 ≤ x * f ∧ x * f ≤ 35184372088832 := by
  have := mul_bound (x := x) (X := 1073741824) (y := f) (Y := 32768) (by omega) (by omega) ⟨by omega, by omega⟩ ⟨by omega, by omega⟩
  omega
theorem ex_fprod {f g : Int} (h1 : 0 ≤ f) (h2 : f ≤ 32768) (h3 : 0 ≤ g) (h4 : g ≤ 32768) : 0 ≤ f * g ∧ f * g ≤ 1073741824 := by
  have := mul_bound (x := f) (X := 32768) (y := g) (Y := 32768) (by omega) (by omega) ⟨by omega, by omega⟩ ⟨by omega, by omega⟩
  have := Int.mul_nonneg h1 h3
  omega

/-- The argument's box, the answer's, what lies below untouched. -/
structure Bx2 (t : TypeId) (w wr : World) (a r : List Int) : Prop where
  A : IB wr w.heap.size t a
  R : IB wr (w.heap.size + 1) 32 r
  bel : Below w.heap.size w wr
theorem Bx2.lt {t : TypeId} {w wr : World} {a r : List Int} (h : Bx2 t w wr a r) : w.heap.size + 1 < wr.heap.size := Blk.lt h.R
theorem Bx2.below {t : TypeId} {w wr wr' : World} {a r : List Int} (h : Bx2 t w wr a r) (hb : Below wr.heap.size wr wr') : Bx2 t w wr' a r :=
  ⟨Blk.below' h.A hb, Blk.below' h.R hb, h.bel.trans (hb.mono (by have := h.lt; omega))⟩
theorem Bx2.setCell {t : TypeId} {w wr : World} {a r : List Int} (h : Bx2 t w wr a r) {g : Nat} (hg : w.heap.size + 1 < g) (k : Nat) (v : Value) : Bx2 t w (wr.setCell ⟨g, k, none⟩ v) a r :=
  ⟨Blk.far h.A (by show w.heap.size ≠ g; omega) _, Blk.far h.R (by show w.heap.size + 1 ≠ g; omega) _, h.bel.setCell (p := ⟨g, k, none⟩) (by show w.heap.size ≤ g; omega) _⟩
theorem Bx2.setA {t : TypeId} {w wr : World} {a r : List Int} (h : Bx2 t w wr a r) (k : Nat) (v : Int) : Bx2 t w (wr.setCell ⟨w.heap.size, k, none⟩ (.int .i64 v)) (a.set k v) r :=
  ⟨IB.set_ h.A k v, Blk.far h.R (by show w.heap.size + 1 ≠ w.heap.size; omega) _, h.bel.setCell (p := ⟨w.heap.size, k, none⟩) (Nat.le_refl _) _⟩
theorem Bx2.drew {t : TypeId} {w wr : World} {a r : List Int} (h : Bx2 t w wr a r) : Bx2 t w wr.drew a r := ⟨h.A, h.R, h.bel.drew⟩
theorem Bx2.start (t : TypeId) (w : World) (a : List Int) : Bx2 t w ((w.alloc (.cells (agi a) t)).alloc (.cells (agi Z9) 32)) a Z9 := by
  have h1 := IB.new w t a
  have h2 := IB.new (w.alloc (.cells (agi a) t)) 32 Z9
  simp only [World.size_alloc] at h2
  exact ⟨Blk.alloc h1 _, h2, (((Below.refl _ _).alloc (Nat.le_refl _) _).alloc (by simp) _)⟩

end Go.Proofs.Ytniechgbbkkncaa
