/- The walk of the reference's Mix. -/
import Derived.Test.YtcfmipobgljbeaaSteadyW
import Derived.Test.YtcfmipobgljbeaaRefClip
import Derived.Test.YtcfmipobgljbeaaBigMore
import Derived.BigQuiet
namespace Go.Proofs.Ytcfmipobgljbeaa
set_option linter.unusedVariables false
set_option linter.unusedSimpArgs false
set_option maxRecDepth 100000
open Go.RowKit

theorem below_dA (w : World) (n : Nat) (o : Obj) : Below w.heap.size w ((w.drewN n).alloc o) :=
  Below.alloc (a := w) (w := w.drewN n) ⟨rfl, rfl, rfl, Nat.le_refl _, fun _ _ => rfl⟩ (Nat.le_refl _) o

/-- The two arguments' boxes and the answer's, what lies below untouched. -/
structure Bx3 (w wr : World) (a b r : List Int) : Prop where
  A : IB wr w.heap.size 42 a
  B : IB wr (w.heap.size + 1) 42 b
  R : IB wr (w.heap.size + 1 + 1) 42 r
  bel : Below w.heap.size w wr
theorem Bx3.lt {w wr : World} {a b r : List Int} (h : Bx3 w wr a b r) : w.heap.size + 1 + 1 < wr.heap.size := Blk.lt h.R
theorem Bx3.below {w wr wr' : World} {a b r : List Int} (h : Bx3 w wr a b r) (hb : Below wr.heap.size wr wr') : Bx3 w wr' a b r :=
  ⟨Blk.below' h.A hb, Blk.below' h.B hb, Blk.below' h.R hb, h.bel.trans (hb.mono (by have := h.lt; omega))⟩
theorem Bx3.setCell {w wr : World} {a b r : List Int} (h : Bx3 w wr a b r) {g : Nat} (hg : w.heap.size + 1 + 1 < g) (k : Nat) (v : Value) : Bx3 w (wr.setCell ⟨g, k, none⟩ v) a b r :=
  ⟨Blk.far h.A (by show w.heap.size ≠ g; omega) _, Blk.far h.B (by show w.heap.size + 1 ≠ g; omega) _, Blk.far h.R (by show w.heap.size + 1 + 1 ≠ g; omega) _, h.bel.setCell (p := ⟨g, k, none⟩) (by show w.heap.size ≤ g; omega) _⟩
theorem Bx3.start (w : World) (a b : List Int) : Bx3 w (((w.alloc (.cells (agi a) 42)).alloc (.cells (agi b) 42)).alloc (.cells (agi Z8) 42)) a b Z8 := by
  have h1 := IB.new w 42 a
  have h2 := IB.new (w.alloc (.cells (agi a) 42)) 42 b
  have h3 := IB.new ((w.alloc (.cells (agi a) 42)).alloc (.cells (agi b) 42)) 42 Z8
  simp only [World.size_alloc] at h2 h3
  exact ⟨(Blk.alloc h1 _).alloc _, Blk.alloc h2 _, h3, (((Below.refl _ _).alloc (Nat.le_refl _) _).alloc (by simp) _).alloc (by simp; omega) _⟩

end Go.Proofs.Ytcfmipobgljbeaa
