/- Package conceal's Silent. -/
import Derived.Test.YtcfmipobgljbeaaNzW
import Derived.Test.YtcfmipobgljbeaaKeepR
import Derived.Test.YtcfmipobgljbeaaGoodR
namespace Go.Proofs.Ytcfmipobgljbeaa
set_option linter.unusedVariables false
set_option linter.unusedSimpArgs false
set_option maxRecDepth 100000
open Go.RowKit

/-! Plain facts. -/
def silM (m : Mm) : Mm := { m with se := nzE m.se 40, e := keepL m.e (nzL m.se 8 40) }
def silR (m : Mm) : Mm := if goodM m then silM m else zeroM
def silY (m : Mm) : List Int := if goodM m then nzL m.se 8 40 else []
theorem silM_ok {m : Mm} (k : m.ok) : (silM m).ok := ⟨k.r, k.p, keepL_len k.e (nzL_len _ _ _)⟩
theorem silR_ok {m : Mm} (k : m.ok) : (silR m).ok := by unfold silR; split; exact silM_ok k; exact zeroM_ok
def NewM (w : World) (mm : Mm) (ys : List Int) (er : Int) (e : Ending) (w' : World) : Prop := ∃ A c, e = .returned (.tuple #[.agg mm.ag, .slice A ys.length c, .int .i64 er]) ∧ Own w' w.heap.size A c ys ∧ Below w.heap.size w w'

theorem Own.setCs {base g c : Nat} {A : Option Addr} {xs : List Int} (hg : g < base) : ∀ (vs : List Value) (o : Nat) (w : World), Own w base A c xs → Own (w.setCells g o vs) base A c xs
  | [], _, _, h => h
  | v :: vs, o, _, h => Own.setCs hg vs (o + 1) _ (Own.setC h hg o v)

/-- The two boxes: the memory, the answer's. -/
structure Ms (w wr : World) (m : Mm) : Prop where
  A : MB wr w.heap.size m
  R : MB wr (w.heap.size + 1) zeroM
  bel : Below w.heap.size w wr
theorem Ms.start (w : World) (m : Mm) : Ms w ((w.alloc (.cells m.ag 44)).alloc (.cells Try.zeroCells44 44)) m := by
  have h1 := MB.new w m
  have h2 := MB.new (w.alloc (.cells m.ag 44)) zeroM
  simp only [World.size_alloc] at h2
  rw [zeroM_ag]
  exact ⟨Blk.alloc h1 _, h2, ((Below.refl _ _).alloc (Nat.le_refl _) _).alloc (by simp) _⟩
theorem Ms.below {w wr w' : World} {m : Mm} (s : Ms w wr m) (hb : Below wr.heap.size wr w') : Ms w w' m :=
  ⟨Blk.below' s.A hb, Blk.below' s.R hb, s.bel.trans (hb.mono s.bel.size)⟩
theorem Ms.drew {w wr : World} {m : Mm} (s : Ms w wr m) : Ms w wr.drew m := ⟨s.A, s.R, s.bel.drew⟩
theorem Ms.lt {w wr : World} {m : Mm} (s : Ms w wr m) : w.heap.size + 2 ≤ wr.heap.size := Blk.lt s.R
theorem Ms.se {w wr : World} {m : Mm} (s : Ms w wr m) (k : m.ok) (x : Int) : Ms w (wr.setCell ⟨w.heap.size, 100, none⟩ (.int .i64 x)) { m with se := x } :=
  ⟨s.A.set_se k x, Blk.far s.R (by simp) _, s.bel.setCell (by simp) _⟩
theorem Ms.er {w wr : World} {m : Mm} (s : Ms w wr m) (k : m.ok) (x : Int) : Ms w (wr.setCell ⟨w.heap.size, 99, none⟩ (.int .i64 x)) { m with er := x } :=
  ⟨s.A.set_er k x, Blk.far s.R (by simp) _, s.bel.setCell (by simp) _⟩
theorem Ms.ex {w wr : World} {m : Mm} (s : Ms w wr m) (k : m.ok) (e : List Int) (he : e.length = 80) : Ms w (wr.setCells w.heap.size 16 (ints e)) { m with e := e } :=
  ⟨s.A.set_e k e he, blk_sc (by omega) _ _ _ s.R, below_sc (Nat.le_refl _) _ _ _ s.bel⟩

end Go.Proofs.Ytcfmipobgljbeaa
