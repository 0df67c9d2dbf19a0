/- What the reference's Correlate holds: nine whole numbers behind an array of pointers. -/
import Derived.Test.YtnbenmpjpogldaaCorB
import Derived.Test.YtnbenmpjpogldaaDotM
import Derived.Test.YtnbenmpjpogldaaBigAddO
import Derived.Test.YtnbenmpjpogldaaDownK
import Derived.Test.YtnbenmpjpogldaaMakeI
import Derived.Test.YtnbenmpjpogldaaBigRsh
import Derived.Deep.RegionHeld3
namespace Go.Proofs.Ytnbenmpjpogldaa
set_option linter.unusedVariables false
set_option linter.unusedSimpArgs false
set_option maxRecDepth 100000
open Go.RowKit

/-- Pointers to the first k of these blocks. -/
def ptrC (P : Nat → Nat) (k j : Nat) : Value := if j < k then .pointer (some ⟨P j, 0, none⟩) else .pointer none
def ptr9 (P : Nat → Nat) (k : Nat) : Array Value := ((List.range 9).map (ptrC P k)).toArray
theorem ptr9_zero (P : Nat → Nat) : ptr9 P 0 = #[.pointer none, .pointer none, .pointer none, .pointer none, .pointer none, .pointer none, .pointer none, .pointer none, .pointer none] := by
  unfold ptr9 ptrC
  simp [List.range, List.range.loop]
theorem ptr9_get (P : Nat → Nat) (k : Nat) {j : Nat} (hj : j < 9) : (ptr9 P k)[j]? = some (ptrC P k j) := by
  unfold ptr9
  simp [hj]
def upN (P : Nat → Nat) (k b : Nat) : Nat → Nat := fun j => if j = k then b else P j
def upX (X : Nat → Int) (k : Nat) (z : Int) : Nat → Int := fun j => if j = k then z else X j
theorem ptr9_set (P : Nat → Nat) {k : Nat} (hk : k < 9) (b : Nat) : (ptr9 P k).setIfInBounds k (.pointer (some ⟨b, 0, none⟩)) = ptr9 (upN P k b) (k + 1) := by
  unfold ptr9
  rw [List.setIfInBounds_toArray]
  congr 1
  refine List.ext_getElem? fun j => ?_
  by_cases hj : j < 9
  · rw [List.getElem?_set]
    simp only [List.length_map, List.length_range, List.getElem?_map, List.getElem?_range hj, Option.map_some]
    unfold ptrC upN
    by_cases e : k = j
    · subst e
      simp [hj]
    · rw [if_neg e]
      congr 1
      by_cases h1 : j < k
      · rw [if_pos h1, if_pos (by omega), if_neg (by omega)]
      · rw [if_neg h1, if_neg (by omega)]
  · rw [List.getElem?_eq_none (by simp; omega), List.getElem?_eq_none (by simp; omega)]

/-- A number of words stays where only a block that holds no words is written. -/
theorem Nm.keptBlk {w w' : World} {v : Value} {n : Nat} (h : Nm w v n) {g : Nat} {cs : Array Value} (hb : Blk w g 34 cs) (hg : w.grownBy w' (some g)) : Nm w' v n := by
  obtain ⟨ao, len, cap, ws, rfl, hr, ht, hn⟩ := h
  refine ⟨ao, len, cap, ws, rfl, hr.of_block fun a ha => hg.block _ (hr.lt a ha) ?_, ht, hn⟩
  intro he
  obtain ⟨_, cur, fz, hh, _⟩ := hr.cells a ha
  have := Option.some.inj he
  unfold Blk at hb
  rw [this, hb] at hh
  simp at hh
theorem Nm.keptInts {w w' : World} {v : Value} {n : Nat} (h : Nm w v n) {g : Nat} {cs : Array Value} (hb : Blk w g 23 cs) (hg : w.grownBy w' (some g)) : Nm w' v n := by
  obtain ⟨ao, len, cap, ws, rfl, hr, ht, hn⟩ := h
  refine ⟨ao, len, cap, ws, rfl, hr.of_block fun a ha => hg.block _ (hr.lt a ha) ?_, ht, hn⟩
  intro he
  obtain ⟨_, cur, fz, hh, _⟩ := hr.cells a ha
  have := Option.some.inj he
  unfold Blk at hb
  rw [this, hb] at hh
  simp at hh

/-- The two boxes, the row of windowed samples, the array of pointers and its first k numbers. -/
structure Cs (w wr : World) (q ws : List Int) (gw gs k : Nat) (P : Nat → Nat) (X : Nat → Int) : Prop where
  R : IB wr w.heap.size 23 Z9
  Q : IB wr (w.heap.size + 1) 23 q
  W : Own wr (w.heap.size + 2) (some ⟨gw, 0, none⟩) 120 ws
  S : Blk wr gs 34 (ptr9 P k)
  N : ∀ j, j < k → IntAt wr (P j) (X j)
  lo : ∀ j, j < k → gs < P j
  up : ∀ i j, i < j → j < k → P i < P j
  hgw : w.heap.size + 2 ≤ gw
  hgs : gw < gs
  B : Below w.heap.size w wr
section
variable {w wr w' : World} {q ws : List Int} {gw gs k : Nat} {P : Nat → Nat} {X Y : Nat → Int}
theorem Cs.size (s : Cs w wr q ws gw gs k P X) : w.heap.size + 3 < wr.heap.size := by have := s.hgw; have := s.hgs; have := s.S.lt; omega
theorem Cs.below (s : Cs w wr q ws gw gs k P X) (hb : Below wr.heap.size wr w') : Cs w w' q ws gw gs k P X :=
  ⟨Blk.below' s.R hb, Blk.below' s.Q hb, s.W.below hb, Blk.below' s.S hb, fun j hj => (s.N j hj).below hb (Nat.le_refl _), s.lo, s.up, s.hgw, s.hgs, s.B.trans (hb.mono s.B.size)⟩
theorem Cs.drew (s : Cs w wr q ws gw gs k P X) : Cs w wr.drew q ws gw gs k P X := s.below ((Below.refl _ _).drew)
theorem Cs.congr (s : Cs w wr q ws gw gs k P X) (h : ∀ j, j < k → X j = Y j) : Cs w wr q ws gw gs k P Y :=
  ⟨s.R, s.Q, s.W, s.S, fun j hj => by rw [← h j hj]; exact s.N j hj, s.lo, s.up, s.hgw, s.hgs, s.B⟩
/-- The cell of a pointer. -/
theorem Cs.ptr (s : Cs w wr q ws gw gs k P X) {j : Nat} (hj : j < k) (h9 : j < 9) : wr.cell? ⟨gs, j, none⟩ = some (.pointer (some ⟨P j, 0, none⟩)) := by
  rw [Blk.cell s.S j, ptr9_get P k h9]
  unfold ptrC
  rw [if_pos hj]
/-- A sample behind the window. -/
theorem Cs.at_ (s : Cs w wr q ws gw gs k P X) {j : Nat} (hj : j < ws.length) : wr.cell? ⟨gw, j, none⟩ = some (.int .i64 (ws.getD j 0)) := s.W.cell j hj
/-- One of the numbers made anew. -/
theorem Cs.give (s : Cs w wr q ws gw gs k P X) {j : Nat} (hj : j < k) {z : Int} (hI : IntAt w' (P j) z) (hG : wr.grownBy w' (some (P j))) : Cs w w' q ws gw gs k P (upX X j z) := by
  have h1 := s.lo j hj
  have h2 := s.hgs
  have h3 := s.hgw
  have hb : IntBlk wr (P j) := (s.N j hj).blk
  have hne : ∀ i, i ≠ j → i < k → P i ≠ P j := fun i hi hk => by
    rcases Nat.lt_or_ge i j with h | h
    · have := s.up i j h hj; omega
    · have := s.up j i (by omega) hk; omega
  refine ⟨Blk.grown s.R hG (by simp; omega), Blk.grown s.Q hG (by simp; omega), s.W.kept hG (fun a ha => ?_), Blk.grown s.S hG (by simp; omega), fun i hi => ?_, s.lo, s.up, s.hgw, s.hgs, s.B.grown hG s.B.size (fun b hb => by cases hb; omega)⟩
  · cases ha
    simp
    omega
  · unfold upX
    by_cases e : i = j
    · subst e
      rw [if_pos rfl]
      exact hI
    · rw [if_neg e]
      exact (s.N i hi).kept hb hG (hne i e hi)
/-- A new number, 0. -/
theorem Cs.push (s : Cs w wr q ws gw gs k P X) (hk : k < 9) : Cs w ((wr.alloc (.cells #[.bool false, .slice none 0 0] 37)).setCell ⟨gs, k, none⟩ (.pointer (some ⟨wr.heap.size, 0, none⟩))) q ws gw gs (k + 1) (upN P k wr.heap.size) (upX X k 0) := by
  have h2 := s.hgs
  have h3 := s.hgw
  have hS := s.S.lt
  have a := s.below ((Below.refl wr.heap.size wr).alloc (Nat.le_refl _) (.cells #[.bool false, .slice none 0 0] 37))
  have hn := IntAt_zero wr
  generalize hV : wr.alloc (.cells #[.bool false, .slice none 0 0] 37) = V at *
  have hG : V.grownBy (V.setCell ⟨gs, k, none⟩ (.pointer (some ⟨wr.heap.size, 0, none⟩))) (some gs) := grownBy_setCell V gs k _
  refine ⟨Blk.grown a.R hG (by simp; omega), Blk.grown a.Q hG (by simp; omega), a.W.kept hG (fun b hb => ?_), ?_, fun i hi => ?_, fun i hi => ?_, fun i j hij hj => ?_, s.hgw, s.hgs, a.B.grown hG a.B.size (fun b hb => by cases hb; omega)⟩
  · cases hb
    simp
    omega
  · rw [← ptr9_set P hk]
    exact Blk.set_ a.S k _
  · unfold upN upX
    have kp : ∀ {c : Nat} {z : Int}, c ≠ gs → IntAt V c z → IntAt (V.setCell ⟨gs, k, none⟩ (.pointer (some ⟨wr.heap.size, 0, none⟩))) c z := fun hne h => by
      obtain ⟨v, h1, h2⟩ := h
      exact ⟨v, by rw [hG.block _ (heap_lt h1) (by simpa using hne)]; exact h1, h2.keptBlk a.S hG⟩
    by_cases e : i = k
    · subst e
      rw [if_pos rfl, if_pos rfl]
      exact kp (by omega) hn
    · rw [if_neg e, if_neg e]
      have := s.lo i (by omega)
      exact kp (by omega) (a.N i (by omega))
  · unfold upN
    by_cases e : i = k
    · rw [if_pos e]; exact hS
    · rw [if_neg e]; exact s.lo i (by omega)
  · unfold upN
    rw [if_neg (by omega : ¬ i = k)]
    by_cases e : j = k
    · rw [if_pos e]
      exact (s.N i (by omega)).lt
    · rw [if_neg e]; exact s.up i j hij (by omega)
/-- A number of the answer stored. -/
theorem Cs.setQ (s : Cs w wr q ws gw gs k P X) (i : Nat) (v : Int) : Cs w (wr.setCell ⟨w.heap.size + 1, i, none⟩ (.int .i64 v)) (q.set i v) ws gw gs k P X := by
  have h2 := s.hgs
  have h3 := s.hgw
  have hG : wr.grownBy (wr.setCell ⟨w.heap.size + 1, i, none⟩ (.int .i64 v)) (some (w.heap.size + 1)) := grownBy_setCell wr _ i _
  refine ⟨Blk.grown s.R hG (by simp), IB.set_ s.Q i v, s.W.kept hG (fun b hb => ?_), Blk.grown s.S hG (by simp; omega), fun j hj => ?_, s.lo, s.up, s.hgw, s.hgs, s.B.grown hG s.B.size (fun b hb => by cases hb; omega)⟩
  · cases hb
    simp
    omega
  · obtain ⟨u, h3, h4⟩ := s.N j hj
    have := s.lo j hj
    exact ⟨u, by rw [hG.block _ (heap_lt h3) (by simp; omega)]; exact h3, h4.keptInts s.Q hG⟩
end
end Go.Proofs.Ytnbenmpjpogldaa
