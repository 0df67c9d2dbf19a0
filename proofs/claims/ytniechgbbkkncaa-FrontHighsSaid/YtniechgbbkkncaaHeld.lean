/- Blocks of numbers as the drawing regions speak of them: ranges. -/
import Derived.Test.YtniechgbbkkncaaMakeW
import Derived.Deep.RegionHeld3
import Derived.Deep.MidRow
namespace Go.Proofs.Ytniechgbbkkncaa
set_option linter.unusedVariables false
set_option linter.unusedSimpArgs false
set_option maxRecDepth 100000
open Go.RowKit

section
variable {w w' : World} {g : Nat} {t : TypeId} {xs : List Int} {cs : Array Value}
theorem Blk.rangeAt (h : Blk w g t cs) : w.rangeAt g 0 cs.toList := fun j v hv => by
  rw [Nat.zero_add, Blk.cell h j, ← hv]
  simp
theorem IB.rangeAt (h : IB w g t xs) : w.rangeAt g 0 (ints xs) := by
  have := Blk.rangeAt h
  simpa [agi] using this
theorem Blk.there (h : Blk w g t cs) : w.there g 0 cs.size := fun j hj => by
  rw [Nat.zero_add]
  refine ⟨?_, Blk.frozen h j⟩
  rw [Blk.cell h j]
  simp [hj]
end
theorem rangeAt_alloc_drew {w : World} {b : Nat} {cs : List Value} (h : w.rangeAt b 0 cs) (o : Obj) : (w.alloc o).drew.rangeAt b 0 cs := (World.rangeAt_drew _ _ _ _).2 (World.rangeAt_alloc h o)
theorem rangeAt_far {w : World} {b : Nat} {cs : List Value} (h : w.rangeAt b 0 cs) {p : Addr} (hp : b ≠ p.block) (v : Value) : (w.setCell p v).rangeAt b 0 cs := fun j u hu => by
  rw [World.cell?_setCell_far _ _ _ _ (fun e => hp e.symm)]
  exact h j u hu
theorem rangeAt_far8 {w : World} {b g : Nat} {cs : List Value} (h : w.rangeAt b 0 cs) (hp : b ≠ g) (v0 v1 v2 v3 v4 v5 v6 v7 : Value) : World.rangeAt ((((((((w.setCell ⟨g, 0, none⟩ v0).setCell ⟨g, 1, none⟩ v1).setCell ⟨g, 2, none⟩ v2).setCell ⟨g, 3, none⟩ v3).setCell ⟨g, 4, none⟩ v4).setCell ⟨g, 5, none⟩ v5).setCell ⟨g, 6, none⟩ v6).setCell ⟨g, 7, none⟩ v7) b 0 cs :=
  rangeAt_far (rangeAt_far (rangeAt_far (rangeAt_far (rangeAt_far (rangeAt_far (rangeAt_far (rangeAt_far h hp v0) hp v1) hp v2) hp v3) hp v4) hp v5) hp v6) hp v7
theorem Blk.far8 {w : World} {k g : Nat} {t : TypeId} {cs : Array Value} (h : Blk w k t cs) (hp : k ≠ g) (v0 v1 v2 v3 v4 v5 v6 v7 : Value) : Blk ((((((((w.setCell ⟨g, 0, none⟩ v0).setCell ⟨g, 1, none⟩ v1).setCell ⟨g, 2, none⟩ v2).setCell ⟨g, 3, none⟩ v3).setCell ⟨g, 4, none⟩ v4).setCell ⟨g, 5, none⟩ v5).setCell ⟨g, 6, none⟩ v6).setCell ⟨g, 7, none⟩ v7) k t cs :=
  (((((((h.far (p := ⟨g, 0, none⟩) hp v0).far (p := ⟨g, 1, none⟩) hp v1).far (p := ⟨g, 2, none⟩) hp v2).far (p := ⟨g, 3, none⟩) hp v3).far (p := ⟨g, 4, none⟩) hp v4).far (p := ⟨g, 5, none⟩) hp v5).far (p := ⟨g, 6, none⟩) hp v6).far (p := ⟨g, 7, none⟩) hp v7
end Go.Proofs.Ytniechgbbkkncaa
