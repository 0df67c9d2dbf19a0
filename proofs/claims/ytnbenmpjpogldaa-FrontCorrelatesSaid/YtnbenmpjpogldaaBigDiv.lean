/- The walks of div (short numbers), QuoRem, DivMod, Div. -/
import Derived.Test.YtnbenmpjpogldaaBigSubO
import Derived.Test.YtnbenmpjpogldaaBigICmp
import Derived.Test.YtnbenmpjpogldaaBigIAdd
import Derived.Deep.RegionWith
namespace Go.Proofs.Ytnbenmpjpogldaa
set_option linter.unusedVariables false
set_option linter.unusedSimpArgs false
set_option maxRecDepth 100000
open Go.RowKit

/-- What div answers. -/
def DivGives (w : World) (q r : Nat) (e : Ending) (w' : World) : Prop := ∃ v1 v2, e = .returned (.tuple #[v1, v2]) ∧ Nm w' v1 q ∧ Nm w' v2 r ∧ Below w.heap.size w w'

theorem Nm.drewN {w : World} {v : Value} {n : Nat} (h : Nm w v n) (k : Nat) : Nm (w.drewN k) v n := h.below (B := w.heap.size) ⟨rfl, rfl, rfl, Nat.le_refl _, fun _ _ => rfl⟩ (Nat.le_refl _)

end Go.Proofs.Ytnbenmpjpogldaa
