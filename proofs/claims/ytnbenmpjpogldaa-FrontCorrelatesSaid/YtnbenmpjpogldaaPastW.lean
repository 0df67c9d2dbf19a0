/- The walks of Past, the program's and the reference's. -/
import Derived.Test.YtnbenmpjpogldaaSliceW
import Derived.Test.YtnbenmpjpogldaaMakeI
import Derived.Test.YtnbenmpjpogldaaPastM
import Derived.Test.YtnbenmpjpogldaaRow
namespace Go.Proofs.Ytnbenmpjpogldaa
set_option linter.unusedVariables false
set_option linter.unusedSimpArgs false
set_option maxRecDepth 100000
open Go.RowKit

/-- What a function answers that gives new numbers and an error. -/
def NewSE (w : World) (xs : List Int) (er : Int) (e : Ending) (w' : World) : Prop := ∃ A c, e = .returned (.tuple #[.slice A xs.length c, .int .i64 er]) ∧ Own w' w.heap.size A c xs ∧ Below w.heap.size w w'
theorem NewSE.none_ {w w' : World} {er : Int} (hB : Below w.heap.size w w') : NewSE w [] er (.returned (.tuple #[.slice none 0 0, .int .i64 er])) w' := ⟨none, 0, rfl, Own.nil, hB⟩

end Go.Proofs.Ytnbenmpjpogldaa
