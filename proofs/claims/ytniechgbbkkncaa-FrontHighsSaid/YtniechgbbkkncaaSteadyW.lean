/- The walk of the reference's Steady. -/
import Derived.Test.YtniechgbbkkncaaMixW
namespace Go.Proofs.Ytniechgbbkkncaa
set_option linter.unusedVariables false
set_option linter.unusedSimpArgs false
set_option maxRecDepth 100000
open Go.RowKit

/-- A function that answers a Bool and makes new memory at most. -/
def AnsB (w : World) (b : Bool) (e : Ending) (w' : World) : Prop := e = .returned (.bool b) ∧ Below w.heap.size w w'

end Go.Proofs.Ytniechgbbkkncaa
