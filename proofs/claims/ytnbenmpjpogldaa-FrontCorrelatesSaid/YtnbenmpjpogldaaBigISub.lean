/- The walks of Sub. -/
import Derived.Test.YtnbenmpjpogldaaBigSum
namespace Go.Proofs.Ytnbenmpjpogldaa
set_option linter.unusedVariables false
set_option linter.unusedSimpArgs false
set_option maxRecDepth 100000
open Go.RowKit

end Go.Proofs.Ytnbenmpjpogldaa
