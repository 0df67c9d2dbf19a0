/- The walk of the reference's Past, and of the law PitchPasts. -/
import Derived.Test.YtnbenmpjpogldaaPastW
import Derived.Test.YtnbenmpjpogldaaPushN
namespace Go.Proofs.Ytnbenmpjpogldaa
set_option linter.unusedVariables false
set_option linter.unusedSimpArgs false
set_option maxRecDepth 100000
open Go.RowKit

end Go.Proofs.Ytnbenmpjpogldaa
