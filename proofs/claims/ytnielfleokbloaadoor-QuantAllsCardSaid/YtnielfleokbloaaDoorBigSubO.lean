/- The walk of Sub, whatever Ints are one. -/
import Derived.Test.YtnielfleokbloaaDoorBigISub
namespace Go.Proofs.YtnielfleokbloaaDoor
set_option linter.unusedVariables false
set_option linter.unusedSimpArgs false
set_option maxRecDepth 100000
open Go.RowKit

end Go.Proofs.YtnielfleokbloaaDoor
