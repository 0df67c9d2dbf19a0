/- The walks of Sub. -/
import Derived.Test.YtnielfleokbloaaDoorBigSum
namespace Go.Proofs.YtnielfleokbloaaDoor
set_option linter.unusedVariables false
set_option linter.unusedSimpArgs false
set_option maxRecDepth 100000
open Go.RowKit

end Go.Proofs.YtnielfleokbloaaDoor
