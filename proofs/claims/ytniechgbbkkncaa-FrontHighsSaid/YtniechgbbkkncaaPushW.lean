/- The walk of package synth's push. -/
import Derived.Test.YtniechgbbkkncaaSynthW
import Derived.Test.YtniechgbbkkncaaCopyI
namespace Go.Proofs.Ytniechgbbkkncaa
set_option linter.unusedVariables false
set_option linter.unusedSimpArgs false
set_option maxRecDepth 100000
open Go.RowKit

end Go.Proofs.Ytniechgbbkkncaa
