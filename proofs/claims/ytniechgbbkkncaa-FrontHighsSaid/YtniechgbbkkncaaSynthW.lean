/- The walk of package synth's good, guess and push. -/
import Derived.Test.YtniechgbbkkncaaSynthM
import Derived.Test.YtniechgbbkkncaaSteadyW
import Derived.Test.YtniechgbbkkncaaExpW
import Derived.Laws.CopyOwn
import Derived.Deep.RegionLaw
namespace Go.Proofs.Ytniechgbbkkncaa
set_option linter.unusedVariables false
set_option linter.unusedSimpArgs false
set_option maxRecDepth 100000
open Go.RowKit


end Go.Proofs.Ytniechgbbkkncaa
