/- down by 9, 12, 13, 15 places, the number of places as it is written. -/
import Derived.Test.YtcfmipobgljbeaaDoorDown
namespace Go.Proofs.YtcfmipobgljbeaaDoor
set_option linter.unusedVariables false
set_option linter.unusedSimpArgs false
set_option maxRecDepth 100000
open Go.RowKit
end Go.Proofs.YtcfmipobgljbeaaDoor
