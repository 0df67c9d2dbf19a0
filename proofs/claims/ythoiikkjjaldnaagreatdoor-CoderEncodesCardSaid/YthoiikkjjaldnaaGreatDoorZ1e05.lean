/- Texts that the law rests on. -/
import Derived.Test.YthoiikkjjaldnaaGreatDoorZ1e04
namespace Go.Proofs.YthoiikkjjaldnaaGreatDoor
set_option linter.unusedVariables false
set_option linter.unusedSimpArgs false
set_option maxRecDepth 100000
set_option maxHeartbeats 8000000
open Go.RowKit
def er1(m:Mm)(half:Int):Int:=if half=0/\m.er<6 then m.er+1 else m.er
end Go.Proofs.YthoiikkjjaldnaaGreatDoor
