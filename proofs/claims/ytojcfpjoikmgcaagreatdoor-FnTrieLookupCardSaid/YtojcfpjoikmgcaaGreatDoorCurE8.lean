/- Walks: a stack and an outline of it, drawn from bytes. -/
import Derived.Deep.DeepCutAuto
import Derived.Test.YtojcfpjoikmgcaaGreatDoorCurE5
import Derived.Test.YtojcfpjoikmgcaaGreatDoorLayA
import Derived.Test.YtojcfpjoikmgcaaGreatDoorCodeD
namespace Go.Proofs.YtojcfpjoikmgcaaGreatDoor
open Go Go.RowKit
set_option maxHeartbeats 4000000
set_option maxRecDepth 100000
theorem Drawn.each {l : P.Dic} (h : Drawn l) : Small l := h.small
end Go.Proofs.YtojcfpjoikmgcaaGreatDoor
