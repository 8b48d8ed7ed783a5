/- Walks: the cursor that draws arguments from bytes, for the dictionary seats. -/
import Derived.BigQuiet
import Derived.Laws.Bits64b
import Derived.Deep.DeepCutAuto
import Derived.Test.YtojcfpjoikmgcaaGreatDoorMemF
namespace Go.Proofs.YtojcfpjoikmgcaaGreatDoor
section
open Go Go.RowKit
set_option maxHeartbeats 400000
set_option maxRecDepth 100000
theorem Chg.drewN {F : Blk} {a w : World} (h : Chg F a w) (k : Nat) : Chg F a (w.drewN k) := h.trans (Below.chg (below_drewN (Below.refl w.heap.size w) k) F)
end
end Go.Proofs.YtojcfpjoikmgcaaGreatDoor
