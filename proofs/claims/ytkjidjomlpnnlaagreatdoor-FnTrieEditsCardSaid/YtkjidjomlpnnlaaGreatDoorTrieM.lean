/- Walks: the law's own functions on tries: a mark, what is held, a size. Tries that came in. -/
import Derived.Deep.DeepCutAuto
import Derived.Test.YtkjidjomlpnnlaaGreatDoorTrieA
import Derived.Test.YtkjidjomlpnnlaaGreatDoorLawD
namespace Go.Proofs.YtkjidjomlpnnlaaGreatDoor
section
namespace P
/-- the trie, or none -/
def keptT (ok : Bool) (l : Tri) : Tri := if ok then l else []
end P
open Go Go.RowKit
set_option maxHeartbeats 1000000
set_option maxRecDepth 100000
end
end Go.Proofs.YtkjidjomlpnnlaaGreatDoor
