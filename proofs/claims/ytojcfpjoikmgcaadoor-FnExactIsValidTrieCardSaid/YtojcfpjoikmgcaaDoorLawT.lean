/- What the laws on tries share: bounds of what is handed back, ints marked and held. -/
import Derived.Test.YtojcfpjoikmgcaaDoorTrieN
import Derived.Test.YtojcfpjoikmgcaaDoorSpecT
namespace Go.Proofs.YtojcfpjoikmgcaaDoor
section
namespace P
end P
end
open Go Go.RowKit
set_option maxRecDepth 100000
theorem GoodT.t30 {l : P.Tri} (h : GoodT l) : ∀ n ∈ l, n.2.2.2.length ≤ 2 ^ 30 := fun n hn => by have := h.text n hn; omega
end Go.Proofs.YtojcfpjoikmgcaaDoor
