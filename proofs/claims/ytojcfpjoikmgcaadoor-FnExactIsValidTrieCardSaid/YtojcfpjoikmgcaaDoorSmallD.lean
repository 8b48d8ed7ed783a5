/- What is known of a dictionary that a law hands on. -/
import Derived.Test.YtojcfpjoikmgcaaDoorMemD
import Derived.Deep.DeepCutAuto
import Derived.Test.YtojcfpjoikmgcaaDoorMemE
import Derived.Test.YtojcfpjoikmgcaaDoorSortD
import Derived.Test.YtojcfpjoikmgcaaDoorOutD
import Derived.Test.YtojcfpjoikmgcaaDoorValD
namespace Go.Proofs.YtojcfpjoikmgcaaDoor
open Go Go.RowKit
/-- what is handed back of a dictionary -/
def P.kept (ok : Bool) (l : P.Dic) : P.Dic := if ok then l else []
end Go.Proofs.YtojcfpjoikmgcaaDoor
