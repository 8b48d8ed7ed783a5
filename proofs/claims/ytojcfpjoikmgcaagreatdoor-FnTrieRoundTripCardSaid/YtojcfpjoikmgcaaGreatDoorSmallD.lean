/- What is known of a dictionary that a law hands on. -/
import Derived.Test.YtojcfpjoikmgcaaGreatDoorMemD
import Derived.Deep.DeepCutAuto
import Derived.Test.YtojcfpjoikmgcaaGreatDoorMemE
import Derived.Test.YtojcfpjoikmgcaaGreatDoorSortD
import Derived.Test.YtojcfpjoikmgcaaGreatDoorOutD
import Derived.Test.YtojcfpjoikmgcaaGreatDoorValD
namespace Go.Proofs.YtojcfpjoikmgcaaGreatDoor
open Go Go.RowKit
/-- what is handed back of a dictionary -/
def P.kept (ok : Bool) (l : P.Dic) : P.Dic := if ok then l else []
/-- what is known of a dictionary that a law hands on -/
structure Small (l : P.Dic) : Prop where
  len : l.length ≤ 2 ^ 20
  outs : ∀ e ∈ l, e.1.length ≤ 2 ^ 20
  texts : ∀ e ∈ l, e.2.length ≤ 2 ^ 30
end Go.Proofs.YtojcfpjoikmgcaaGreatDoor
