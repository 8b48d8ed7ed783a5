/- What is known of a dictionary that a law hands on. -/
import Derived.Test.YtngbkdlicknmhaaGreatDoorMemD
import Derived.Test.YtngbkdlicknmhaaGreatDoorMemF
import Derived.Test.YtngbkdlicknmhaaGreatDoorOutD
import Derived.Test.YtngbkdlicknmhaaGreatDoorValD
namespace Go.Proofs.YtngbkdlicknmhaaGreatDoor
open Go Go.RowKit
/-- what is handed back of a dictionary -/
def P.kept (ok : Bool) (l : P.Dic) : P.Dic := if ok then l else []
/-- what is known of a dictionary that a law hands on -/
structure Small (l : P.Dic) : Prop where
  len : l.length ≤ 2 ^ 20
  outs : ∀ e ∈ l, e.1.length ≤ 2 ^ 20
  texts : ∀ e ∈ l, e.2.length ≤ 2 ^ 30
theorem P.up_of_dic {l : P.Dic} (h : P.dic l = true) : P.Up l := by
  unfold P.dic at h
  simp only [Bool.and_eq_true] at h
  exact P.up_of_rising h.2.2
end Go.Proofs.YtngbkdlicknmhaaGreatDoor
