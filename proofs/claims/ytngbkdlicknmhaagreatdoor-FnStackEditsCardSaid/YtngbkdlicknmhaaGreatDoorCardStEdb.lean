/- A pushed layer struck out again, a layer moved back and a layer switched leave the stack as they should: the law answers true for every code.
   No condition of its own; the card ties the listed library variables to the program's text. -/
import Derived.Test.YtngbkdlicknmhaaGreatDoorCardStEd
import Derived.Test.YtngbkdlicknmhaaGreatDoorCardStEdg
import Derived.Test.YtngbkdlicknmhaaGreatDoorMain
import Derived.Test.YtngbkdlicknmhaaGreatDoorLawStEd
import Derived.Test.YtngbkdlicknmhaaGreatDoorCurE8
namespace Go.Proofs.YtngbkdlicknmhaaGreatDoor.fnStackEdits
open Go Go.RowKit Go.ChangeShapes Go.WideShapes Go.ChangeAt Go.Joins
theorem card : Rows.FnStackEditsCardSaid :=
  Claim7.holds_tied_plain_at .later [] _ _ _ _ said (fun _ h => by cases h) (by kernel_rfl) (fun _ h => by cases h) fnStackEdits_row_tie rfl ⟨rfl, rfl⟩ main_is rfl plain goes
end Go.Proofs.YtngbkdlicknmhaaGreatDoor.fnStackEdits
