/- ExpandFolds of the program returns what the reference's returns, for all arguments.
   No condition of its own; the card ties the listed library variables to the program's text. -/
import Derived.Test.YtngbkdlicknmhaaGreatDoorCardExp
import Derived.Test.YtngbkdlicknmhaaGreatDoorCardExpg
import Derived.Test.YtngbkdlicknmhaaGreatDoorMain
import Derived.Test.YtngbkdlicknmhaaGreatDoorLawExp
import Derived.Test.YtngbkdlicknmhaaGreatDoorWitF
namespace Go.Proofs.YtngbkdlicknmhaaGreatDoor.fnExactExpandFolds
open Go Go.RowKit Go.ChangeShapes Go.WideShapes Go.ChangeAt Go.Joins
theorem card : Rows.FnExactExpandFoldsCardSaid :=
  Claim7.holds_tied_plain_at .later [] _ _ _ _ said (fun _ h => by cases h) (by kernel_rfl) (fun _ h => by cases h) fnExactExpandFolds_row_tie rfl ⟨rfl, rfl⟩ main_is rfl plain goes
end Go.Proofs.YtngbkdlicknmhaaGreatDoor.fnExactExpandFolds
