/- A brief that is added leaves the segmentation of strokes without it as it was: the law answers true for every code.
   No condition of its own; the card ties the listed library variables to the program's text. -/
import Derived.Test.YtngbkdlicknmhaaGreatDoorCardBA
import Derived.Test.YtngbkdlicknmhaaGreatDoorCardBAg
import Derived.Test.YtngbkdlicknmhaaGreatDoorMain
import Derived.Test.YtngbkdlicknmhaaGreatDoorLawBA
import Derived.Test.YtngbkdlicknmhaaGreatDoorCurE8
namespace Go.Proofs.YtngbkdlicknmhaaGreatDoor.fnBriefAdded
open Go Go.RowKit Go.ChangeShapes Go.WideShapes Go.ChangeAt Go.Joins
theorem card : Rows.FnBriefAddedCardSaid :=
  Claim7.holds_tied_plain_at .later [] _ _ _ _ said (fun _ h => by cases h) (by kernel_rfl) (fun _ h => by cases h) fnBriefAdded_row_tie rfl ⟨rfl, rfl⟩ main_is rfl plain goes
end Go.Proofs.YtngbkdlicknmhaaGreatDoor.fnBriefAdded
