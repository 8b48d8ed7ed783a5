/- What the row's function goes by. -/
import Derived.Test.YtngbkdlicknmhaaGreatDoorCardBA
namespace Go.Proofs.YtngbkdlicknmhaaGreatDoor.fnBriefAdded
open Go Go.RowKit Go.ChangeShapes Go.WideShapes Go.ChangeAt Go.Joins
theorem goes : false = Rows.fnBriefAddedRow.goesBy Tryz.pinned.checked.prog := by kernel_rfl
end Go.Proofs.YtngbkdlicknmhaaGreatDoor.fnBriefAdded
