/- What the row's function goes by. -/
import Derived.Test.YtngbkdlicknmhaaGreatDoorCardStEd
namespace Go.Proofs.YtngbkdlicknmhaaGreatDoor.fnStackEdits
open Go Go.RowKit Go.ChangeShapes Go.WideShapes Go.ChangeAt Go.Joins
theorem goes : false = Rows.fnStackEditsRow.goesBy Tryz.pinned.checked.prog := by kernel_rfl
end Go.Proofs.YtngbkdlicknmhaaGreatDoor.fnStackEdits
