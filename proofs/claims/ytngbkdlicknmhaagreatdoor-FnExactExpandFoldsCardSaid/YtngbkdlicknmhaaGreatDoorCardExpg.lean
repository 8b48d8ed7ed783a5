/- What the row's function goes by. -/
import Derived.Test.YtngbkdlicknmhaaGreatDoorCardExp
namespace Go.Proofs.YtngbkdlicknmhaaGreatDoor.fnExactExpandFolds
open Go Go.RowKit Go.ChangeShapes Go.WideShapes Go.ChangeAt Go.Joins
theorem goes : false = Rows.fnExactExpandFoldsRow.goesBy Tryz.pinned.checked.prog := by kernel_rfl
end Go.Proofs.YtngbkdlicknmhaaGreatDoor.fnExactExpandFolds
