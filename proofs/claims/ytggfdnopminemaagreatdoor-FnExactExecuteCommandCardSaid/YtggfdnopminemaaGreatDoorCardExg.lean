/- What the row's function goes by. -/
import Derived.Test.YtggfdnopminemaaGreatDoorZt
import Derived.Test.YtggfdnopminemaaGreatDoorCards
import Derived.Test.YtggfdnopminemaaGreatDoorTie
namespace Go.Proofs.YtggfdnopminemaaGreatDoor.fnExactExecuteCommand
open Go Go.RowKit Go.ChangeShapes Go.WideShapes Go.ChangeAt Go.Joins
theorem goes : false = Rows.fnExactExecuteCommandRow.goesBy Tryz.pinned.checked.prog := by kernel_rfl
end Go.Proofs.YtggfdnopminemaaGreatDoor.fnExactExecuteCommand
