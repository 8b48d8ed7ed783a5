/- What the row's function goes by. -/
import Derived.Test.YtggfdnopminemaaGreatDoorZt
import Derived.Test.YtggfdnopminemaaGreatDoorCards
import Derived.Test.YtggfdnopminemaaGreatDoorTie
set_option linter.all false
namespace Go.Proofs.YtggfdnopminemaaGreatDoor.fnReplay
open Go Go.RowKit Go.ChangeShapes Go.WideShapes Go.ChangeAt Go.Joins
theorem goes : false = Rows.fnReplayRow.goesBy Tryz.pinned.checked.prog := by kernel_rfl
end Go.Proofs.YtggfdnopminemaaGreatDoor.fnReplay
