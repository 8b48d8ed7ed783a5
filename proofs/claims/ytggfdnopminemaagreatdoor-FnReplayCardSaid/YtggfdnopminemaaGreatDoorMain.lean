/- The main function that the program's text names. -/
import Derived.Test.YtggfdnopminemaaGreatDoorZt
import Derived.Test.YtggfdnopminemaaGreatDoorCards
import Derived.Test.YtggfdnopminemaaGreatDoorTie
set_option linter.all false
namespace Go.Proofs.YtggfdnopminemaaGreatDoor
open Go Go.RowKit Go.ChangeShapes Go.WideShapes Go.ChangeAt Go.Joins
theorem main_is : Tryz.pinned.checked.prog.mainIs = some ((true, "edf4be0aaa4ed022b311f05092b9dbd9c124239ebef8c9aa1760ecd6f748c01d").fst, (true, "edf4be0aaa4ed022b311f05092b9dbd9c124239ebef8c9aa1760ecd6f748c01d").snd.toList) := by kernel_rfl
end Go.Proofs.YtggfdnopminemaaGreatDoor
