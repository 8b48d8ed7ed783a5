/- The main function that the program's text names. -/
import Derived.Test.YtngbkdlicknmhaaGreatDoorD0
import Derived.Test.YtngbkdlicknmhaaGreatDoorTie
namespace Go.Proofs.YtngbkdlicknmhaaGreatDoor
open Go Go.RowKit
theorem main_is : Tryz.pinned.checked.prog.mainIs = some ((true, "f10b7f212515cef4b603ffdd19ed5b7cb87b86cb6fddc859cb41fe9ff0de70c7").fst, (true, "f10b7f212515cef4b603ffdd19ed5b7cb87b86cb6fddc859cb41fe9ff0de70c7").snd.toList) := by kernel_rfl
end Go.Proofs.YtngbkdlicknmhaaGreatDoor
