/- ExecuteCommand of the program returns what the reference's returns, for all arguments. No condition of its own; the card ties the listed library variables to the program's text. -/
import Derived.Test.YtggfdnopminemaaGreatDoorCardEx
import Derived.Test.YtggfdnopminemaaGreatDoorCardExg
import Derived.Test.YtggfdnopminemaaGreatDoorMain
namespace Go.Proofs.YtggfdnopminemaaGreatDoor.fnExactExecuteCommand
open Go Go.RowKit Go.ChangeShapes Go.WideShapes Go.ChangeAt Go.Joins
theorem card:Rows.FnExactExecuteCommandCardSaid:=
 Claim7.holds_tied_plain_at .later [] _ _ _ _ said (fun _ h=>by cases h) kZ (fun _ h=>by cases h) fnExactExecuteCommand_row_tie rfl ⟨rfl, rfl⟩ main_is rfl plain goes
end Go.Proofs.YtggfdnopminemaaGreatDoor.fnExactExecuteCommand
