/- ReplayLog of the program returns what the reference's returns, for all arguments. No condition of its own; the card ties the listed library variables to the program's text. -/
import Derived.Test.YtggfdnopminemaaGreatDoorCardRL
import Derived.Test.YtggfdnopminemaaGreatDoorCardRLg
import Derived.Test.YtggfdnopminemaaGreatDoorMain
namespace Go.Proofs.YtggfdnopminemaaGreatDoor.fnExactReplayLog
open Go Go.RowKit Go.ChangeShapes Go.WideShapes Go.ChangeAt Go.Joins
theorem card:Rows.FnExactReplayLogCardSaid:=
 Claim7.holds_tied_plain_at .later [] _ _ _ _ said (fun _ h=>by cases h) kZ (fun _ h=>by cases h) fnExactReplayLog_row_tie rfl ⟨rfl, rfl⟩ main_is rfl plain goes
end Go.Proofs.YtggfdnopminemaaGreatDoor.fnExactReplayLog
