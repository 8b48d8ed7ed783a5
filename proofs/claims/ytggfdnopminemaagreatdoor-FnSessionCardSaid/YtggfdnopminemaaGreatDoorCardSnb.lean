/- Executing any command in a valid session yields a valid session whose log records the command and its reply: the law answers true for every code. No condition of its own; the card ties the listed library variables to the program's text. -/
import Derived.Test.YtggfdnopminemaaGreatDoorCardSn
import Derived.Test.YtggfdnopminemaaGreatDoorCardSng
import Derived.Test.YtggfdnopminemaaGreatDoorMain
set_option linter.all false
namespace Go.Proofs.YtggfdnopminemaaGreatDoor.fnSession
open Go Go.RowKit Go.ChangeShapes Go.WideShapes Go.ChangeAt Go.Joins
theorem card:Rows.FnSessionCardSaid:=
 Claim7.holds_tied_plain_at .later [] _ _ _ _ said (λ_ h=>by cases h) kZ (λ_ h=>by cases h) fnSession_row_tie rfl ⟨rfl, rfl⟩ main_is rfl plain goes
end Go.Proofs.YtggfdnopminemaaGreatDoor.fnSession
