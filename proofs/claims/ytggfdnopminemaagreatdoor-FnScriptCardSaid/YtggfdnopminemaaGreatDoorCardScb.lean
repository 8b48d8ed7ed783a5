/- Running the first line of a script alone yields the first reply of the script: the law answers true for every code. No condition of its own; the card ties the listed library variables to the program's text. -/
import Derived.Test.YtggfdnopminemaaGreatDoorCardSc
import Derived.Test.YtggfdnopminemaaGreatDoorCardScg
import Derived.Test.YtggfdnopminemaaGreatDoorMain
set_option linter.all false
namespace Go.Proofs.YtggfdnopminemaaGreatDoor.fnScript
open Go Go.RowKit Go.ChangeShapes Go.WideShapes Go.ChangeAt Go.Joins
theorem card:Rows.FnScriptCardSaid:=
 Claim7.holds_tied_plain_at .later [] _ _ _ _ said (λ_ h=>by cases h) kZ (λ_ h=>by cases h) fnScript_row_tie rfl ⟨rfl, rfl⟩ main_is rfl plain goes
end Go.Proofs.YtggfdnopminemaaGreatDoor.fnScript
