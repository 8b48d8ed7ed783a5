/- The log of a session, and every recovered prefix of it, replays without a difference: the law answers true for every code. No condition of its own; the card ties the listed library variables to the program's text. -/
import Derived.Test.YtggfdnopminemaaGreatDoorCardRy
import Derived.Test.YtggfdnopminemaaGreatDoorCardRyg
import Derived.Test.YtggfdnopminemaaGreatDoorMain
set_option linter.all false
namespace Go.Proofs.YtggfdnopminemaaGreatDoor.fnReplay
open Go Go.RowKit Go.ChangeShapes Go.WideShapes Go.ChangeAt Go.Joins
theorem card:Rows.FnReplayCardSaid:=
 Claim7.holds_tied_plain_at .later [] _ _ _ _ said (λ_ h=>by cases h) kZ (λ_ h=>by cases h) fnReplay_row_tie rfl ⟨rfl, rfl⟩ main_is rfl plain goes
end Go.Proofs.YtggfdnopminemaaGreatDoor.fnReplay
