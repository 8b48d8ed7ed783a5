/- Typing outlines in a session shows the screen of a fresh translation, and the replies are the edits that lead to it: the law answers true for every code. No condition of its own; the card ties the listed library variables to the program's text. -/
import Derived.Test.YtggfdnopminemaaGreatDoorCardTy
import Derived.Test.YtggfdnopminemaaGreatDoorCardTyg
import Derived.Test.YtggfdnopminemaaGreatDoorMain
set_option linter.all false
namespace Go.Proofs.YtggfdnopminemaaGreatDoor.fnSessionTyping
open Go Go.RowKit Go.ChangeShapes Go.WideShapes Go.ChangeAt Go.Joins
theorem card:Rows.FnSessionTypingCardSaid:=
 Claim7.holds_tied_plain_at .later [] _ _ _ _ said (fun _ h=>by cases h) kZ (fun _ h=>by cases h) fnSessionTyping_row_tie rfl ⟨rfl, rfl⟩ main_is rfl plain goes
end Go.Proofs.YtggfdnopminemaaGreatDoor.fnSessionTyping
