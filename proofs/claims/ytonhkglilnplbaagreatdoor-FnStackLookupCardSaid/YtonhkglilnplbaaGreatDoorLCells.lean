/- A row of layers as a list of values: its cells. -/
import Derived.Test.YtonhkglilnplbaaGreatDoorLayA
set_option linter.all false
namespace Go.Proofs.YtonhkglilnplbaaGreatDoor
open Go Go.RowKit
set_option maxHeartbeats 1000000
/-- a layer in its row: the value of its entries, what it is -/
abbrev LIt := Value × P.Lay
def lcells (its : List LIt) : List Value := its.flatMap fun t => [t.1, .bool t.2.2]
theorem lcells_nil : lcells [] = [] := rfl
theorem lcells_cons (t : LIt) (its : List LIt) : lcells (t :: its) = t.1 :: .bool t.2.2 :: lcells its := rfl
theorem lcells_append (a b : List LIt) : lcells (a ++ b) = lcells a ++ lcells b := by unfold lcells; rw [List.flatMap_append]
theorem lcells_length : ∀ its : List LIt, (lcells its).length = 2 * its.length
  | [] => rfl
  | t :: its => by rw [lcells_cons, List.length_cons, List.length_cons, lcells_length its, List.length_cons]; omega
theorem lcells_take : ∀ (its : List LIt) (i : Nat), (lcells its).take (2 * i) = lcells (its.take i)
  | [], i => by simp [lcells_nil]
  | t :: its, 0 => by simp [lcells_nil]
  | t :: its, i + 1 => by rw [lcells_cons, show 2 * (i + 1) = 2 * i + 1 + 1 by omega, List.take_succ_cons, List.take_succ_cons, lcells_take its i, List.take_succ_cons, lcells_cons]
theorem lcells_drop : ∀ (its : List LIt) (i : Nat), (lcells its).drop (2 * i) = lcells (its.drop i)
  | [], i => by simp [lcells_nil]
  | t :: its, 0 => by simp
  | t :: its, i + 1 => by rw [lcells_cons, show 2 * (i + 1) = 2 * i + 1 + 1 by omega, List.drop_succ_cons, List.drop_succ_cons, lcells_drop its i, List.drop_succ_cons]
theorem lcells_get : ∀ (its : List LIt) (j : Nat) (h : j < its.length), (lcells its)[2 * j]? = some (its[j]'h).1 ∧ (lcells its)[2 * j + 1]? = some (.bool (its[j]'h).2.2)
  | t :: its, 0, _ => ⟨rfl, rfl⟩
  | t :: its, j + 1, h => by
    have := lcells_get its j (by simpa using h)
    rw [lcells_cons, show 2 * (j + 1) = 2 * j + 1 + 1 by omega]
    simpa using this
end Go.Proofs.YtonhkglilnplbaaGreatDoor
