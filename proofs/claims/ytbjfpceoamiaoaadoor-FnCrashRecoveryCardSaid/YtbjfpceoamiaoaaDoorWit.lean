/- A world for the witnesses: the listed variables hold what their initialisers lay. -/
import Derived.Test.YtbjfpceoamiaoaaDoorEnvOf
namespace Go.Proofs.YtbjfpceoamiaoaaDoor
open Go Go.RowKit
def tab32 : List Int := [0, 1, 28, 2, 29, 14, 24, 3, 30, 22, 20, 15, 25, 17, 4, 8, 31, 27, 13, 23, 21, 19, 16, 7, 26, 12, 18, 6, 11, 5, 10, 9]
def tab64 : List Int := [0, 1, 56, 2, 57, 49, 28, 3, 61, 58, 42, 50, 38, 29, 17, 4, 62, 47, 59, 36, 45, 43, 51, 22, 53, 39, 33, 30, 24, 18, 12, 5, 63, 55, 48, 27, 60, 41, 37, 16, 46, 35, 44, 21, 52, 32, 23, 11, 54, 26, 40, 15, 34, 20, 31, 10, 25, 14, 19, 9, 13, 8, 7, 6]
def setTab (g : Nat) (k : IntKind) (l : List Int) (h : Array Obj) : Array Obj := h.modify g fun
  | .cells _ t frozen => .cells (l.map fun z => Value.int k z).toArray t frozen
  | o => o
noncomputable def laidWorld (os : Os) : World :=
  { World.holding Tryd.prog os ⟨#[], #[], []⟩ with heap := setTab 1 .u64 Lib.pow10Tab (setTab 3 .u8 tab64 (setTab 2 .u8 tab32 (World.holding Tryd.prog os ⟨#[], #[], []⟩).heap)) }
theorem own : ownKnob Tryd.prog.godebug = none := by kernel_rfl
end Go.Proofs.YtbjfpceoamiaoaaDoor
