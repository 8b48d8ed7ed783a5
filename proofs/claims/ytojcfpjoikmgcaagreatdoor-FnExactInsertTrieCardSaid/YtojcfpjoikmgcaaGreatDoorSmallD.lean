/- What is known of a dictionary that a law hands on. -/
import Derived.Test.YtojcfpjoikmgcaaGreatDoorMemD
import Derived.Test.YtojcfpjoikmgcaaGreatDoorMemF
import Derived.Test.YtojcfpjoikmgcaaGreatDoorOutD
import Derived.Test.YtojcfpjoikmgcaaGreatDoorValD
namespace Go.Proofs.YtojcfpjoikmgcaaGreatDoor
open Go Go.RowKit
/-- what is handed back of a dictionary -/
def P.kept (ok : Bool) (l : P.Dic) : P.Dic := if ok then l else []
/-- what is known of a dictionary that a law hands on -/
structure Small (l : P.Dic) : Prop where
  len : l.length ≤ 2 ^ 20
  outs : ∀ e ∈ l, e.1.length ≤ 2 ^ 20
  texts : ∀ e ∈ l, e.2.length ≤ 2 ^ 30
/-- a new box of a stack -/
def NBx (b : Nat) (v : World) : Prop := v.cell? ⟨b, 0, none⟩ = some (.slice none 0 0) ∧ v.frozen? ⟨b, 0, none⟩ = false ∧ b < v.heap.size
theorem NBx.stand {b : Nat} {v v' : World} {X : Blk} (h : NBx b v) (hc : Chg X v v') (hX : ¬ X b) : NBx b v' :=
  ⟨(hc.cell (p := ⟨b, 0, none⟩) h.2.2 hX).trans h.1, (hc.frozen (p := ⟨b, 0, none⟩) h.2.2 hX).trans h.2.1, Nat.lt_of_lt_of_le h.2.2 hc.size⟩
theorem NBx.below {b : Nat} {v v' : World} (h : NBx b v) (hb : Below v.heap.size v v') : NBx b v' := h.stand (Below.chg hb fun _ => False) fun h => h
theorem NBx.new (v : World) (t : TypeId) : NBx v.heap.size (v.alloc (.cells #[.slice none 0 0] t)) := by
  refine ⟨?_, ?_, ?_⟩ <;> go_simp
end Go.Proofs.YtojcfpjoikmgcaaGreatDoor
