/- Arguments of a law: rows of ints and of entries, however long; their size. What the laws on dictionaries keep between their calls. -/
import Derived.Test.YtojcfpjoikmgcaaGreatDoorMemD
import Derived.Test.YtojcfpjoikmgcaaGreatDoorSmallD
namespace Go.Proofs.YtojcfpjoikmgcaaGreatDoor
section
open Go Go.RowKit
set_option maxHeartbeats 1000000
set_option maxRecDepth 100000
end
section
open Go Go.RowKit
/-- a box of one cell -/
def Box1 (b : Nat) (x : Value) (v : World) : Prop := v.cell? ⟨b, 0, none⟩ = some x ∧ b < v.heap.size
theorem Box1.stand {b : Nat} {x : Value} {v v' : World} {X : Blk} (h : Box1 b x v) (hc : Chg X v v') (hX : ¬ X b) : Box1 b x v' :=
  ⟨(hc.cell (p := ⟨b, 0, none⟩) h.2 hX).trans h.1, Nat.lt_of_lt_of_le h.2 hc.size⟩
theorem Box1.below {b : Nat} {x : Value} {v v' : World} (h : Box1 b x v) (hb : Below v.heap.size v v') : Box1 b x v' := h.stand (Below.chg hb fun _ => False) fun h => h
theorem Box1.new (x : Value) (t : TypeId) (v : World) : Box1 v.heap.size x (v.alloc (.cells #[x] t)) := ⟨by go_simp, by simp⟩
end
end Go.Proofs.YtojcfpjoikmgcaaGreatDoor
