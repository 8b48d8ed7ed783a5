/- What is known of a dictionary that a law hands on. -/
import Derived.Test.YtkjidjomlpnnlaaGreatDoorMemD
import Derived.Test.YtkjidjomlpnnlaaGreatDoorMemF
import Derived.Test.YtkjidjomlpnnlaaGreatDoorOutD
import Derived.Test.YtkjidjomlpnnlaaGreatDoorValD
namespace Go.Proofs.YtkjidjomlpnnlaaGreatDoor
open Go Go.RowKit
/-- what is handed back of a dictionary -/
def P.kept (ok : Bool) (l : P.Dic) : P.Dic := if ok then l else []
/-- what is known of a dictionary that a law hands on -/
structure Small (l : P.Dic) : Prop where
  len : l.length ≤ 2 ^ 20
  outs : ∀ e ∈ l, e.1.length ≤ 2 ^ 20
  texts : ∀ e ∈ l, e.2.length ≤ 2 ^ 30
/-- a new box of a stack -/
def NBx (b : Nat) (v : World) : Prop := v.cell? ⟨b, 0, none⟩ = some (.slice none 0 0) ∧ v.frozen? ⟨b, 0, none⟩ = false ∧ b < v.heap.size
theorem NBx.stand {b : Nat} {v v' : World} {X : Blk} (h : NBx b v) (hc : Chg X v v') (hX : ¬ X b) : NBx b v' :=
  ⟨(hc.cell (p := ⟨b, 0, none⟩) h.2.2 hX).trans h.1, (hc.frozen (p := ⟨b, 0, none⟩) h.2.2 hX).trans h.2.1, Nat.lt_of_lt_of_le h.2.2 hc.size⟩
theorem NBx.below {b : Nat} {v v' : World} (h : NBx b v) (hb : Below v.heap.size v v') : NBx b v' := h.stand (Below.chg hb fun _ => False) fun h => h
theorem NBx.new (v : World) (t : TypeId) : NBx v.heap.size (v.alloc (.cells #[.slice none 0 0] t)) := by
  refine ⟨?_, ?_, ?_⟩ <;> go_simp
end Go.Proofs.YtkjidjomlpnnlaaGreatDoor

namespace Go.Proofs.YtkjidjomlpnnlaaGreatDoor
section
open Go Go.RowKit
set_option maxHeartbeats 1000000
set_option maxRecDepth 100000
end
section
open Go Go.RowKit
/-- a box of one cell -/
def Box1 (b : Nat) (x : Value) (v : World) : Prop := v.cell? ⟨b, 0, none⟩ = some x ∧ b < v.heap.size
theorem Box1.stand {b : Nat} {x : Value} {v v' : World} {X : Blk} (h : Box1 b x v) (hc : Chg X v v') (hX : ¬ X b) : Box1 b x v' :=
  ⟨(hc.cell (p := ⟨b, 0, none⟩) h.2 hX).trans h.1, Nat.lt_of_lt_of_le h.2 hc.size⟩
theorem Box1.below {b : Nat} {x : Value} {v v' : World} (h : Box1 b x v) (hb : Below v.heap.size v v') : Box1 b x v' := h.stand (Below.chg hb fun _ => False) fun h => h
theorem Box1.new (x : Value) (t : TypeId) (v : World) : Box1 v.heap.size x (v.alloc (.cells #[x] t)) := ⟨by go_simp, by simp⟩
theorem Chg.belowB {X : Blk} {B : Nat} {a v v' : World} (h : Below B a v) (hc : Chg X v v') (hB : B ≤ v.heap.size) (hX : ∀ b, X b → B ≤ b) : Below B a v' := h.trans (hc.below hB hX)
end
end Go.Proofs.YtkjidjomlpnnlaaGreatDoor
