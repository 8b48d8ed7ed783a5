/- Walks: an entry struck from a trie (program, reference). -/
import Derived.Deep.DeepCutAuto
import Derived.Deep.RegionHeld
import Derived.Test.YtojcfpjoikmgcaaGreatDoorSpecT
import Derived.Test.YtojcfpjoikmgcaaGreatDoorTrieM
import Derived.Test.YtojcfpjoikmgcaaGreatDoorDelA
namespace Go.Proofs.YtojcfpjoikmgcaaGreatDoor
section
namespace P
end P
end
open Go Go.RowKit
set_option maxHeartbeats 4000000
set_option maxRecDepth 100000
/-- a trie of the call's own, and whether there is one -/
def TriKPost (ok : Bool) (l : P.Tri) (w : World) (e : Ending) (w' : World) : Prop := ∃ u, e = .returned (.tuple #[.agg #[u], .bool ok]) ∧ Nods w' (Bet w.heap.size w'.heap.size) u (P.keptT ok l) ∧ Below w.heap.size w w'
/-- the boxes of InsertTrie and DeleteTrie: the trie, the result -/
def TBx (W R : Nat) (tv : Value) (v : World) : Prop := (v.cell? ⟨W, 0, none⟩ = some tv ∧ W < v.heap.size) ∧ BL R (.slice none 0 0) v
theorem TBx.below {W R : Nat} {tv : Value} {v v' : World} (h : TBx W R tv v) (hb : Below v.heap.size v v') : TBx W R tv v' :=
  ⟨⟨(hb.cell (p := ⟨W, 0, none⟩) h.1.2).trans h.1.1, Nat.lt_of_lt_of_le h.1.2 hb.size⟩, h.2.below hb⟩
end Go.Proofs.YtojcfpjoikmgcaaGreatDoor
