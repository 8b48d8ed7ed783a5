/- Walks: the reference looks at the shape of a trie. Walks: the reference collects the entries of a trie. -/
import Derived.Deep.DeepCutAuto
import Derived.BigQuiet
import Derived.IntWalk
import Derived.BigRegion
import Derived.RegionTactic
import Derived.Test.YtojcfpjoikmgcaaGreatDoorTrieB
import Derived.Test.YtojcfpjoikmgcaaGreatDoorOutD
import Derived.Test.YtojcfpjoikmgcaaGreatDoorLawD
import Derived.Test.YtojcfpjoikmgcaaGreatDoorReadA
namespace Go.Proofs.YtojcfpjoikmgcaaGreatDoor
section
section
namespace P
theorem getD_at {t : Tri} {i : Nat} (h : i < t.length) : t.getD i nd0 = t[i] := by
  rw [List.getD_eq_getElem?_getD, List.getElem?_eq_getElem h]; rfl
end P
end
open Go Go.RowKit
set_option maxHeartbeats 8000000
set_option maxRecDepth 100000
theorem NB.drewN {N : Nat} {x y : Value} {t : Bool} {s : Str} {v : World} (h : NB N x y t s v) (k : Nat) : NB N x y t s (v.drewN k) := h.below (below_drewN (Below.refl _ _) k)
theorem NB.apart {N B c : Nat} {x y : Value} {t : Bool} {s : Str} {v : World} (h : NB N x y t s v) (hc : N ≠ B) (u : Value) : NB N x y t s (v.setCell ⟨B, c, none⟩ u) := h.stand ((Chg.refl (fun b => b = B) v).setCell (p := ⟨B, c, none⟩) rfl u) hc
end
section
section
open Go Go.RowKit
variable {P : Program} {w : World}
end
section
namespace P
end P
open Go Go.RowKit
set_option maxHeartbeats 8000000
set_option maxRecDepth 100000
variable {w : World} {D : Nat} {tv u x y : Value} {tt : Bool} {ss : Str} {u1 : Value} {es1 : P.Dic} {xs1 : List Value} {v v' : World}
end
end
end Go.Proofs.YtojcfpjoikmgcaaGreatDoor
