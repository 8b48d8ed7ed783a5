/- Walks: the cursor that draws arguments from bytes, for the dictionary seats. -/
import Derived.BigQuiet
import Derived.Laws.Bits64b
import Derived.Deep.DeepCutAuto
import Derived.Test.YtngbkdlicknmhaaGreatDoorMemF
import Derived.Test.YtngbkdlicknmhaaGreatDoorMemE
namespace Go.Proofs.YtngbkdlicknmhaaGreatDoor
section
open Go Go.RowKit
set_option maxHeartbeats 400000
set_option maxRecDepth 100000
theorem Chg.drewN {F : Blk} {a w : World} (h : Chg F a w) (k : Nat) : Chg F a (w.drewN k) := h.trans (Below.chg (below_drewN (Below.refl w.heap.size w) k) F)
end
end Go.Proofs.YtngbkdlicknmhaaGreatDoor

namespace Go.Proofs.YtngbkdlicknmhaaGreatDoor
open Go Go.RowKit
set_option maxHeartbeats 2000000
set_option maxRecDepth 100000
theorem Chg.grown {v v' : World} {row : Option Nat} (h : v.grownBy v' row) : Chg (fun b => row = some b) v v' :=
  ⟨h.os, h.tape, h.output, h.size, fun b hb hf => h.block b hb fun e => hf e.symm⟩
theorem owns_stand {B : Nat} {e : TypeId} {z : Nat} {v v' : World} {u : Value} {n : Nat} {xs : List Value} {X : Blk} (h : v.ownsRow B e z u n xs) (hc : Chg X v v') (hX : ∀ k, u.ownBlock = some k → ¬ X k) : v'.ownsRow B e z u n xs := by
  refine ⟨h.1, h.2.imp id ?_⟩
  rintro ⟨g, cap, cur, e, hg, hh, r⟩
  have hk : u.ownBlock = some g := by rw [e]; rfl
  exact ⟨g, cap, cur, e, hg, (hc.block g (World.ownsRow.lt h g hk).2 (hX g hk)).trans hh, r⟩
end Go.Proofs.YtngbkdlicknmhaaGreatDoor
