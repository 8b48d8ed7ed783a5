/- Walks: a dictionary that the cursor draws. -/
import Derived.Deep.DeepCutAuto
import Derived.Test.YtpkahblajgaemaaGreatDoorCurE1
import Derived.Test.YtpkahblajgaemaaGreatDoorTransD
import Derived.Test.YtpkahblajgaemaaGreatDoorOutD
import Derived.Test.YtpkahblajgaemaaGreatDoorPut3
import Derived.Test.YtpkahblajgaemaaGreatDoorIns1
namespace Go.Proofs.YtpkahblajgaemaaGreatDoor
open Go Go.RowKit
set_option maxHeartbeats 4000000
set_option maxRecDepth 100000
def DBx (b : Nat) (u : Value) (v : World) : Prop := v.cell? ⟨b, 0, none⟩ = some u ∧ v.frozen? ⟨b, 0, none⟩ = false ∧ b < v.heap.size
theorem DBx.stand {b : Nat} {u : Value} {v v' : World} {X : Blk} (h : DBx b u v) (hc : Chg X v v') (hX : ¬ X b) : DBx b u v' :=
  ⟨(hc.cell (p := ⟨b, 0, none⟩) h.2.2 hX).trans h.1, (hc.frozen (p := ⟨b, 0, none⟩) h.2.2 hX).trans h.2.1, Nat.lt_of_lt_of_le h.2.2 hc.size⟩
theorem DBx.below {b : Nat} {u : Value} {v v' : World} (h : DBx b u v) (hb : Below v.heap.size v v') : DBx b u v' := h.stand (Below.chg hb fun _ => False) fun h => h
theorem DBx.new (u : Value) (t : TypeId) (v : World) : DBx v.heap.size u (v.alloc (.cells #[u] t)) := by
  refine ⟨?_, ?_, ?_⟩ <;> go_simp
theorem DBx.put {b : Nat} {u u' : Value} {v : World} (h : DBx b u v) : DBx b u' (v.setCell ⟨b, 0, none⟩ u') :=
  ⟨World.cell?_setCell_same _ _ _ h.1, by simpa using h.2.1, by simpa [World.setCell] using h.2.2⟩
end Go.Proofs.YtpkahblajgaemaaGreatDoor
