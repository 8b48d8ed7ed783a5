/- Walks: symMerge, in full. Walks: symMerge on any row: two parts in order become one. Walks: the library's stable sort, on any row of entries. Walks: the program's dictionary of entries that stand in any order. -/
import Derived.Deep.DeepCutAuto
import Derived.BigRegion
import Derived.IntWalk
import Derived.Test.YtojcfpjoikmgcaaGreatDoorSortG
import Derived.Test.YtojcfpjoikmgcaaGreatDoorMemE
import Derived.Test.YtojcfpjoikmgcaaGreatDoorSortD
import Derived.Test.YtojcfpjoikmgcaaGreatDoorDelA
import Derived.Test.YtojcfpjoikmgcaaGreatDoorPut1
namespace Go.Proofs.YtojcfpjoikmgcaaGreatDoor
section
open Go Go.RowKit
set_option maxHeartbeats 8000000
set_option maxRecDepth 100000
end
section
end
section
open Go Go.RowKit
set_option maxHeartbeats 4000000
set_option maxRecDepth 100000
/-- in order, with room for entries of one outline -/
def P.le (a b : P.Ent) : Prop := P.cmp a.1 b.1 ≤ 0
end
section
open Go Go.RowKit
set_option maxHeartbeats 2000000
set_option maxRecDepth 100000
end
end Go.Proofs.YtojcfpjoikmgcaaGreatDoor

namespace Go.Proofs.YtojcfpjoikmgcaaGreatDoor
namespace P
theorem put_len (e : Ent) (l : Dic) : (putF e false l).length ≤ l.length + 1 := by
  have h1 := putFold_eq e l
  have h2 := putFold_len e l
  rw [← h1]
  cases h : (putFold e l).2 with
  | true => rw [h] at h2; simpa using h2
  | false => rw [h] at h2; simpa using h2
end P
open Go Go.RowKit
set_option maxHeartbeats 2000000
set_option maxRecDepth 100000
/-- the row behind the result's store -/
theorem ents_done {W : Nat} {v : World} {F : Blk} {u x : Value} {l : P.Dic} (k : Nat) (h : Ents v F u l) (hF : ∀ b, F b → W ≤ b ∧ b < v.heap.size ∧ b ≠ k) : Ents (v.setCell ⟨k, 0, none⟩ x) (Bet W (v.setCell ⟨k, 0, none⟩ x).heap.size) u l := by
  refine (h.stand (X := fun b => b = k) entE_ok ((Chg.refl (fun b => b = k) v).setCell (p := ⟨k, 0, none⟩) rfl _) ?_).wide ?_ ?_
  · intro b hb e; exact (hF b hb).2.2 e
  · intro b hb; have := hF b hb; exact ⟨this.1, by simp [World.setCell]; omega⟩
  · intro b hb; exact hb.2
end Go.Proofs.YtojcfpjoikmgcaaGreatDoor
