/- Walks: an entry put into a dictionary (program). Plain: when it may be. -/
import Derived.Test.YtojcfpjoikmgcaaGreatDoorDelA
import Derived.Test.YtojcfpjoikmgcaaGreatDoorSortH
import Derived.Test.YtojcfpjoikmgcaaGreatDoorPut1
namespace Go.Proofs.YtojcfpjoikmgcaaGreatDoor
namespace P
theorem put_len (e : Ent) (l : Dic) : (putF e false l).length ≤ l.length + 1 := by
  have h1 := putFold_eq e l
  have h2 := putFold_len e l
  rw [← h1]
  cases h : (putFold e l).2 with
  | true => rw [h] at h2; simpa using h2
  | false => rw [h] at h2; simpa using h2
end P
open Go Go.RowKit
set_option maxHeartbeats 2000000
set_option maxRecDepth 100000
/-- the row behind the result's store -/
theorem ents_done {W : Nat} {v : World} {F : Blk} {u x : Value} {l : P.Dic} (k : Nat) (h : Ents v F u l) (hF : ∀ b, F b → W ≤ b ∧ b < v.heap.size ∧ b ≠ k) : Ents (v.setCell ⟨k, 0, none⟩ x) (Bet W (v.setCell ⟨k, 0, none⟩ x).heap.size) u l := by
  refine (h.stand (X := fun b => b = k) entE_ok ((Chg.refl (fun b => b = k) v).setCell (p := ⟨k, 0, none⟩) rfl _) ?_).wide ?_ ?_
  · intro b hb e; exact (hF b hb).2.2 e
  · intro b hb; have := hF b hb; exact ⟨this.1, by simp [World.setCell]; omega⟩
  · intro b hb; exact hb.2
end Go.Proofs.YtojcfpjoikmgcaaGreatDoor
