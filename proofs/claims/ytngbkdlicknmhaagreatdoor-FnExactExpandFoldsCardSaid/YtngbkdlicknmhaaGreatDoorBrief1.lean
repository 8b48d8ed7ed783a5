/- Walks: an entry put into a dictionary (program). Plain: when it may be. -/
import Derived.Test.YtngbkdlicknmhaaGreatDoorDelA
import Derived.Test.YtngbkdlicknmhaaGreatDoorSortH
import Derived.Test.YtngbkdlicknmhaaGreatDoorPut1
import Derived.Deep.DeepCutAuto
import Derived.Test.YtngbkdlicknmhaaGreatDoorLook1
import Derived.Test.YtngbkdlicknmhaaGreatDoorMemE
namespace Go.Proofs.YtngbkdlicknmhaaGreatDoor
namespace P
theorem dic_len {l : Dic} (h : dic l = true) : l.length ≤ 40 := by
  unfold dic at h
  simp only [Bool.and_eq_true, decide_eq_true_eq] at h
  exact h.1
theorem put_len (e : Ent) (l : Dic) : (putF e false l).length ≤ l.length + 1 := by
  have h1 := putFold_eq e l
  have h2 := putFold_len e l
  rw [← h1]
  cases h : (putFold e l).2 with
  | true => rw [h] at h2; simpa using h2
  | false => rw [h] at h2; simpa using h2
end P
open Go Go.RowKit
set_option maxHeartbeats 2000000
set_option maxRecDepth 100000
/-- a result of a dictionary's function: the row, the answer -/
def DkPost (ok : Bool) (l : P.Dic) (w : World) (e : Ending) (w' : World) : Prop :=
  ∃ u, e = .returned (.tuple #[.agg #[u], .bool ok]) ∧ Ents w' (Bet w.heap.size w'.heap.size) u (P.kept ok l) ∧ Below w.heap.size w w'
/-- the row behind the result's store -/
theorem ents_done {W : Nat} {v : World} {F : Blk} {u x : Value} {l : P.Dic} (k : Nat) (h : Ents v F u l) (hF : ∀ b, F b → W ≤ b ∧ b < v.heap.size ∧ b ≠ k) : Ents (v.setCell ⟨k, 0, none⟩ x) (Bet W (v.setCell ⟨k, 0, none⟩ x).heap.size) u l := by
  refine (h.stand (X := fun b => b = k) entE_ok ((Chg.refl (fun b => b = k) v).setCell (p := ⟨k, 0, none⟩) rfl _) ?_).wide ?_ ?_
  · intro b hb e; exact (hF b hb).2.2 e
  · intro b hb; have := hF b hb; exact ⟨this.1, by simp [World.setCell]; omega⟩
  · intro b hb; exact hb.2
end Go.Proofs.YtngbkdlicknmhaaGreatDoor

namespace Go.Proofs.YtngbkdlicknmhaaGreatDoor
namespace P
def begins (o p : List Int) : Bool := decide (p.length ≤ o.length) && decide (o.take p.length = p)
end P
open Go Go.RowKit
set_option maxHeartbeats 2000000
set_option maxRecDepth 100000
theorem IntR.take {v : World} {ad : Option Addr} {cap k : Nat} {l : List Int} (h : IntR v (.slice ad l.length cap) l) (hk : k ≤ l.length) : IntR v (.slice ad k cap) (l.take k) := by
  obtain ⟨ad', cap', he, h1, hn, h3⟩ := h
  injection he with e1 e2 e3
  subst e1 e3
  have hlk : (l.take k).length = k := by rw [List.length_take]; omega
  refine ⟨ad, cap, by rw [hlk], by omega, hn, ?_⟩
  rcases h3 with h3 | ⟨g, o, h4, h5, h6⟩
  · left; rw [h3]; simp
  · refine .inr ⟨g, o, h4, h5, fun j hj => ?_⟩
    have hj' : j < l.length := by omega
    rw [List.getElem_take]
    exact h6 j hj'
end Go.Proofs.YtngbkdlicknmhaaGreatDoor
