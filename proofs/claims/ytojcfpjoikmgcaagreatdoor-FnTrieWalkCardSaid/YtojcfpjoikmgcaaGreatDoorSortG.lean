/- A row of entries as a list of items, which move within the row; orders and permutations of a part of it. Plain: orders and permutations of a part of a row of items; the step of an insertion. Walks: the library's insertion sort, on any row of entries. Plain: items moved by a map of places; two blocks exchanged, two blocks turned. Walks: swapRange. Walks: two blocks of a row turned (rotate). Plain: what symMerge does: an item carried up or down; the two halves. Walks: symMerge with one item before, with one item behind a row in order. Walks: symMerge with one item behind a row in order. Plain: the search of symMerge for the place where the halves are turned. -/
import Derived.Deep.DeepCutAuto
import Derived.IntWalk
import Derived.BigRegion
import Derived.Test.YtojcfpjoikmgcaaGreatDoorSortD
namespace Go.Proofs.YtojcfpjoikmgcaaGreatDoor
section
open Go Go.RowKit
set_option maxHeartbeats 1000000
set_option maxRecDepth 100000
/-- an entry in its row: the value of its outline, the blocks that hold it, what it is -/
structure It where
  x : Value
  G : Blk
  e : P.Ent
def It.cs (t : It) : List Value := [t.x, .string (S t.e.2)]
theorem Cel.two {v : World} {g o i : Nat} {s t : It} (h : Cel v g (o + i * 2) s.cs) : Cel ((v.setCell ⟨g, o + i * 2, none⟩ t.x).setCell ⟨g, o + i * 2 + 1, none⟩ (.string (S t.e.2))) g (o + i * 2) t.cs := by
  have e := (h.set_at 0 (by simp [It.cs]) t.x).set_at 1 (by simp [It.cs]) (.string (S t.e.2))
  simpa [It.cs] using e
end
section
/-- not behind -/
def It.le (s t : It) : Prop := P.cmp s.e.1 t.e.1 ≤ 0
theorem It.le_refl (s : It) : s.le s := by unfold It.le; rw [P.cmp_refl]; decide
theorem It.le_trans {s t u : It} (h : s.le t) (k : t.le u) : s.le u := by
  unfold It.le at *
  by_cases h1 : P.cmp s.e.1 t.e.1 = 0
  · rw [P.cmp_eq _ _ h1]; exact k
  · by_cases h2 : P.cmp t.e.1 u.e.1 = 0
    · rw [← P.cmp_eq _ _ h2]; exact h
    · have := P.cmp_trans s.e.1 t.e.1 u.e.1 (by omega) (by omega); omega
/-- the part [a, b) of a row has been put in another order -/
structure PermOn (a b : Nat) (l l' : List It) : Prop where
  perm : l'.Perm l
  same : ∀ j, j < a ∨ b ≤ j → l'[j]? = l[j]?
  from_ : ∀ j x, a ≤ j → j < b → l'[j]? = some x → ∃ i, a ≤ i ∧ i < b ∧ l[i]? = some x
theorem PermOn.refl (a b : Nat) (l : List It) : PermOn a b l l := ⟨List.Perm.refl _, fun _ _ => rfl, fun j _ h1 h2 h3 => ⟨j, h1, h2, h3⟩⟩
theorem PermOn.trans {a b : Nat} {l m n : List It} (h : PermOn a b l m) (k : PermOn a b m n) : PermOn a b l n :=
  ⟨k.perm.trans h.perm, fun j hj => (k.same j hj).trans (h.same j hj), fun j x h1 h2 h3 => by
    obtain ⟨i, i1, i2, i3⟩ := k.from_ j x h1 h2 h3
    exact h.from_ i x i1 i2 i3⟩
theorem PermOn.mono {a b a' b' : Nat} {l m : List It} (h : PermOn a b l m) (ha : a' ≤ a) (hb : b ≤ b') : PermOn a' b' l m :=
  ⟨h.perm, fun j hj => h.same j (by omega), fun j x h1 h2 h3 => by
    by_cases hj : a ≤ j ∧ j < b
    · obtain ⟨i, i1, i2, i3⟩ := h.from_ j x hj.1 hj.2 h3
      exact ⟨i, by omega, by omega, i3⟩
    · exact ⟨j, h1, h2, by rw [← h.same j (by omega)]; exact h3⟩⟩
theorem PermOn.len {a b : Nat} {l m : List It} (h : PermOn a b l m) : m.length = l.length := h.perm.length_eq
end
section
open Go Go.RowKit
set_option maxHeartbeats 4000000
set_option maxRecDepth 100000
end
section
open Go Go.RowKit
set_option maxHeartbeats 4000000
set_option maxRecDepth 100000
end
section
open Go Go.RowKit
set_option maxHeartbeats 4000000
set_option maxRecDepth 100000
end
section
def It.lt (s t : It) : Prop := P.cmp s.e.1 t.e.1 < 0
/-- no item of the left part is behind an item of the right part -/
def Split (a c b : Nat) (l : List It) : Prop := ∀ p q x y, a ≤ p → p < c → c ≤ q → q < b → l[p]? = some x → l[q]? = some y → x.le y
theorem Split.left {a c b : Nat} {l m : List It} (h : Split a c b l) (k : PermOn a c l m) : Split a c b m := by
  intro p q x y h1 h2 h3 h4 h5 h6
  obtain ⟨i, i1, i2, i3⟩ := k.from_ p x h1 h2 h5
  rw [k.same q (by omega)] at h6
  exact h i q x y i1 i2 h3 h4 i3 h6
theorem Split.right {a c b : Nat} {l m : List It} (h : Split a c b l) (k : PermOn c b l m) : Split a c b m := by
  intro p q x y h1 h2 h3 h4 h5 h6
  obtain ⟨i, i1, i2, i3⟩ := k.from_ q y h3 h4 h6
  rw [k.same p (by omega)] at h5
  exact h p i x y h1 h2 i1 i2 h5 i3
end
section
open Go Go.RowKit
set_option maxHeartbeats 4000000
set_option maxRecDepth 100000
end
section
theorem It.lt_of_lt_of_le {s t u : It} (k : P.cmp s.e.1 t.e.1 < 0) (h : t.le u) : P.cmp s.e.1 u.e.1 < 0 := by
  unfold It.le at h
  by_cases e : P.cmp t.e.1 u.e.1 = 0
  · rw [← P.cmp_eq _ _ e]; exact k
  · exact P.cmp_trans _ _ _ k (by omega)
open Go Go.RowKit
set_option maxHeartbeats 4000000
set_option maxRecDepth 100000
end
section
end
end Go.Proofs.YtojcfpjoikmgcaaGreatDoor
