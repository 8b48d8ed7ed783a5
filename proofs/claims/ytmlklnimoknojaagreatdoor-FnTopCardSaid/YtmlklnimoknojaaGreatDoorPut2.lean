/- A row of entries as a list of items, which move within the row; orders and permutations of a part of it. Plain: orders and permutations of a part of a row of items; the step of an insertion. Walks: the library's insertion sort, on any row of entries. Plain: items moved by a map of places; two blocks exchanged, two blocks turned. Walks: swapRange. Walks: two blocks of a row turned (rotate). Plain: what symMerge does: an item carried up or down; the two halves. Walks: symMerge with one item before, with one item behind a row in order. Walks: symMerge with one item behind a row in order. Plain: the search of symMerge for the place where the halves are turned. -/
import Derived.Deep.DeepCutAuto
import Derived.IntWalk
import Derived.BigRegion
import Derived.Test.YtmlklnimoknojaaGreatDoorCurE1
import Derived.Test.YtmlklnimoknojaaGreatDoorMemE
import Derived.Test.YtmlklnimoknojaaGreatDoorDelA
import Derived.Test.YtmlklnimoknojaaGreatDoorLawD
import Derived.Deep.RegionLaw
import Derived.Deep.RegionHeld
import Derived.Test.YtmlklnimoknojaaGreatDoorOutD
namespace Go.Proofs.YtmlklnimoknojaaGreatDoor
section
open Go Go.RowKit
set_option maxHeartbeats 1000000
set_option maxRecDepth 100000
/-- an entry in its row: the value of its outline, the blocks that hold it, what it is -/
structure It where
  x : Value
  G : Blk
  e : P.Ent
def It.cs (t : It) : List Value := [t.x, .string (S t.e.2)]
theorem Cel.two {v : World} {g o i : Nat} {s t : It} (h : Cel v g (o + i * 2) s.cs) : Cel ((v.setCell ⟨g, o + i * 2, none⟩ t.x).setCell ⟨g, o + i * 2 + 1, none⟩ (.string (S t.e.2))) g (o + i * 2) t.cs := by
  have e := (h.set_at 0 (by simp [It.cs]) t.x).set_at 1 (by simp [It.cs]) (.string (S t.e.2))
  simpa [It.cs] using e
end
section
/-- not behind -/
def It.le (s t : It) : Prop := P.cmp s.e.1 t.e.1 ≤ 0
theorem It.le_refl (s : It) : s.le s := by unfold It.le; rw [P.cmp_refl]; decide
theorem It.le_of_lt {s t : It} (h : P.cmp s.e.1 t.e.1 < 0) : s.le t := by unfold It.le; omega
theorem It.le_trans {s t u : It} (h : s.le t) (k : t.le u) : s.le u := by
  unfold It.le at *
  by_cases h1 : P.cmp s.e.1 t.e.1 = 0
  · rw [P.cmp_eq _ _ h1]; exact k
  · by_cases h2 : P.cmp t.e.1 u.e.1 = 0
    · rw [← P.cmp_eq _ _ h2]; exact h
    · have := P.cmp_trans s.e.1 t.e.1 u.e.1 (by omega) (by omega); omega
/-- the part [a, b) of a row has been put in another order -/
structure PermOn (a b : Nat) (l l' : List It) : Prop where
  perm : l'.Perm l
  same : ∀ j, j < a ∨ b ≤ j → l'[j]? = l[j]?
  from_ : ∀ j x, a ≤ j → j < b → l'[j]? = some x → ∃ i, a ≤ i ∧ i < b ∧ l[i]? = some x
theorem PermOn.refl (a b : Nat) (l : List It) : PermOn a b l l := ⟨List.Perm.refl _, fun _ _ => rfl, fun j _ h1 h2 h3 => ⟨j, h1, h2, h3⟩⟩
theorem PermOn.trans {a b : Nat} {l m n : List It} (h : PermOn a b l m) (k : PermOn a b m n) : PermOn a b l n :=
  ⟨k.perm.trans h.perm, fun j hj => (k.same j hj).trans (h.same j hj), fun j x h1 h2 h3 => by
    obtain ⟨i, i1, i2, i3⟩ := k.from_ j x h1 h2 h3
    exact h.from_ i x i1 i2 i3⟩
theorem PermOn.mono {a b a' b' : Nat} {l m : List It} (h : PermOn a b l m) (ha : a' ≤ a) (hb : b ≤ b') : PermOn a' b' l m :=
  ⟨h.perm, fun j hj => h.same j (by omega), fun j x h1 h2 h3 => by
    by_cases hj : a ≤ j ∧ j < b
    · obtain ⟨i, i1, i2, i3⟩ := h.from_ j x hj.1 hj.2 h3
      exact ⟨i, by omega, by omega, i3⟩
    · exact ⟨j, h1, h2, by rw [← h.same j (by omega)]; exact h3⟩⟩
theorem PermOn.len {a b : Nat} {l m : List It} (h : PermOn a b l m) : m.length = l.length := h.perm.length_eq
end
section
open Go Go.RowKit
set_option maxHeartbeats 4000000
set_option maxRecDepth 100000
end
section
open Go Go.RowKit
set_option maxHeartbeats 4000000
set_option maxRecDepth 100000
end
section
open Go Go.RowKit
set_option maxHeartbeats 4000000
set_option maxRecDepth 100000
end
section
def It.lt (s t : It) : Prop := P.cmp s.e.1 t.e.1 < 0
/-- no item of the left part is behind an item of the right part -/
def Split (a c b : Nat) (l : List It) : Prop := ∀ p q x y, a ≤ p → p < c → c ≤ q → q < b → l[p]? = some x → l[q]? = some y → x.le y
theorem Split.left {a c b : Nat} {l m : List It} (h : Split a c b l) (k : PermOn a c l m) : Split a c b m := by
  intro p q x y h1 h2 h3 h4 h5 h6
  obtain ⟨i, i1, i2, i3⟩ := k.from_ p x h1 h2 h5
  rw [k.same q (by omega)] at h6
  exact h i q x y i1 i2 h3 h4 i3 h6
theorem Split.right {a c b : Nat} {l m : List It} (h : Split a c b l) (k : PermOn c b l m) : Split a c b m := by
  intro p q x y h1 h2 h3 h4 h5 h6
  obtain ⟨i, i1, i2, i3⟩ := k.from_ q y h3 h4 h6
  rw [k.same p (by omega)] at h5
  exact h p i x y h1 h2 i1 i2 h5 i3
end
section
open Go Go.RowKit
set_option maxHeartbeats 4000000
set_option maxRecDepth 100000
end
section
theorem It.lt_of_lt_of_le {s t u : It} (k : P.cmp s.e.1 t.e.1 < 0) (h : t.le u) : P.cmp s.e.1 u.e.1 < 0 := by
  unfold It.le at h
  by_cases e : P.cmp t.e.1 u.e.1 = 0
  · rw [← P.cmp_eq _ _ e]; exact k
  · exact P.cmp_trans _ _ _ k (by omega)
open Go Go.RowKit
set_option maxHeartbeats 4000000
set_option maxRecDepth 100000
end
section
end
end Go.Proofs.YtmlklnimoknojaaGreatDoor

namespace Go.Proofs.YtmlklnimoknojaaGreatDoor
section
open Go Go.RowKit
set_option maxHeartbeats 8000000
set_option maxRecDepth 100000
end
section
end
section
open Go Go.RowKit
set_option maxHeartbeats 4000000
set_option maxRecDepth 100000
/-- in order, with room for entries of one outline -/
def P.le (a b : P.Ent) : Prop := P.cmp a.1 b.1 ≤ 0
end
section
open Go Go.RowKit
set_option maxHeartbeats 2000000
set_option maxRecDepth 100000
end
end Go.Proofs.YtmlklnimoknojaaGreatDoor

namespace Go.Proofs.YtmlklnimoknojaaGreatDoor
namespace P
theorem put_len (e : Ent) (l : Dic) : (putF e false l).length ≤ l.length + 1 := by
  have h1 := putFold_eq e l
  have h2 := putFold_len e l
  rw [← h1]
  cases h : (putFold e l).2 with
  | true => rw [h] at h2; simpa using h2
  | false => rw [h] at h2; simpa using h2
end P
open Go Go.RowKit
set_option maxHeartbeats 2000000
set_option maxRecDepth 100000
/-- the row behind the result's store -/
theorem ents_done {W : Nat} {v : World} {F : Blk} {u x : Value} {l : P.Dic} (k : Nat) (h : Ents v F u l) (hF : ∀ b, F b → W ≤ b ∧ b < v.heap.size ∧ b ≠ k) : Ents (v.setCell ⟨k, 0, none⟩ x) (Bet W (v.setCell ⟨k, 0, none⟩ x).heap.size) u l := by
  refine (h.stand (X := fun b => b = k) entE_ok ((Chg.refl (fun b => b = k) v).setCell (p := ⟨k, 0, none⟩) rfl _) ?_).wide ?_ ?_
  · intro b hb e; exact (hF b hb).2.2 e
  · intro b hb; have := hF b hb; exact ⟨this.1, by simp [World.setCell]; omega⟩
  · intro b hb; exact hb.2
end Go.Proofs.YtmlklnimoknojaaGreatDoor

namespace Go.Proofs.YtmlklnimoknojaaGreatDoor
open Go Go.RowKit
set_option maxHeartbeats 4000000
set_option maxRecDepth 100000
/-- the boxes of l6Put -/
def PBx (W : Nat) (dv x : Value) (t : Str) (u : Value) (v : World) : Prop :=
  v.cell? ⟨W, 0, none⟩ = some dv ∧ v.cell? ⟨W + 1, 0, none⟩ = some x ∧ v.cell? ⟨W + 1, 1, none⟩ = some (.string (S t)) ∧ v.cell? ⟨W + 2, 0, none⟩ = some (.slice none 0 0) ∧ v.cell? ⟨W + 3, 0, none⟩ = some u ∧ v.frozen? ⟨W + 2, 0, none⟩ = false ∧ v.frozen? ⟨W + 3, 0, none⟩ = false
theorem PBx.step {W : Nat} {dv x u : Value} {t : Str} {v v' : World} (h : PBx W dv x t u v) (hb : Below (W + 4) v v') : PBx W dv x t u v' := by
  obtain ⟨h1, h2, h3, h4, h5, h6, h7⟩ := h
  exact ⟨(hb.cell (p := ⟨W, 0, none⟩) (by show W < W + 4; omega)).trans h1, (hb.cell (p := ⟨W + 1, 0, none⟩) (by show W + 1 < W + 4; omega)).trans h2, (hb.cell (p := ⟨W + 1, 1, none⟩) (by show W + 1 < W + 4; omega)).trans h3, (hb.cell (p := ⟨W + 2, 0, none⟩) (by show W + 2 < W + 4; omega)).trans h4, (hb.cell (p := ⟨W + 3, 0, none⟩) (by show W + 3 < W + 4; omega)).trans h5,
    (hb.frozen (p := ⟨W + 2, 0, none⟩) (by show W + 2 < W + 4; omega)).trans h6, (hb.frozen (p := ⟨W + 3, 0, none⟩) (by show W + 3 < W + 4; omega)).trans h7⟩
theorem PBx.put {W : Nat} {dv x u u' : Value} {t : Str} {v : World} (h : PBx W dv x t u v) : PBx W dv x t u' (v.setCell ⟨W + 3, 0, none⟩ u') := by
  obtain ⟨h1, h2, h3, h4, h5, h6, h7⟩ := h
  have e : ∀ b o, b ≠ W + 3 → (v.setCell ⟨W + 3, 0, none⟩ u').cell? ⟨b, o, none⟩ = v.cell? ⟨b, o, none⟩ := fun b o hb => World.cell?_setCell_other _ _ _ _ (by intro e; injection e; omega)
  exact ⟨(e _ _ (by omega)).trans h1, (e _ _ (by omega)).trans h2, (e _ _ (by omega)).trans h3, (e _ _ (by omega)).trans h4, World.cell?_setCell_same _ _ _ h5, by simpa using h6, by simpa using h7⟩
/-- the entry made ahead, in its box -/
def OBx (C : Nat) (y : Value) (t : Str) (v : World) : Prop := v.cell? ⟨C, 0, none⟩ = some y ∧ v.cell? ⟨C, 1, none⟩ = some (.string (S t)) ∧ C < v.heap.size
theorem OBx.step {C B : Nat} {y : Value} {t : Str} {v v' : World} (h : OBx C y t v) (hb : Below B v v') (hC : C < B) : OBx C y t v' :=
  ⟨(hb.cell (p := ⟨C, 0, none⟩) hC).trans h.1, (hb.cell (p := ⟨C, 1, none⟩) hC).trans h.2.1, Nat.lt_of_lt_of_le h.2.2 hb.size⟩
/-- blocks made ahead, if they are in the row -/
def RP (put : Bool) (F : Blk) : Blk := fun b => put = true ∧ F b
/-- what is fixed in the loop of l6Put -/
structure PFix (W C B1 : Nat) (F : Blk) : Prop where
  b1 : W + 4 ≤ B1
  c0 : W + 4 ≤ C
  c1 : C < B1
  f : ∀ b, F b → W + 4 ≤ b ∧ b < B1 ∧ b ≠ C
/-- how the loop of l6Put stands -/
def PInv (w : World) (dv x : Value) (o : List Int) (t : Str) (C : Nat) (y : Value) (F : Blk) (B1 : Nat) (put : Bool) (row : P.Dic) (u : Value) (xs : List Value) (v : World) : Prop :=
  PBx w.heap.size dv x t u v ∧ OBx C y t v ∧ (put = false → Ints v F y o) ∧ AccR 47 2 entE B1 (RP put F) v u row xs ∧ Below w.heap.size w v
section
variable {w v v1 v2 v3 : World} {dv x y u : Value} {o : List Int} {t : Str} {C B1 : Nat} {F : Blk} {put put' : Bool} {row : P.Dic} {xs : List Value}
theorem PInv.size (h : PInv w dv x o t C y F B1 put row u xs v) : B1 ≤ v.heap.size := h.2.2.2.1.size
theorem PInv.below (h : PInv w dv x o t C y F B1 put row u xs v) (hf : PFix w.heap.size C B1 F) (hb : Below v.heap.size v v1) : PInv w dv x o t C y F B1 put row u xs v1 := by
  have hz := h.size
  have h1 := hf.b1; have h2 := hf.c1
  obtain ⟨p1, p2, p3, p4, p5⟩ := h
  exact ⟨p1.step (hb.mono (by omega)), p2.step hb (by omega), fun e => (p3 e).below intE_ok hb, p4.keep entE_ok hb, p5.trans (hb.mono (by omega))⟩
theorem PInv.done (h : PInv w dv x o t C y F B1 put row u xs v) (hf : PFix w.heap.size C B1 F) (z : Value) (hl : row.length ≤ 2 ^ 30) : Ents (v.setCell ⟨w.heap.size + 2, 0, none⟩ z) (Bet w.heap.size (v.setCell ⟨w.heap.size + 2, 0, none⟩ z).heap.size) u row ∧ Below w.heap.size w (v.setCell ⟨w.heap.size + 2, 0, none⟩ z) := by
  have h1 := hf.b1
  refine ⟨ents_done (w.heap.size + 2) (h.2.2.2.1.row hl) fun b hb => ?_, h.2.2.2.2.setCell (by simp) _⟩
  rcases hb.1 with h2 | h2
  · have := hb.2; omega
  · have := (hf.f b h2.2).1; have := hb.2; omega
/-- one entry more, and the result's new slice is stored -/
theorem PInv.app (h : PInv w dv x o t C y F B1 put row u xs v) (hf : PFix w.heap.size C B1 F) {F' : Blk} {cs : List Value} {a : P.Ent} {g cap : Nat} (hb1 : Below v.heap.size v v1) (hF' : ∀ b, F' b → (v.heap.size ≤ b ∨ (RP put' F b ∧ ¬ RP put F b)) ∧ b < v1.heap.size) (hpp : put = true → put' = true)
    (ha : entE v1 F' cs a) (hw : cs.length = 2) (hb2 : Below v1.heap.size v1 v2)
    (hown : v3.ownsRow B1 47 2 (.slice (some ⟨g, 0, none⟩) (row.length + 1) cap) (row.length + 1) (xs ++ cs)) (hgr : v2.grownBy v3 u.ownBlock) (hat : u.ownBlock = some g ∨ g = v2.heap.size) :
    PInv w dv x o t C y F B1 put' (row ++ [a]) (.slice (some ⟨g, 0, none⟩) (row.length + 1) cap) (xs ++ cs) (v3.setCell ⟨w.heap.size + 3, 0, none⟩ (.slice (some ⟨g, 0, none⟩) (row.length + 1) cap)) := by
  have hz := h.size
  have f1 := hf.b1; have f2 := hf.c1; have f3 := hf.c0
  obtain ⟨p1, p2, p3, p4, p5⟩ := h
  have hRb : ∀ q b, RP q F b → b < B1 := fun q b hb => (hf.f b hb.2).2.1
  have hac := p4.snoc (R' := RP put' F) (a := a) entE_ok hb1 hF' (fun b hb => ⟨hpp hb.1, hb.2⟩) (hRb put') ha hw hb2 hown hgr hat
  have hz1 := hb1.size; have hz2 := hb2.size
  have hb3 : Below B1 v2 v3 := (Below.refl _ _).grown hgr (by omega) (fun k hk => (World.ownsRow.lt p4.owns k hk).1)
  have hbv : Below B1 v v3 := (hb1.mono hz).trans ((hb2.mono (by omega)).trans hb3)
  have hc : Chg (fun b => b = w.heap.size + 3) v3 (v3.setCell ⟨w.heap.size + 3, 0, none⟩ (.slice (some ⟨g, 0, none⟩) (row.length + 1) cap)) := (Chg.refl (fun b => b = w.heap.size + 3) v3).setCell (p := ⟨w.heap.size + 3, 0, none⟩) rfl _
  refine ⟨(p1.step (hbv.mono f1)).put, ?_, fun e => ?_, ?_, (p5.trans (hbv.mono (by omega))).setCell (by simp) _⟩
  · have h2 := p2.step hbv f2
    exact ⟨(hc.cell (p := ⟨C, 0, none⟩) h2.2.2 (by show C ≠ _; omega)).trans h2.1, (hc.cell (p := ⟨C, 1, none⟩) h2.2.2 (by show C ≠ _; omega)).trans h2.2.1, by simpa [World.setCell] using h2.2.2⟩
  · have e0 : put = false := by
      cases hp : put with
      | false => rfl
      | true => rw [hpp hp] at e; cases e
    have q := p3 e0
    have q3 : Ints v3 F y o := q.keep intE_ok ⟨hbv.size, fun b hb => hbv.block b (hf.f b hb).2.1⟩
    exact q3.stand intE_ok hc (fun b hb e => by have := (hf.f b hb).1; omega)
  · exact hac.stand entE_ok hc (fun b hb => ⟨by rw [hb]; omega, fun hr => by have := (hf.f b hr.2).1; rw [hb] at this; omega⟩)
end
/-- what region 3 of l6Put keeps -/
def KR3 (W : Nat) (x : Value) (t : Str) (v : World) : Prop := v.cell? ⟨W + 1, 0, none⟩ = some x ∧ v.cell? ⟨W + 1, 1, none⟩ = some (.string (S t))
theorem KR3.step {W : Nat} {x : Value} {t : Str} {v v' : World} (h : KR3 W x t v) (hb : Below (W + 4) v v') : KR3 W x t v' :=
  ⟨(hb.cell (p := ⟨W + 1, 0, none⟩) (by show W + 1 < W + 4; omega)).trans h.1, (hb.cell (p := ⟨W + 1, 1, none⟩) (by show W + 1 < W + 4; omega)).trans h.2⟩
/-- what region 7 of l6Put keeps -/
def KR7 (W : Nat) (dv x : Value) (g p : Nat) (xe : Value) (v : World) : Prop := v.cell? ⟨W, 0, none⟩ = some dv ∧ v.cell? ⟨W + 1, 0, none⟩ = some x ∧ v.cell? ⟨g, p, none⟩ = some xe ∧ g < W
theorem KR7.step {W : Nat} {dv x : Value} {g p : Nat} {xe : Value} {v v' : World} (h : KR7 W dv x g p xe v) (hb : Below (W + 4) v v') : KR7 W dv x g p xe v' := by
  obtain ⟨h1, h2, h3, h4⟩ := h
  exact ⟨(hb.cell (p := ⟨W, 0, none⟩) (by show W < W + 4; omega)).trans h1, (hb.cell (p := ⟨W + 1, 0, none⟩) (by show W + 1 < W + 4; omega)).trans h2, (hb.cell (p := ⟨g, p, none⟩) (by show g < W + 4; omega)).trans h3, h4⟩
/-- what region 12 of l6Put keeps -/
def KRP (W : Nat) (dv u : Value) (g p : Nat) (x : Value) (et : Str) (v : World) : Prop :=
  v.cell? ⟨W, 0, none⟩ = some dv ∧ v.cell? ⟨W + 3, 0, none⟩ = some u ∧ v.cell? ⟨g, p, none⟩ = some x ∧ v.cell? ⟨g, p + 1, none⟩ = some (.string (S et)) ∧ v.frozen? ⟨W + 3, 0, none⟩ = false ∧ g < W
theorem KRP.step {W : Nat} {dv u : Value} {g p : Nat} {x : Value} {et : Str} {v v' : World} (h : KRP W dv u g p x et v) (hb : Below (W + 4) v v') : KRP W dv u g p x et v' := by
  obtain ⟨h1, h2, h3, h4, h5, h6⟩ := h
  exact ⟨(hb.cell (p := ⟨W, 0, none⟩) (by show W < W + 4; omega)).trans h1, (hb.cell (p := ⟨W + 3, 0, none⟩) (by show W + 3 < W + 4; omega)).trans h2, (hb.cell (p := ⟨g, p, none⟩) (by show g < W + 4; omega)).trans h3,
    (hb.cell (p := ⟨g, p + 1, none⟩) (by show g < W + 4; omega)).trans h4, (hb.frozen (p := ⟨W + 3, 0, none⟩) (by show W + 3 < W + 4; omega)).trans h5, h6⟩
end Go.Proofs.YtmlklnimoknojaaGreatDoor
