/- Walks: the library's stable sort, on a row that is in order: insertion. Walks: the library's stable sort, on a row that is in order: a merge. Walks: the library's stable sort, on a row that is in order. -/
import Derived.Deep.DeepCutAuto
import Derived.IntWalk
import Derived.Test.YtojcfpjoikmgcaaGreatDoorMemD
import Derived.Test.YtojcfpjoikmgcaaGreatDoorValD
namespace Go.Proofs.YtojcfpjoikmgcaaGreatDoor
section
namespace P
end P
open Go Go.RowKit
set_option maxHeartbeats 1000000
set_option maxRecDepth 100000
/-- two entries of a row, as a comparison reads them -/
def KC (B : Nat) (w : World) (g p : Nat) (x : Value) (eo : List Int) (et : Str) (q : Nat) (y : Value) (fo : List Int) (ft : Str) (v : World) : Prop :=
  v.cell? ⟨g, p, none⟩ = some x ∧ v.cell? ⟨g, p + 1, none⟩ = some (.string (S et)) ∧ v.cell? ⟨g, q, none⟩ = some y ∧ v.cell? ⟨g, q + 1, none⟩ = some (.string (S ft)) ∧ g < v.heap.size ∧ IntR v x eo ∧ IntR v y fo ∧ B ≤ v.heap.size ∧ Below B w v
theorem KC.step {B : Nat} {w v v' : World} {g p q : Nat} {x y : Value} {eo fo : List Int} {et ft : Str} (h : KC B w g p x eo et q y fo ft v) (hb : Below v.heap.size v v') : KC B w g p x eo et q y fo ft v' := by
  obtain ⟨h1, h2, h3, h4, h5, h6, h7, h8, h9⟩ := h
  exact ⟨(hb.cell (p := ⟨g, p, none⟩) h5).trans h1, (hb.cell (p := ⟨g, p + 1, none⟩) h5).trans h2, (hb.cell (p := ⟨g, q, none⟩) h5).trans h3, (hb.cell (p := ⟨g, q + 1, none⟩) h5).trans h4,
    Nat.lt_of_lt_of_le h5 hb.size, h6.below hb, h7.below hb, Nat.le_trans h8 hb.size, h9.trans (hb.mono h8)⟩
/-- how two entries of a row read -/
theorem EntR.two {w v : World} {B g o cap : Nat} {l : P.Dic} (h : EntR w (.slice (some ⟨g, o, none⟩) l.length cap) l) (hz : w.heap.size ≤ B) (hb : Below B w v) (hB : B ≤ v.heap.size) (i j : Nat) (hi : i < l.length) (hj : j < l.length) :
    ∃ x xd xc y yd yc, x = .slice xd (l[i]'hi).1.length xc ∧ y = .slice yd (l[j]'hj).1.length yc ∧ KC B w g (o + i * 2) x (l[i]'hi).1 (l[i]'hi).2 (o + j * 2) y (l[j]'hj).1 (l[j]'hj).2 v := by
  have h' := h.below (hb.mono hz)
  obtain ⟨g1, o1, e1, hg, x, a0, a1, hx⟩ := h'.at i hi
  obtain ⟨g2, o2, e2, _, y, b0, b1, hy⟩ := h'.at j hj
  injection e1 with e1; injection e1 with e1 e1' _
  injection e2 with e2; injection e2 with e2 e2' _
  subst e1 e1' e2 e2'
  obtain ⟨xd, xc, hxe, _⟩ := id hx
  obtain ⟨yd, yc, hye, _⟩ := id hy
  exact ⟨x, xd, xc, y, yd, yc, hxe, hye, a0, a1, b0, b1, hg, hx, hy, hB, hb⟩
end
section
open Go Go.RowKit
set_option maxHeartbeats 2000000
set_option maxRecDepth 100000
end
section
open Go Go.RowKit
set_option maxHeartbeats 2000000
set_option maxRecDepth 100000
end
end Go.Proofs.YtojcfpjoikmgcaaGreatDoor
