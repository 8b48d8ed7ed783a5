/- Walks: the reference's insertion into a dictionary. -/
import Derived.Deep.DeepCutAuto
import Derived.Deep.RegionLaw
import Derived.Deep.RegionHeld
import Derived.Test.YtonhkglilnplbaaGreatDoorPut1
import Derived.Test.YtonhkglilnplbaaGreatDoorOutD
import Derived.Test.YtonhkglilnplbaaGreatDoorIns1
set_option linter.all false
namespace Go.Proofs.YtonhkglilnplbaaGreatDoor
open Go Go.RowKit
set_option maxHeartbeats 4000000
set_option maxRecDepth 100000
/-- the boxes of l6Put -/
def PBx (W : Nat) (dv x : Value) (t : Str) (u : Value) (v : World) : Prop :=
  v.cell? ⟨W, 0, none⟩ = some dv ∧ v.cell? ⟨W + 1, 0, none⟩ = some x ∧ v.cell? ⟨W + 1, 1, none⟩ = some (.string (S t)) ∧ v.cell? ⟨W + 2, 0, none⟩ = some (.slice none 0 0) ∧ v.cell? ⟨W + 3, 0, none⟩ = some u ∧ v.frozen? ⟨W + 2, 0, none⟩ = false ∧ v.frozen? ⟨W + 3, 0, none⟩ = false
theorem PBx.step {W : Nat} {dv x u : Value} {t : Str} {v v' : World} (h : PBx W dv x t u v) (hb : Below (W + 4) v v') : PBx W dv x t u v' := by
  obtain ⟨h1, h2, h3, h4, h5, h6, h7⟩ := h
  exact ⟨(hb.cell (p := ⟨W, 0, none⟩) (by show W < W + 4; omega)).trans h1, (hb.cell (p := ⟨W + 1, 0, none⟩) (by show W + 1 < W + 4; omega)).trans h2, (hb.cell (p := ⟨W + 1, 1, none⟩) (by show W + 1 < W + 4; omega)).trans h3, (hb.cell (p := ⟨W + 2, 0, none⟩) (by show W + 2 < W + 4; omega)).trans h4, (hb.cell (p := ⟨W + 3, 0, none⟩) (by show W + 3 < W + 4; omega)).trans h5,
    (hb.frozen (p := ⟨W + 2, 0, none⟩) (by show W + 2 < W + 4; omega)).trans h6, (hb.frozen (p := ⟨W + 3, 0, none⟩) (by show W + 3 < W + 4; omega)).trans h7⟩
theorem PBx.put {W : Nat} {dv x u u' : Value} {t : Str} {v : World} (h : PBx W dv x t u v) : PBx W dv x t u' (v.setCell ⟨W + 3, 0, none⟩ u') := by
  obtain ⟨h1, h2, h3, h4, h5, h6, h7⟩ := h
  have e : ∀ b o, b ≠ W + 3 → (v.setCell ⟨W + 3, 0, none⟩ u').cell? ⟨b, o, none⟩ = v.cell? ⟨b, o, none⟩ := fun b o hb => World.cell?_setCell_other _ _ _ _ (by intro e; injection e; omega)
  exact ⟨(e _ _ (by omega)).trans h1, (e _ _ (by omega)).trans h2, (e _ _ (by omega)).trans h3, (e _ _ (by omega)).trans h4, World.cell?_setCell_same _ _ _ h5, by simpa using h6, by simpa using h7⟩
/-- the entry made ahead, in its box -/
def OBx (C : Nat) (y : Value) (t : Str) (v : World) : Prop := v.cell? ⟨C, 0, none⟩ = some y ∧ v.cell? ⟨C, 1, none⟩ = some (.string (S t)) ∧ C < v.heap.size
theorem OBx.step {C B : Nat} {y : Value} {t : Str} {v v' : World} (h : OBx C y t v) (hb : Below B v v') (hC : C < B) : OBx C y t v' :=
  ⟨(hb.cell (p := ⟨C, 0, none⟩) hC).trans h.1, (hb.cell (p := ⟨C, 1, none⟩) hC).trans h.2.1, Nat.lt_of_lt_of_le h.2.2 hb.size⟩
/-- blocks made ahead, if they are in the row -/
def RP (put : Bool) (F : Blk) : Blk := fun b => put = true ∧ F b
/-- what is fixed in the loop of l6Put -/
structure PFix (W C B1 : Nat) (F : Blk) : Prop where
  b1 : W + 4 ≤ B1
  c0 : W + 4 ≤ C
  c1 : C < B1
  f : ∀ b, F b → W + 4 ≤ b ∧ b < B1 ∧ b ≠ C
/-- how the loop of l6Put stands -/
def PInv (w : World) (dv x : Value) (o : List Int) (t : Str) (C : Nat) (y : Value) (F : Blk) (B1 : Nat) (put : Bool) (row : P.Dic) (u : Value) (xs : List Value) (v : World) : Prop :=
  PBx w.heap.size dv x t u v ∧ OBx C y t v ∧ (put = false → Ints v F y o) ∧ AccR 36 2 entE B1 (RP put F) v u row xs ∧ Below w.heap.size w v
section
variable {w v v1 v2 v3 : World} {dv x y u : Value} {o : List Int} {t : Str} {C B1 : Nat} {F : Blk} {put put' : Bool} {row : P.Dic} {xs : List Value}
theorem PInv.size (h : PInv w dv x o t C y F B1 put row u xs v) : B1 ≤ v.heap.size := h.2.2.2.1.size
theorem PInv.below (h : PInv w dv x o t C y F B1 put row u xs v) (hf : PFix w.heap.size C B1 F) (hb : Below v.heap.size v v1) : PInv w dv x o t C y F B1 put row u xs v1 := by
  have hz := h.size
  have h1 := hf.b1; have h2 := hf.c1
  obtain ⟨p1, p2, p3, p4, p5⟩ := h
  exact ⟨p1.step (hb.mono (by omega)), p2.step hb (by omega), fun e => (p3 e).below intE_ok hb, p4.keep entE_ok hb, p5.trans (hb.mono (by omega))⟩
theorem PInv.done (h : PInv w dv x o t C y F B1 put row u xs v) (hf : PFix w.heap.size C B1 F) (z : Value) (hl : row.length ≤ 2 ^ 30) : Ents (v.setCell ⟨w.heap.size + 2, 0, none⟩ z) (Bet w.heap.size (v.setCell ⟨w.heap.size + 2, 0, none⟩ z).heap.size) u row ∧ Below w.heap.size w (v.setCell ⟨w.heap.size + 2, 0, none⟩ z) := by
  have h1 := hf.b1
  refine ⟨ents_done (w.heap.size + 2) (h.2.2.2.1.row hl) fun b hb => ?_, h.2.2.2.2.setCell (by simp) _⟩
  rcases hb.1 with h2 | h2
  · have := hb.2; omega
  · have := (hf.f b h2.2).1; have := hb.2; omega
/-- one entry more, and the result's new slice is stored -/
theorem PInv.app (h : PInv w dv x o t C y F B1 put row u xs v) (hf : PFix w.heap.size C B1 F) {F' : Blk} {cs : List Value} {a : P.Ent} {g cap : Nat} (hb1 : Below v.heap.size v v1) (hF' : ∀ b, F' b → (v.heap.size ≤ b ∨ (RP put' F b ∧ ¬ RP put F b)) ∧ b < v1.heap.size) (hpp : put = true → put' = true)
    (ha : entE v1 F' cs a) (hw : cs.length = 2) (hb2 : Below v1.heap.size v1 v2)
    (hown : v3.ownsRow B1 36 2 (.slice (some ⟨g, 0, none⟩) (row.length + 1) cap) (row.length + 1) (xs ++ cs)) (hgr : v2.grownBy v3 u.ownBlock) (hat : u.ownBlock = some g ∨ g = v2.heap.size) :
    PInv w dv x o t C y F B1 put' (row ++ [a]) (.slice (some ⟨g, 0, none⟩) (row.length + 1) cap) (xs ++ cs) (v3.setCell ⟨w.heap.size + 3, 0, none⟩ (.slice (some ⟨g, 0, none⟩) (row.length + 1) cap)) := by
  have hz := h.size
  have f1 := hf.b1; have f2 := hf.c1; have f3 := hf.c0
  obtain ⟨p1, p2, p3, p4, p5⟩ := h
  have hRb : ∀ q b, RP q F b → b < B1 := fun q b hb => (hf.f b hb.2).2.1
  have hac := p4.snoc (R' := RP put' F) (a := a) entE_ok hb1 hF' (fun b hb => ⟨hpp hb.1, hb.2⟩) (hRb put') ha hw hb2 hown hgr hat
  have hz1 := hb1.size; have hz2 := hb2.size
  have hb3 : Below B1 v2 v3 := (Below.refl _ _).grown hgr (by omega) (fun k hk => (World.ownsRow.lt p4.owns k hk).1)
  have hbv : Below B1 v v3 := (hb1.mono hz).trans ((hb2.mono (by omega)).trans hb3)
  have hc : Chg (fun b => b = w.heap.size + 3) v3 (v3.setCell ⟨w.heap.size + 3, 0, none⟩ (.slice (some ⟨g, 0, none⟩) (row.length + 1) cap)) := (Chg.refl (fun b => b = w.heap.size + 3) v3).setCell (p := ⟨w.heap.size + 3, 0, none⟩) rfl _
  refine ⟨(p1.step (hbv.mono f1)).put, ?_, fun e => ?_, ?_, (p5.trans (hbv.mono (by omega))).setCell (by simp) _⟩
  · have h2 := p2.step hbv f2
    exact ⟨(hc.cell (p := ⟨C, 0, none⟩) h2.2.2 (by show C ≠ _; omega)).trans h2.1, (hc.cell (p := ⟨C, 1, none⟩) h2.2.2 (by show C ≠ _; omega)).trans h2.2.1, by simpa [World.setCell] using h2.2.2⟩
  · have e0 : put = false := by
      cases hp : put with
      | false => rfl
      | true => rw [hpp hp] at e; cases e
    have q := p3 e0
    have q3 : Ints v3 F y o := q.keep intE_ok ⟨hbv.size, fun b hb => hbv.block b (hf.f b hb).2.1⟩
    exact q3.stand intE_ok hc (fun b hb e => by have := (hf.f b hb).1; omega)
  · exact hac.stand entE_ok hc (fun b hb => ⟨by rw [hb]; omega, fun hr => by have := (hf.f b hr.2).1; rw [hb] at this; omega⟩)
end
/-- what region 3 of l6Put keeps -/
def KR3 (W : Nat) (x : Value) (t : Str) (v : World) : Prop := v.cell? ⟨W + 1, 0, none⟩ = some x ∧ v.cell? ⟨W + 1, 1, none⟩ = some (.string (S t))
theorem KR3.step {W : Nat} {x : Value} {t : Str} {v v' : World} (h : KR3 W x t v) (hb : Below (W + 4) v v') : KR3 W x t v' :=
  ⟨(hb.cell (p := ⟨W + 1, 0, none⟩) (by show W + 1 < W + 4; omega)).trans h.1, (hb.cell (p := ⟨W + 1, 1, none⟩) (by show W + 1 < W + 4; omega)).trans h.2⟩
/-- what region 7 of l6Put keeps -/
def KR7 (W : Nat) (dv x : Value) (g p : Nat) (xe : Value) (v : World) : Prop := v.cell? ⟨W, 0, none⟩ = some dv ∧ v.cell? ⟨W + 1, 0, none⟩ = some x ∧ v.cell? ⟨g, p, none⟩ = some xe ∧ g < W
theorem KR7.step {W : Nat} {dv x : Value} {g p : Nat} {xe : Value} {v v' : World} (h : KR7 W dv x g p xe v) (hb : Below (W + 4) v v') : KR7 W dv x g p xe v' := by
  obtain ⟨h1, h2, h3, h4⟩ := h
  exact ⟨(hb.cell (p := ⟨W, 0, none⟩) (by show W < W + 4; omega)).trans h1, (hb.cell (p := ⟨W + 1, 0, none⟩) (by show W + 1 < W + 4; omega)).trans h2, (hb.cell (p := ⟨g, p, none⟩) (by show g < W + 4; omega)).trans h3, h4⟩
/-- what region 12 of l6Put keeps -/
def KRP (W : Nat) (dv u : Value) (g p : Nat) (x : Value) (et : Str) (v : World) : Prop :=
  v.cell? ⟨W, 0, none⟩ = some dv ∧ v.cell? ⟨W + 3, 0, none⟩ = some u ∧ v.cell? ⟨g, p, none⟩ = some x ∧ v.cell? ⟨g, p + 1, none⟩ = some (.string (S et)) ∧ v.frozen? ⟨W + 3, 0, none⟩ = false ∧ g < W
theorem KRP.step {W : Nat} {dv u : Value} {g p : Nat} {x : Value} {et : Str} {v v' : World} (h : KRP W dv u g p x et v) (hb : Below (W + 4) v v') : KRP W dv u g p x et v' := by
  obtain ⟨h1, h2, h3, h4, h5, h6⟩ := h
  exact ⟨(hb.cell (p := ⟨W, 0, none⟩) (by show W < W + 4; omega)).trans h1, (hb.cell (p := ⟨W + 3, 0, none⟩) (by show W + 3 < W + 4; omega)).trans h2, (hb.cell (p := ⟨g, p, none⟩) (by show g < W + 4; omega)).trans h3,
    (hb.cell (p := ⟨g, p + 1, none⟩) (by show g < W + 4; omega)).trans h4, (hb.frozen (p := ⟨W + 3, 0, none⟩) (by show W + 3 < W + 4; omega)).trans h5, h6⟩
end Go.Proofs.YtonhkglilnplbaaGreatDoor
