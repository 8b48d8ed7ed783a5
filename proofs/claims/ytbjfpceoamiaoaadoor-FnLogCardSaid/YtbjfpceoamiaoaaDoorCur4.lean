/- Walks: the cursor draws a record. -/
import Derived.Test.YtbjfpceoamiaoaaDoorCur3
namespace Go.Proofs.YtbjfpceoamiaoaaDoor
open Go Go.RowKit
set_option maxHeartbeats 1000000
set_option maxRecDepth 100000
/-- a step that leaves the cursor's block and the bytes below B as they are keeps the cursor -/
theorem IsCur.keep {B C K : Nat} {v v' : World} (h : IsCur B C K v) (hc : ∀ b o, b < v.heap.size → (b = C ∨ b < B) → v'.cell? ⟨b, o, none⟩ = v.cell? ⟨b, o, none⟩) (hf : ∀ o, v'.frozen? ⟨C, o, none⟩ = v.frozen? ⟨C, o, none⟩) (hz : v.heap.size ≤ v'.heap.size) : IsCur B C K v' := by
  obtain ⟨ad, m, cap, a, s, c0, c1, c2, f1, f2, ha, hn, hs0, hs1, hBC, hC, hcode⟩ := h
  refine ⟨ad, m, cap, a, s, (hc C 0 hC (.inl rfl)).trans c0, (hc C 1 hC (.inl rfl)).trans c1, (hc C 2 hC (.inl rfl)).trans c2, (hf 1).trans f1, (hf 2).trans f2, ha, hn, hs0, hs1, hBC, Nat.lt_of_lt_of_le hC hz, ?_⟩
  rcases hcode with h | ⟨g, o, h1, h2, h3⟩
  · exact .inl h
  · refine .inr ⟨g, o, h1, h2, fun j hj => ?_⟩
    obtain ⟨b, hb, hcb⟩ := h3 j hj
    exact ⟨b, hb, (hc g _ (by omega) (.inr h2)).trans hcb⟩
theorem IsCur.lt {B C K : Nat} {v : World} (h : IsCur B C K v) : B ≤ C ∧ C < v.heap.size := by
  obtain ⟨ad, m, cap, a, s, c0, c1, c2, f1, f2, ha, hn, hs0, hs1, hBC, hC, hcode⟩ := h
  exact ⟨hBC, hC⟩
theorem CurPost.alloc {B C K : Nat} {u v : World} (h : CurPost B C K u v) (o : Obj) : CurPost B C K u (v.alloc o) := by
  obtain ⟨h1, h2, h3⟩ := h
  have hl := h1.lt
  have hcell : ∀ b i, b < v.heap.size → (v.alloc o).cell? ⟨b, i, none⟩ = v.cell? ⟨b, i, none⟩ := fun b i hb => World.cell?_alloc_lt _ _ _ hb
  have hb : Below v.heap.size v (v.alloc o) := (Below.refl _ _).alloc (Nat.le_refl _) o
  have hfro : ∀ b i, b < v.heap.size → (v.alloc o).frozen? ⟨b, i, none⟩ = v.frozen? ⟨b, i, none⟩ := fun b i hb' => hb.frozen (p := ⟨b, i, none⟩) hb'
  refine ⟨h1.keep (fun b i hb _ => hcell b i hb) (fun i => hfro C i hl.2) (by simp), ⟨fun b i x1 x2 => (hcell b i (Nat.lt_of_lt_of_le x1 h2.2.2)).trans (h2.1 b i x1 x2), fun b i x1 x2 => (hfro b i (Nat.lt_of_lt_of_le x1 h2.2.2)).trans (h2.2.1 b i x1 x2), Nat.le_trans h2.2.2 (by simp)⟩, h3.alloc (by omega) o⟩
theorem CurPost.set {B C K g i : Nat} {u v : World} (h : CurPost B C K u v) (hg : u.heap.size ≤ g) (hgC : g ≠ C) (hgB : B ≤ g) (x : Value) : CurPost B C K u (v.setCell ⟨g, i, none⟩ x) := by
  obtain ⟨h1, h2, h3⟩ := h
  have hcell : ∀ b j, b ≠ g → (v.setCell ⟨g, i, none⟩ x).cell? ⟨b, j, none⟩ = v.cell? ⟨b, j, none⟩ := fun b j hb => World.cell?_setCell_other _ _ _ _ (by intro e; injection e; omega)
  refine ⟨h1.keep (fun b j _ hb => hcell b j (by omega)) (fun j => by simp) (by simp), ⟨fun b j x1 x2 => (hcell b j (by omega)).trans (h2.1 b j x1 x2), fun b j x1 x2 => by rw [← h2.2.1 b j x1 x2]; simp, by simpa using h2.2.2⟩, h3.setCell (p := ⟨g, i, none⟩) hgB x⟩
end Go.Proofs.YtbjfpceoamiaoaaDoor
