/- Tries as they are read and owned: rows of nodes. The law's own functions on tries: a copy, a size, whether they are equal. -/
import Derived.Deep.DeepCutAuto
import Derived.Test.YtkjidjomlpnnlaaGreatDoorMemE
import Derived.Test.YtkjidjomlpnnlaaGreatDoorPlainTrie
namespace Go.Proofs.YtkjidjomlpnnlaaGreatDoor
section
open Go Go.RowKit
set_option maxHeartbeats 1000000
set_option maxRecDepth 100000
/-- a slice of nodes, as it is read -/
def NodR (v : World) (u : Value) (l : P.Tri) : Prop :=
  ∃ (ad : Option Addr) (cap : Nat), u = .slice ad l.length cap ∧ (l.length ≤ 2 ^ 45 ∧ l.length ≤ cap) ∧ (ad = none → cap = 0) ∧ (l = [] ∨ ∃ g o, ad = some ⟨g, o, none⟩ ∧ g < v.heap.size ∧ ∀ (j : Nat) (h : j < l.length), ∃ x y, v.cell? ⟨g, o + j * 4, none⟩ = some x ∧ v.cell? ⟨g, o + j * 4 + 1, none⟩ = some y ∧ v.cell? ⟨g, o + j * 4 + 2, none⟩ = some (.bool (l[j]'h).2.2.1) ∧ v.cell? ⟨g, o + j * 4 + 3, none⟩ = some (.string (S (l[j]'h).2.2.2)) ∧ IntR v x (l[j]'h).1 ∧ IntR v y (l[j]'h).2.1)
theorem NodR.below {v v' : World} {u : Value} {l : P.Tri} (h : NodR v u l) (hb : Below v.heap.size v v') : NodR v' u l := by
  obtain ⟨ad, cap, h1, h2, hn, h3⟩ := h
  refine ⟨ad, cap, h1, h2, hn, h3.imp id ?_⟩
  rintro ⟨g, o, h4, h5, h6⟩
  refine ⟨g, o, h4, Nat.lt_of_lt_of_le h5 hb.size, fun j hj => ?_⟩
  obtain ⟨x, y, a, b, c, d, e, f⟩ := h6 j hj
  exact ⟨x, y, (hb.cell (p := ⟨g, _, none⟩) h5).trans a, (hb.cell (p := ⟨g, _, none⟩) h5).trans b, (hb.cell (p := ⟨g, _, none⟩) h5).trans c, (hb.cell (p := ⟨g, _, none⟩) h5).trans d, e.below hb, f.below hb⟩
theorem NodR.at {v : World} {ad : Option Addr} {n cap : Nat} {l : P.Tri} (h : NodR v (.slice ad n cap) l) (j : Nat) (hj : j < l.length) : ∃ g o, ad = some ⟨g, o, none⟩ ∧ g < v.heap.size ∧ ∃ x y, v.cell? ⟨g, o + j * 4, none⟩ = some x ∧ v.cell? ⟨g, o + j * 4 + 1, none⟩ = some y ∧ v.cell? ⟨g, o + j * 4 + 2, none⟩ = some (.bool (l[j]'hj).2.2.1) ∧ v.cell? ⟨g, o + j * 4 + 3, none⟩ = some (.string (S (l[j]'hj).2.2.2)) ∧ IntR v x (l[j]'hj).1 ∧ IntR v y (l[j]'hj).2.1 := by
  obtain ⟨ad', cap', he, _, _, h3⟩ := h
  injection he with h1 h2 h4
  rcases h3 with h3 | ⟨g, o, h5, h6, h7⟩
  · rw [h3] at hj; exact absurd hj (Nat.not_lt_zero _)
  · exact ⟨g, o, h1.trans h5, h6, h7 j hj⟩
/-- a node out of its cells -/
def nodE : ElT P.Nd := fun v F cs n => ∃ x y F1 F2, cs = [x, y, .bool n.2.2.1, .string (S n.2.2.2)] ∧ Ints v F1 x n.1 ∧ Ints v F2 y n.2.1 ∧ (∀ b, F1 b → F b) ∧ (∀ b, F2 b → F b) ∧ (∀ b, F1 b → F2 b → False)
theorem nodE_ok : ElOk nodE :=
  ⟨fun ⟨x, y, F1, F2, h, k1, k2, s1, s2, d⟩ hk => ⟨x, y, F1, F2, h, k1.keep intE_ok (hk.mono s1), k2.keep intE_ok (hk.mono s2), s1, s2, d⟩,
   fun ⟨x, y, F1, F2, h, k1, k2, s1, s2, d⟩ hF _ => ⟨x, y, F1, F2, h, k1, k2, fun b hb => hF b (s1 b hb), fun b hb => hF b (s2 b hb), d⟩⟩
abbrev Nods := RowO 4 nodE
theorem Nods.read {v : World} {F : Blk} {u : Value} {l : P.Tri} (h : Nods v F u l) : NodR v u l := by
  obtain ⟨ad, cap, h1, h2, hn, h3⟩ := h
  refine ⟨ad, cap, h1, by omega, hn.1, h3.imp id ?_⟩
  rintro ⟨g, o, G, C, h4, h5⟩
  refine ⟨g, o, h4, h5.lt _ h5.own, fun j hj => ?_⟩
  obtain ⟨x, y, F1, F2, he, hx, hy, _⟩ := h5.el j hj
  have h0 := (h5.cel j hj 0 (by rw [he]; simp)).1
  have h1 := (h5.cel j hj 1 (by rw [he]; simp)).1
  have h2 := (h5.cel j hj 2 (by rw [he]; simp)).1
  have h3 := (h5.cel j hj 3 (by rw [he]; simp)).1
  simp only [he, List.getElem_cons_zero, List.getElem_cons_succ, Nat.add_zero] at h0 h1 h2 h3
  exact ⟨x, y, h0, h1, h2, h3, Ints.read hx, Ints.read hy⟩
end
section
open Go Go.RowKit
set_option maxHeartbeats 1000000
set_option maxRecDepth 100000
theorem info_nod : (Tryz.prog.info? 162).map (fun i => (i.zero, i.size, i.bytes)) = some (some (.agg #[.slice none 0 0, .slice none 0 0, .bool false, .string ⟨#[]⟩]), 4, 72) := by kernel_rfl
/-- a trie of the call's own -/
def TriPost (l : P.Tri) (w : World) (e : Ending) (w' : World) : Prop := ∃ u, e = .returned (.agg #[u]) ∧ Nods w' (Bet w.heap.size w'.heap.size) u l ∧ Below w.heap.size w w'
end
end Go.Proofs.YtkjidjomlpnnlaaGreatDoor
