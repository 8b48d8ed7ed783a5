/- A row of nodes that grows and is written: its elements' blocks are told. How the building of a trie stands: the builder's row of nodes, the node that is being built, its strokes and its children. Parts of a row of entries, as they are read. How a child of a node is built, plain. -/
import Derived.Deep.DeepCutAuto
import Derived.Laws.OwnMore
import Derived.Test.YtkjidjomlpnnlaaGreatDoorTrieA
namespace Go.Proofs.YtkjidjomlpnnlaaGreatDoor
section
section
open Go Go.RowKit
set_option maxHeartbeats 1000000
set_option maxRecDepth 100000
variable {α : Type} {E : ElT α} {wd : Nat}
/-- a row of the call's own that grows, with the blocks and the cells of its elements -/
structure AccY (e : TypeId) (wd : Nat) (E : ElT α) (B : Nat) (v : World) (u : Value) (G : Nat → Blk) (C : Nat → List Value) (l : List α) : Prop where
  owns : v.ownsRow B e wd u l.length (flat C l.length)
  base : B ≤ v.heap.size
  el : ∀ j (h : j < l.length), (C j).length = wd ∧ E v (G j) (C j) (l[j]'h)
  sub : ∀ j, j < l.length → ∀ b, G j b → B ≤ b ∧ b < v.heap.size ∧ u.ownBlock ≠ some b
  apart : ∀ i j, i < j → j < l.length → ∀ b, G i b → G j b → False
variable {e : TypeId} {B : Nat} {v v' : World} {u : Value} {G : Nat → Blk} {C : Nat → List Value} {l : List α}
theorem AccY.nil (h : v.ownsRow B e wd u 0 []) (hB : B ≤ v.heap.size) : AccY e wd E B v u (fun _ _ => False) (fun _ => []) ([] : List α) :=
  ⟨h, hB, fun _ hj => absurd hj (Nat.not_lt_zero _), fun _ hj => absurd hj (Nat.not_lt_zero _), fun _ _ _ hj => absurd hj (Nat.not_lt_zero _)⟩
theorem AccY.acc (h : AccY e wd E B v u G C l) : Acc e wd E B v u l (flat C l.length) := ⟨G, C, rfl, h.owns, h.base, h.el, h.sub, h.apart⟩
theorem AccY.row (h : AccY e wd E B v u G C l) (hl : l.length ≤ 2 ^ 30) : RowO wd E v (Bet B v.heap.size) u l := h.acc.row hl
theorem AccY.form (h : AccY e wd E B v u G C l) : ∃ ad cap, u = .slice ad l.length cap := h.acc.form
theorem AccY.lt (h : AccY e wd E B v u G C l) : ∀ b, u.ownBlock = some b → B ≤ b ∧ b < v.heap.size := World.ownsRow.lt h.owns
/-- other blocks turn -/
theorem AccY.stand (hE : ElOk E) {X : Blk} (h : AccY e wd E B v u G C l) (hb : Chg X v v') (hX : ∀ b, X b → u.ownBlock ≠ some b ∧ ∀ j, j < l.length → ¬ G j b) : AccY e wd E B v' u G C l := by
  refine ⟨?_, Nat.le_trans h.base hb.size, fun j hj => ⟨(h.el j hj).1, hE.keep (h.el j hj).2 ⟨hb.size, fun b hb' => hb.block b (h.sub j hj b hb').2.1 fun hx => (hX b hx).2 j hj hb'⟩⟩, fun j hj b hb' => ⟨(h.sub j hj b hb').1, Nat.lt_of_lt_of_le (h.sub j hj b hb').2.1 hb.size, (h.sub j hj b hb').2.2⟩, h.apart⟩
  refine ⟨h.owns.1, ?_⟩
  rcases h.owns.2 with h5 | ⟨g, cap, cur, hv, hg, hh, r⟩
  · exact .inl h5
  · have hlt := (World.ownsRow.lt h.owns g (by rw [hv]; rfl)).2
    exact .inr ⟨g, cap, cur, hv, hg, by rw [hb.block g hlt (fun hx => (hX g hx).1 (by rw [hv]; rfl))]; exact hh, r⟩
theorem AccY.keep (hE : ElOk E) (h : AccY e wd E B v u G C l) (hb : Below v.heap.size v v') : AccY e wd E B v' u G C l := h.stand hE (Below.chg hb fun _ => False) fun _ h => h.elim
/-- one element more: its memory is none yet -/
theorem AccY.snoc (hE : ElOk E) {v3 : World} (h : AccY e wd E B v u G C l) {cs : List Value} {a : α} {g cap : Nat}
    (ha : E v3 (fun _ => False) cs a) (hw : cs.length = wd)
    (hown : v3.ownsRow B e wd (.slice (some ⟨g, 0, none⟩) (l.length + 1) cap) (l.length + 1) (flat C l.length ++ cs)) (hgr : v.grownBy v3 u.ownBlock) (hat : u.ownBlock = some g ∨ g = v.heap.size) :
    AccY e wd E B v3 (.slice (some ⟨g, 0, none⟩) (l.length + 1) cap) (fun j b => j < l.length ∧ G j b) (fun j => if j = l.length then cs else C j) (l ++ [a]) := by
  have hub : ∀ b, u.ownBlock = some b → b < v.heap.size := fun b hb => (World.ownsRow.lt h.owns b hb).2
  have hz3 : v.heap.size ≤ v3.heap.size := hgr.size
  have hgB : ∀ b, b < v.heap.size → u.ownBlock ≠ some b → v3.heap[b]? = v.heap[b]? := fun b hb hne => hgr.block b hb (fun e => hne e.symm)
  refine ⟨?_, Nat.le_trans h.base hz3, fun j hj => ?_, fun j hj b hb => ?_, fun i j hij hj b h5 h6 => ?_⟩
  · rw [List.length_append]
    show v3.ownsRow B e wd _ _ (flat _ l.length ++ (if l.length = l.length then cs else C l.length))
    rw [if_pos rfl, flat_congr (D := C) fun j hj => if_neg (by omega)]
    exact hown
  · show (if j = l.length then cs else C j).length = wd ∧ E v3 _ (if j = l.length then cs else C j) _
    rw [List.length_append] at hj
    by_cases e : j = l.length
    · subst e
      simp only [if_true, Nat.lt_irrefl, false_and]
      refine ⟨hw, ?_⟩
      rw [List.getElem_append_right (Nat.le_refl _)]
      simp only [Nat.sub_self, List.getElem_cons_zero]
      exact ha
    · have hj' : j < l.length := by simp at hj; omega
      simp only [if_neg e, hj', true_and]
      refine ⟨(h.el j hj').1, ?_⟩
      rw [List.getElem_append_left hj']
      exact hE.keep (h.el j hj').2 ⟨hz3, fun b hb => hgB b (h.sub j hj' b hb).2.1 (h.sub j hj' b hb).2.2⟩
  · obtain ⟨hj', hb⟩ := hb
    have h5 := h.sub j hj' b hb
    refine ⟨h5.1, Nat.lt_of_lt_of_le h5.2.1 hz3, fun h' => ?_⟩
    simp only [Value.ownBlock, Option.some.injEq] at h'
    subst h'
    rcases hat with h'' | h''
    · exact h5.2.2 h''
    · omega
  · exact h.apart i j hij h6.1 b h5.2 h6.2
theorem flat_set1 {C : Nat → List Value} {k i : Nat} {x : Value} : ∀ {n : Nat}, (∀ j, j < n → (C j).length = wd) → k < n → i < wd → flat (fun j => if j = k then (C k).set i x else C j) n = (flat C n).set (k * wd + i) x
  | 0, _, h, _ => absurd h (Nat.not_lt_zero _)
  | n + 1, hw, h, hi => by
    have hl := flat_len (wd := wd) (C := C) (n := n) fun j hj => hw j (by omega)
    show flat _ n ++ (if n = k then (C k).set i x else C n) = (flat C n ++ C n).set _ x
    by_cases e : n = k
    · subst e
      rw [if_pos rfl, flat_congr (D := C) fun j hj => if_neg (by omega), List.set_append_right _ _ (by rw [hl]; omega), hl, Nat.add_sub_cancel_left]
    · have hk : k < n := by omega
      rw [if_neg e, flat_set1 (fun j hj => hw j (by omega)) hk hi, List.set_append_left]
      rw [hl]
      have := Nat.mul_le_mul_right wd (show k + 1 ≤ n by omega)
      rw [Nat.add_mul] at this; omega
/-- an element's cells turn: four stores -/
theorem AccY.owns4 {g cap : Nat} {n : Nat} (h : v.ownsRow B e 4 (.slice (some ⟨g, 0, none⟩) n cap) n (flat C n)) (hw : ∀ j, j < n → (C j).length = 4) {k : Nat} (hk : k < n) (a b c d : Value) :
    ((((v.setCell ⟨g, k * 4, none⟩ a).setCell ⟨g, k * 4 + 1, none⟩ b).setCell ⟨g, k * 4 + 2, none⟩ c).setCell ⟨g, k * 4 + 3, none⟩ d).ownsRow B e 4 (.slice (some ⟨g, 0, none⟩) n cap) n (flat (fun j => if j = k then [a, b, c, d] else C j) n) := by
  have h1 := (World.ownsRow.stored h (k * 4) a).1
  have h2 := (World.ownsRow.stored h1 (k * 4 + 1) b).1
  have h3 := (World.ownsRow.stored h2 (k * 4 + 2) c).1
  have h4 := (World.ownsRow.stored h3 (k * 4 + 3) d).1
  have e1 := flat_set1 (C := C) (k := k) (i := 0) (x := a) hw hk (by omega)
  have w1 : ∀ j, j < n → ((fun j => if j = k then (C k).set 0 a else C j) j).length = 4 := fun j hj => by simp only; split <;> simp [hw, hj, hk]
  have e2 := flat_set1 (k := k) (i := 1) (x := b) w1 hk (by omega)
  have w2 : ∀ j, j < n → ((fun j => if j = k then (((fun j => if j = k then (C k).set 0 a else C j) k)).set 1 b else (fun j => if j = k then (C k).set 0 a else C j) j) j).length = 4 := fun j hj => by simp only; split <;> simp [hw, hj, hk]
  have e3 := flat_set1 (k := k) (i := 2) (x := c) w2 hk (by omega)
  have w3 : ∀ j, j < n → ((fun j => if j = k then ((fun j => if j = k then (((fun j => if j = k then (C k).set 0 a else C j) k)).set 1 b else (fun j => if j = k then (C k).set 0 a else C j) j) k).set 2 c else (fun j => if j = k then (((fun j => if j = k then (C k).set 0 a else C j) k)).set 1 b else (fun j => if j = k then (C k).set 0 a else C j) j) j) j).length = 4 := fun j hj => by simp only; split <;> simp [hw, hj, hk]
  have e4 := flat_set1 (k := k) (i := 3) (x := d) w3 hk (by omega)
  rw [Nat.add_zero] at e1
  rw [← e1, ← e2, ← e3, ← e4] at h4
  refine Eq.mp (congrArg (World.ownsRow _ B e 4 _ n) (flat_congr fun j hj => ?_)) h4
  obtain ⟨p, q, r, s, hC⟩ : ∃ p q r s, C k = [p, q, r, s] := by
    have := hw k hk
    match hc : C k, this with
    | [p, q, r, s], _ => exact ⟨p, q, r, s, rfl⟩
  by_cases ej : j = k
  · simp [ej, hC]
  · simp [ej]
/-- the node of an index is laid -/
theorem AccY.put {B : Nat} {v : World} {g cap : Nat} {G : Nat → Blk} {C : Nat → List Value} {l : P.Tri} (h : AccY e 4 nodE B v (.slice (some ⟨g, 0, none⟩) l.length cap) G C l) {k : Nat} (hk : k < l.length) {x y : Value} {F1 F2 : Blk} {n : P.Nd} (hx : Ints v F1 x n.1) (hy : Ints v F2 y n.2.1)
    (h1 : ∀ b, F1 b → (B ≤ b ∧ b < v.heap.size) ∧ b ≠ g ∧ ∀ j, j < l.length → j ≠ k → ¬ G j b) (h2 : ∀ b, F2 b → (B ≤ b ∧ b < v.heap.size) ∧ b ≠ g ∧ ∀ j, j < l.length → j ≠ k → ¬ G j b) (h12 : ∀ b, F1 b → F2 b → False) :
    AccY e 4 nodE B ((((v.setCell ⟨g, k * 4, none⟩ x).setCell ⟨g, k * 4 + 1, none⟩ y).setCell ⟨g, k * 4 + 2, none⟩ (.bool n.2.2.1)).setCell ⟨g, k * 4 + 3, none⟩ (.string (S n.2.2.2))) (.slice (some ⟨g, 0, none⟩) l.length cap)
      (fun j b => if j = k then F1 b ∨ F2 b else G j b) (fun j => if j = k then [x, y, .bool n.2.2.1, .string (S n.2.2.2)] else C j) (l.set k n) := by
  have hs : ((((v.setCell ⟨g, k * 4, none⟩ x).setCell ⟨g, k * 4 + 1, none⟩ y).setCell ⟨g, k * 4 + 2, none⟩ (.bool n.2.2.1)).setCell ⟨g, k * 4 + 3, none⟩ (.string (S n.2.2.2))).heap.size = v.heap.size := by simp [World.setCell]
  have hblk : ∀ b, b ≠ g → ((((v.setCell ⟨g, k * 4, none⟩ x).setCell ⟨g, k * 4 + 1, none⟩ y).setCell ⟨g, k * 4 + 2, none⟩ (.bool n.2.2.1)).setCell ⟨g, k * 4 + 3, none⟩ (.string (S n.2.2.2))).heap[b]? = v.heap[b]? := by
    intro b hb
    rw [Below.heap_setCell _ _ _ _ hb, Below.heap_setCell _ _ _ _ hb, Below.heap_setCell _ _ _ _ hb, Below.heap_setCell _ _ _ _ hb]
  have hown := AccY.owns4 h.owns (fun j hj => (h.el j hj).1) hk x y (.bool n.2.2.1) (.string (S n.2.2.2))
  revert hs hblk hown
  generalize ((((v.setCell ⟨g, k * 4, none⟩ x).setCell ⟨g, k * 4 + 1, none⟩ y).setCell ⟨g, k * 4 + 2, none⟩ (.bool n.2.2.1)).setCell ⟨g, k * 4 + 3, none⟩ (.string (S n.2.2.2))) = v3
  intro hs hblk hown
  refine ⟨by rw [List.length_set]; exact hown, by rw [hs]; exact h.base, fun j hj => ?_, fun j hj b hb => ?_, fun i j hij hj b h5 h6 => ?_⟩
  · rw [List.length_set] at hj
    by_cases ej : j = k
    · subst ej
      simp only [if_true, List.getElem_set_self]
      exact ⟨rfl, x, y, F1, F2, rfl, hx.keep intE_ok ⟨by rw [hs]; exact Nat.le_refl _, fun b hb => hblk b (h1 b hb).2.1⟩, hy.keep intE_ok ⟨by rw [hs]; exact Nat.le_refl _, fun b hb => hblk b (h2 b hb).2.1⟩, fun b hb => .inl hb, fun b hb => .inr hb, h12⟩
    · simp only [if_neg ej]
      rw [List.getElem_set_ne (fun h => ej h.symm)]
      exact ⟨(h.el j hj).1, nodE_ok.keep (h.el j hj).2 ⟨by rw [hs]; exact Nat.le_refl _, fun b hb => hblk b (fun e => (h.sub j hj b hb).2.2 (by rw [e]; rfl))⟩⟩
  · rw [List.length_set] at hj
    by_cases ej : j = k
    · simp only [if_pos ej] at hb
      rw [hs]
      rcases hb with hb | hb
      · exact ⟨(h1 b hb).1.1, (h1 b hb).1.2, fun e => (h1 b hb).2.1 (by simpa [Value.ownBlock] using e.symm)⟩
      · exact ⟨(h2 b hb).1.1, (h2 b hb).1.2, fun e => (h2 b hb).2.1 (by simpa [Value.ownBlock] using e.symm)⟩
    · simp only [if_neg ej] at hb
      rw [hs]
      exact h.sub j hj b hb
  · rw [List.length_set] at hj
    by_cases ei : i = k
    · have ej : ¬ j = k := by omega
      simp only [if_pos ei] at h5
      simp only [if_neg ej] at h6
      rcases h5 with h5 | h5
      · exact (h1 b h5).2.2 j hj ej h6
      · exact (h2 b h5).2.2 j hj ej h6
    · simp only [if_neg ei] at h5
      by_cases ej : j = k
      · simp only [if_pos ej] at h6
        rcases h6 with h6 | h6
        · exact (h1 b h6).2.2 i (by omega) ei h5
        · exact (h2 b h6).2.2 i (by omega) ei h5
      · simp only [if_neg ej] at h6
        exact h.apart i j hij hj b h5 h6
end
end
section
section
open Go Go.RowKit
set_option maxHeartbeats 1000000
set_option maxRecDepth 100000
theorem Chg.late {X Y : Blk} {w v v' : World} (h : Chg X w v) (k : Chg Y v v') (hY : ∀ b, Y b → X b ∨ w.heap.size ≤ b) : Chg X w v' :=
  ⟨k.os.trans h.os, k.tape.trans h.tape, k.output.trans h.output, Nat.le_trans h.size k.size, fun b hb hx => (k.block b (Nat.lt_of_lt_of_le hb h.size) (fun hy => by rcases hY b hy with h1 | h1; exact hx h1; omega)).trans (h.block b hb hx)⟩
theorem chg_grown {w v : World} {row : Option Nat} (h : w.grownBy v row) : Chg (fun b => row = some b) w v := ⟨h.os, h.tape, h.output, h.size, fun b hb hx => h.block b hb (fun e => hx e.symm)⟩
theorem owns_st {B : Nat} {e : TypeId} {z : Nat} {v v' : World} {u : Value} {n : Nat} {xs : List Value} {X : Blk} (h : v.ownsRow B e z u n xs) (hc : Chg X v v') (hX : ∀ k, u.ownBlock = some k → ¬ X k) : v'.ownsRow B e z u n xs := by
  refine ⟨h.1, ?_⟩
  rcases h.2 with h5 | ⟨g, cap, cur, hv, hg, hh, r⟩
  · exact .inl h5
  · have hlt := (World.ownsRow.lt h g (by rw [hv]; rfl)).2
    exact .inr ⟨g, cap, cur, hv, hg, by rw [hc.block g hlt (hX g (by rw [hv]; rfl))]; exact hh, r⟩
theorem ints_own {B : Nat} {v : World} {u : Value} {l : List Int} (h : v.ownsRow B 3 1 u l.length (ints l)) (hl : l.length ≤ 2 ^ 30) : Ints v (fun b => u.ownBlock = some b) u l := by
  rcases id h.2 with ⟨rfl, h0⟩ | ⟨g, cap, cur, hv, hg, hh, hnc, _⟩
  · rw [List.eq_nil_of_length_eq_zero h0]
    exact RowO.nil _ _
  · have hlt := (World.ownsRow.lt h g (by rw [hv]; rfl)).2
    subst hv
    refine ints_of_cel (fun j hj => ?_) rfl (fun b hb => by simp only [Value.ownBlock, Option.some.injEq] at hb; omega) hl hnc
    have hj' : j < l.length := by simpa using hj
    have e := World.ownsRow.cellAt h j (by omega)
    rw [List.getElem?_eq_getElem hj] at e
    rw [Nat.zero_add]
    exact ⟨e, World.ownsRow.frozenAt h j⟩
/-- a box of one cell -/
def BL (R : Nat) (u : Value) (v : World) : Prop := v.cell? ⟨R, 0, none⟩ = some u ∧ v.frozen? ⟨R, 0, none⟩ = false ∧ R < v.heap.size
theorem BL.stand {R : Nat} {u : Value} {v v' : World} {X : Blk} (h : BL R u v) (hc : Chg X v v') (hX : ¬ X R) : BL R u v' :=
  ⟨(hc.cell (p := ⟨R, 0, none⟩) h.2.2 hX).trans h.1, (hc.frozen (p := ⟨R, 0, none⟩) h.2.2 hX).trans h.2.1, Nat.lt_of_lt_of_le h.2.2 hc.size⟩
theorem BL.below {R : Nat} {u : Value} {v v' : World} (h : BL R u v) (hb : Below v.heap.size v v') : BL R u v' := h.stand (Below.chg hb fun _ => False) fun h => h
theorem BL.new (u : Value) (t : TypeId) (v : World) : BL v.heap.size u (v.alloc (.cells #[u] t)) := by
  refine ⟨?_, ?_, ?_⟩ <;> go_simp
theorem BL.put {R : Nat} {u u' : Value} {v : World} (h : BL R u v) : BL R u' (v.setCell ⟨R, 0, none⟩ u') :=
  ⟨World.cell?_setCell_same _ _ _ h.1, by simpa using h.2.1, by simpa [World.setCell] using h.2.2⟩
/-- a box of a node -/
structure NB (N : Nat) (x y : Value) (t : Bool) (s : Str) (v : World) : Prop where
  c0 : v.cell? ⟨N, 0, none⟩ = some x
  c1 : v.cell? ⟨N, 1, none⟩ = some y
  c2 : v.cell? ⟨N, 2, none⟩ = some (.bool t)
  c3 : v.cell? ⟨N, 3, none⟩ = some (.string (S s))
  f0 : v.frozen? ⟨N, 0, none⟩ = false
  f1 : v.frozen? ⟨N, 1, none⟩ = false
  f2 : v.frozen? ⟨N, 2, none⟩ = false
  f3 : v.frozen? ⟨N, 3, none⟩ = false
  lt : N < v.heap.size
theorem NB.stand {N : Nat} {x y : Value} {t : Bool} {s : Str} {v v' : World} {X : Blk} (h : NB N x y t s v) (hc : Chg X v v') (hX : ¬ X N) : NB N x y t s v' :=
  ⟨(hc.cell (p := ⟨N, 0, none⟩) h.lt hX).trans h.c0, (hc.cell (p := ⟨N, 1, none⟩) h.lt hX).trans h.c1, (hc.cell (p := ⟨N, 2, none⟩) h.lt hX).trans h.c2, (hc.cell (p := ⟨N, 3, none⟩) h.lt hX).trans h.c3,
   (hc.frozen (p := ⟨N, 0, none⟩) h.lt hX).trans h.f0, (hc.frozen (p := ⟨N, 1, none⟩) h.lt hX).trans h.f1, (hc.frozen (p := ⟨N, 2, none⟩) h.lt hX).trans h.f2, (hc.frozen (p := ⟨N, 3, none⟩) h.lt hX).trans h.f3, Nat.lt_of_lt_of_le h.lt hc.size⟩
theorem NB.below {N : Nat} {x y : Value} {t : Bool} {s : Str} {v v' : World} (h : NB N x y t s v) (hb : Below v.heap.size v v') : NB N x y t s v' := h.stand (Below.chg hb fun _ => False) fun h => h
theorem NB.put0 {N : Nat} {x y x' : Value} {t : Bool} {s : Str} {v : World} (h : NB N x y t s v) : NB N x' y t s (v.setCell ⟨N, 0, none⟩ x') := by
  obtain ⟨c0, c1, c2, c3, f0, f1, f2, f3, hl⟩ := h
  refine ⟨World.cell?_setCell_same _ _ _ c0, ?_, ?_, ?_, by simpa using f0, by simpa using f1, by simpa using f2, by simpa using f3, by simpa [World.setCell] using hl⟩
  all_goals (rw [World.cell?_setCell_other _ _ _ _ (by intro e; injection e; omega)]; assumption)
theorem NB.put1 {N : Nat} {x y x' : Value} {t : Bool} {s : Str} {v : World} (h : NB N x y t s v) : NB N x x' t s (v.setCell ⟨N, 1, none⟩ x') := by
  obtain ⟨c0, c1, c2, c3, f0, f1, f2, f3, hl⟩ := h
  refine ⟨?_, World.cell?_setCell_same _ _ _ c1, ?_, ?_, by simpa using f0, by simpa using f1, by simpa using f2, by simpa using f3, by simpa [World.setCell] using hl⟩
  all_goals (rw [World.cell?_setCell_other _ _ _ _ (by intro e; injection e; omega)]; assumption)
theorem NB.put2 {N : Nat} {x y : Value} {t t' : Bool} {s : Str} {v : World} (h : NB N x y t s v) : NB N x y t' s (v.setCell ⟨N, 2, none⟩ (.bool t')) := by
  obtain ⟨c0, c1, c2, c3, f0, f1, f2, f3, hl⟩ := h
  refine ⟨?_, ?_, World.cell?_setCell_same _ _ _ c2, ?_, by simpa using f0, by simpa using f1, by simpa using f2, by simpa using f3, by simpa [World.setCell] using hl⟩
  all_goals (rw [World.cell?_setCell_other _ _ _ _ (by intro e; injection e; omega)]; assumption)
theorem NB.put3 {N : Nat} {x y : Value} {t : Bool} {s s' : Str} {v : World} (h : NB N x y t s v) : NB N x y t s' (v.setCell ⟨N, 3, none⟩ (.string (S s'))) := by
  obtain ⟨c0, c1, c2, c3, f0, f1, f2, f3, hl⟩ := h
  refine ⟨?_, ?_, ?_, World.cell?_setCell_same _ _ _ c3, by simpa using f0, by simpa using f1, by simpa using f2, by simpa using f3, by simpa [World.setCell] using hl⟩
  all_goals (rw [World.cell?_setCell_other _ _ _ _ (by intro e; injection e; omega)]; assumption)
/-- what a subtree's building leaves -/
def Planted (R : Nat) (bl : P.Tri) (u : Value) (G : Nat → Blk) (l : P.Tri) (w v' : World) : Prop :=
  ∃ u' G' C', BL R u' v' ∧ AccY 162 4 nodE (R + 1) v' u' G' C' (l ++ bl) ∧ (∀ j b, j < (l ++ bl).length → G' j b → (j < l.length ∧ G j b) ∨ w.heap.size ≤ b) ∧ (∀ b, u'.ownBlock = some b → u.ownBlock = some b ∨ w.heap.size ≤ b) ∧ Chg (fun b => b = R ∨ u.ownBlock = some b) w v'
/-- how the building of a node stands: the world at its start, the builder's box, the node's box, the row at the start; the world now, the row now, strokes and children -/
structure PI (w : World) (R N : Nat) (u : Value) (G : Nat → Blk) (l0 : P.Tri) (t : Bool) (x : Str) (v : World) (ur : Value) (Gr : Nat → Blk) (Cr : Nat → List Value) (lr : P.Tri) (su cu : Value) (s c : List Int) : Prop where
  bl : BL R ur v
  acc : AccY 162 4 nodE (R + 1) v ur Gr Cr lr
  box : NB N su cu t x v
  so : v.ownsRow w.heap.size 3 1 su s.length (ints s)
  co : v.ownsRow w.heap.size 3 1 cu c.length (ints c)
  ns : ∀ b, su.ownBlock = some b → b ≠ N ∧ ur.ownBlock ≠ some b ∧ (∀ j, j < lr.length → ¬ Gr j b) ∧ cu.ownBlock ≠ some b
  nc : ∀ b, cu.ownBlock = some b → b ≠ N ∧ ur.ownBlock ≠ some b ∧ (∀ j, j < lr.length → ¬ Gr j b)
  un : ∀ b, ur.ownBlock = some b → u.ownBlock = some b ∨ (w.heap.size ≤ b ∧ b ≠ N)
  gn : ∀ j b, j < lr.length → Gr j b → (j < l0.length ∧ G j b) ∨ (w.heap.size ≤ b ∧ b ≠ N)
  chg : Chg (fun b => b = R ∨ u.ownBlock = some b) w v
  nz : w.heap.size ≤ N
  rz : R < w.heap.size
  uz : ∀ b, u.ownBlock = some b → b < w.heap.size
  gz : ∀ j b, j < l0.length → G j b → b < w.heap.size
variable {w : World} {R N : Nat} {u : Value} {G : Nat → Blk} {l0 : P.Tri} {t : Bool} {x : Str} {v v' : World} {ur : Value} {Gr : Nat → Blk} {Cr : Nat → List Value} {lr : P.Tri} {su cu : Value} {s c : List Int}
theorem PI.below (h : PI w R N u G l0 t x v ur Gr Cr lr su cu s c) (hb : Below v.heap.size v v') : PI w R N u G l0 t x v' ur Gr Cr lr su cu s c :=
  ⟨h.bl.below hb, h.acc.keep nodE_ok hb, h.box.below hb, owns_st h.so (Below.chg hb fun _ => False) fun _ _ h => h, owns_st h.co (Below.chg hb fun _ => False) fun _ _ h => h, h.ns, h.nc, h.un, h.gn, h.chg.late (Below.chg hb fun _ => False) fun _ h => h.elim, h.nz, h.rz, h.uz, h.gz⟩
theorem PI.un0 (h : PI w R N u G l0 t x v ur Gr Cr lr su cu s c) : ur.ownBlock ≠ some N := fun e => by
  rcases h.un N e with h1 | h1
  · have := h.uz N h1; have := h.nz; omega
  · exact h1.2 rfl
theorem PI.gn0 (h : PI w R N u G l0 t x v ur Gr Cr lr su cu s c) (j : Nat) (hj : j < lr.length) : ¬ Gr j N := fun e => by
  rcases h.gn j N hj e with h1 | h1
  · have := h.gz j N h1.1 h1.2; have := h.nz; omega
  · exact h1.2 rfl
/-- a stroke more -/
theorem PI.stroke (h : PI w R N u G l0 t x v ur Gr Cr lr su cu s c) {v3 : World} {a : Int} {g cap : Nat}
    (hown : v3.ownsRow w.heap.size 3 1 (.slice (some ⟨g, 0, none⟩) (s.length + 1) cap) (s.length + 1) (ints s ++ [.int .i64 a])) (hgr : v.grownBy v3 su.ownBlock) (hat : su.ownBlock = some g ∨ g = v.heap.size) :
    PI w R N u G l0 t x (v3.setCell ⟨N, 0, none⟩ (.slice (some ⟨g, 0, none⟩) (s.length + 1) cap)) ur Gr Cr lr (.slice (some ⟨g, 0, none⟩) (s.length + 1) cap) cu (s ++ [a]) c := by
  have hc1 := chg_grown hgr
  have hc2 := (Chg.refl (fun b => b = N) v3).setCell (p := ⟨N, 0, none⟩) rfl (.slice (some ⟨g, 0, none⟩) (s.length + 1) cap)
  have hsl := World.ownsRow.lt h.so
  have hcl := World.ownsRow.lt h.co
  have hnl := h.box.lt
  have hnz := h.nz
  have hrz := h.rz
  have hgN : g ≠ N := by
    rcases hat with h1 | h1
    · exact (h.ns g h1).1
    · omega
  refine ⟨(h.bl.stand hc1 (fun e => by have := hsl R e; omega)).stand hc2 (fun e => by omega), (h.acc.stand nodE_ok hc1 (fun b hb => ⟨(h.ns b hb).2.1, (h.ns b hb).2.2.1⟩)).stand nodE_ok hc2 (fun b hb => by subst hb; exact ⟨h.un0, h.gn0⟩), (h.box.stand hc1 (fun e => (h.ns N e).1 rfl)).put0, ?_, owns_st (owns_st h.co hc1 fun k hk e => (h.ns k e).2.2.2 hk) hc2 (fun k hk e => (h.nc k hk).1 e), ?_, h.nc, h.un, h.gn, (h.chg.late hc1 (fun b hb => .inr (hsl b hb).1)).late hc2 (fun b hb => .inr (by omega)), hnz, hrz, h.uz, h.gz⟩
  · rw [List.length_append, show ints (s ++ [a]) = ints s ++ [.int .i64 a] by simp]
    exact owns_st hown hc2 (fun k hk e => by simp only [Value.ownBlock, Option.some.injEq] at hk; omega)
  · intro b hb
    simp only [Value.ownBlock, Option.some.injEq] at hb
    subst hb
    rcases hat with h1 | h1
    · exact h.ns g h1
    · subst h1
      refine ⟨hgN, fun e => ?_, fun j hj e => ?_, fun e => ?_⟩
      · exact absurd (h.acc.lt _ e).2 (Nat.lt_irrefl _)
      · exact absurd (h.acc.sub j hj _ e).2.1 (Nat.lt_irrefl _)
      · exact absurd (hcl _ e).2 (Nat.lt_irrefl _)
/-- a child more -/
theorem PI.child (h : PI w R N u G l0 t x v ur Gr Cr lr su cu s c) {v3 : World} {a : Int} {g cap : Nat}
    (hown : v3.ownsRow w.heap.size 3 1 (.slice (some ⟨g, 0, none⟩) (c.length + 1) cap) (c.length + 1) (ints c ++ [.int .i64 a])) (hgr : v.grownBy v3 cu.ownBlock) (hat : cu.ownBlock = some g ∨ g = v.heap.size) :
    PI w R N u G l0 t x (v3.setCell ⟨N, 1, none⟩ (.slice (some ⟨g, 0, none⟩) (c.length + 1) cap)) ur Gr Cr lr su (.slice (some ⟨g, 0, none⟩) (c.length + 1) cap) s (c ++ [a]) := by
  have hc1 := chg_grown hgr
  have hc2 := (Chg.refl (fun b => b = N) v3).setCell (p := ⟨N, 1, none⟩) rfl (.slice (some ⟨g, 0, none⟩) (c.length + 1) cap)
  have hsl := World.ownsRow.lt h.so
  have hcl := World.ownsRow.lt h.co
  have hnl := h.box.lt
  have hnz := h.nz
  have hrz := h.rz
  have hgN : g ≠ N := by
    rcases hat with h1 | h1
    · exact (h.nc g h1).1
    · omega
  refine ⟨(h.bl.stand hc1 (fun e => by have := hcl R e; omega)).stand hc2 (fun e => by omega), (h.acc.stand nodE_ok hc1 (fun b hb => ⟨(h.nc b hb).2.1, (h.nc b hb).2.2⟩)).stand nodE_ok hc2 (fun b hb => by subst hb; exact ⟨h.un0, h.gn0⟩), (h.box.stand hc1 (fun e => (h.nc N e).1 rfl)).put1, owns_st (owns_st h.so hc1 fun k hk e => (h.ns k hk).2.2.2 e) hc2 (fun k hk e => (h.ns k hk).1 e), ?_, ?_, ?_, h.un, h.gn, (h.chg.late hc1 (fun b hb => .inr (hcl b hb).1)).late hc2 (fun b hb => .inr (by omega)), hnz, hrz, h.uz, h.gz⟩
  · rw [List.length_append, show ints (c ++ [a]) = ints c ++ [.int .i64 a] by simp]
    exact owns_st hown hc2 (fun k hk e => by simp only [Value.ownBlock, Option.some.injEq] at hk; omega)
  · intro b hb
    obtain ⟨h1, h2, h3, h4⟩ := h.ns b hb
    refine ⟨h1, h2, h3, fun e => ?_⟩
    simp only [Value.ownBlock, Option.some.injEq] at e
    subst e
    rcases hat with h5 | h5
    · exact h4 h5
    · have := (hsl _ hb).2; omega
  · intro b hb
    simp only [Value.ownBlock, Option.some.injEq] at hb
    subst hb
    rcases hat with h1 | h1
    · exact h.nc g h1
    · subst h1
      refine ⟨hgN, fun e => ?_, fun j hj e => ?_⟩
      · exact absurd (h.acc.lt _ e).2 (Nat.lt_irrefl _)
      · exact absurd (h.acc.sub j hj _ e).2.1 (Nat.lt_irrefl _)
/-- a subtree more -/
theorem PI.call (h : PI w R N u G l0 t x v ur Gr Cr lr su cu s c) {bl : P.Tri} (hp : Planted R bl ur Gr lr v v') :
    ∃ u' G' C', PI w R N u G l0 t x v' u' G' C' (lr ++ bl) su cu s c := by
  obtain ⟨u', G', C', h1, h2, h3, h4, h5⟩ := hp
  have hsl := World.ownsRow.lt h.so
  have hcl := World.ownsRow.lt h.co
  have hnl := h.box.lt
  have hnz := h.nz
  have hrz := h.rz
  refine ⟨u', G', C', h1, h2, h.box.stand h5 (fun e => e.elim (fun e => by omega) h.un0), owns_st h.so h5 (fun k hk e => e.elim (fun e => by have := hsl k hk; omega) (h.ns k hk).2.1), owns_st h.co h5 (fun k hk e => e.elim (fun e => by have := hcl k hk; omega) (h.nc k hk).2.1), fun b hb => ?_, fun b hb => ?_, fun b hb => ?_, fun j b hj hb => ?_, h.chg.late h5 (fun b hb => ?_), hnz, hrz, h.uz, h.gz⟩
  · obtain ⟨a1, a2, a3, a4⟩ := h.ns b hb
    have hb2 := hsl b hb
    refine ⟨a1, fun e => ?_, fun j hj e => ?_, a4⟩
    · rcases h4 b e with e | e
      · exact a2 e
      · omega
    · rcases h3 j b hj e with e | e
      · exact a3 j e.1 e.2
      · omega
  · obtain ⟨a1, a2, a3⟩ := h.nc b hb
    have hb2 := hcl b hb
    refine ⟨a1, fun e => ?_, fun j hj e => ?_⟩
    · rcases h4 b e with e | e
      · exact a2 e
      · omega
    · rcases h3 j b hj e with e | e
      · exact a3 j e.1 e.2
      · omega
  · rcases h4 b hb with e | e
    · exact h.un b e
    · have := h.chg.size; right; omega
  · rcases h3 j b hj hb with e | e
    · exact h.gn j b e.1 e.2
    · have := h.chg.size; right; omega
  · rcases hb with e | e
    · exact .inl (.inl e)
    · rcases h.un b e with e | e
      · exact .inl (.inr e)
      · exact .inr e.1
/-- the node's place is in the row; its box stands already -/
theorem PI.start {C : Nat → List Value} (hbl : BL R u v) (hacc : AccY 162 4 nodE (R + 1) v u G C l0) (hbox : NB N su cu t x v) (hb : Below w.heap.size w v) (hN : w.heap.size ≤ N) (hR : R < w.heap.size) (huz : ∀ b, u.ownBlock = some b → b < w.heap.size) (hgz : ∀ j b, j < l0.length → G j b → b < w.heap.size)
    (hso : v.ownsRow w.heap.size 3 1 su 0 []) (hco : v.ownsRow w.heap.size 3 1 cu 0 []) (hsN : su.ownBlock ≠ some N) (hcN : cu.ownBlock ≠ some N) (hsc : ∀ b, su.ownBlock = some b → cu.ownBlock ≠ some b)
    {v3 : World} {cs : List Value} {nd : P.Nd} {g cap : Nat} (ha : nodE v3 (fun _ => False) cs nd) (hw : cs.length = 4)
    (hown : v3.ownsRow (R + 1) 162 4 (.slice (some ⟨g, 0, none⟩) (l0.length + 1) cap) (l0.length + 1) (flat C l0.length ++ cs)) (hgr : v.grownBy v3 u.ownBlock) (hat : u.ownBlock = some g ∨ g = v.heap.size) :
    PI w R N u G l0 t x (v3.setCell ⟨R, 0, none⟩ (.slice (some ⟨g, 0, none⟩) (l0.length + 1) cap)) (.slice (some ⟨g, 0, none⟩) (l0.length + 1) cap) (fun j b => j < l0.length ∧ G j b) (fun j => if j = l0.length then cs else C j) (l0 ++ [nd]) su cu [] [] := by
  have hc1 := chg_grown hgr
  have hc2 := (Chg.refl (fun b => b = R) v3).setCell (p := ⟨R, 0, none⟩) rfl (.slice (some ⟨g, 0, none⟩) (l0.length + 1) cap)
  have hac := AccY.snoc nodE_ok hacc ha hw hown hgr hat
  have hsl := World.ownsRow.lt hso
  have hcl := World.ownsRow.lt hco
  have hul := hacc.lt
  have hsz := hb.size
  have hnl := hbox.lt
  have hgR : g ≠ R := by
    rcases hat with h1 | h1
    · have := hul g h1; omega
    · omega
  have hlen : ∀ j, j < (l0 ++ [nd]).length → j < l0.length ∨ j = l0.length := by intro j hj; simp at hj; omega
  refine ⟨(hbl.stand hc1 (fun e => by have := hul R e; omega)).put, hac.stand nodE_ok hc2 (fun b hb => ?_), (hbox.stand hc1 (fun e => by have := huz N e; omega)).stand hc2 (fun e => by omega), owns_st (owns_st hso hc1 (fun k hk e => by have := huz k e; have := hsl k hk; omega)) hc2 (fun k hk e => by have := hsl k hk; omega), owns_st (owns_st hco hc1 (fun k hk e => by have := huz k e; have := hcl k hk; omega)) hc2 (fun k hk e => by have := hcl k hk; omega),
    fun b hb => ?_, fun b hb => ?_, fun b hb => ?_, fun j b hj hb => .inl hb, ((Below.chg hb _).late hc1 (fun b hb => .inl (.inr hb))).late hc2 (fun b hb => .inl (.inl hb)), hN, hR, huz, hgz⟩
  · subst hb
    refine ⟨fun e => ?_, fun j hj e => ?_⟩
    · simp only [Value.ownBlock, Option.some.injEq] at e; exact hgR e
    · have := (hacc.sub j e.1 _ e.2).1; omega
  · have hb2 := hsl b hb
    refine ⟨fun e => hsN (e ▸ hb), fun e => ?_, fun j hj e => ?_, hsc b hb⟩
    · simp only [Value.ownBlock, Option.some.injEq] at e
      subst e
      rcases hat with h1 | h1
      · have := huz _ h1; omega
      · omega
    · have := hgz j b e.1 e.2; omega
  · have hb2 := hcl b hb
    refine ⟨fun e => hcN (e ▸ hb), fun e => ?_, fun j hj e => ?_⟩
    · simp only [Value.ownBlock, Option.some.injEq] at e
      subst e
      rcases hat with h1 | h1
      · have := huz _ h1; omega
      · omega
    · have := hgz j b e.1 e.2; omega
  · simp only [Value.ownBlock, Option.some.injEq] at hb
    subst hb
    rcases hat with h1 | h1
    · exact .inl h1
    · right; omega
/-- the node's place is in the row; its box is made behind that -/
theorem PI.start2 {C : Nat → List Value} (hbl : BL R u v) (hacc : AccY 162 4 nodE (R + 1) v u G C l0) (hb : Below w.heap.size w v) (hR : R < w.heap.size) (huz : ∀ b, u.ownBlock = some b → b < w.heap.size) (hgz : ∀ j b, j < l0.length → G j b → b < w.heap.size)
    {v3 v4 : World} {cs : List Value} {nd : P.Nd} {g cap : Nat} (ha : nodE v3 (fun _ => False) cs nd) (hw : cs.length = 4)
    (hown : v3.ownsRow (R + 1) 162 4 (.slice (some ⟨g, 0, none⟩) (l0.length + 1) cap) (l0.length + 1) (flat C l0.length ++ cs)) (hgr : v.grownBy v3 u.ownBlock) (hat : u.ownBlock = some g ∨ g = v.heap.size)
    (hb4 : Below v3.heap.size (v3.setCell ⟨R, 0, none⟩ (.slice (some ⟨g, 0, none⟩) (l0.length + 1) cap)) v4) (hN : v3.heap.size ≤ N) (hbox : NB N (.slice none 0 0) (.slice none 0 0) t x v4) :
    PI w R N u G l0 t x v4 (.slice (some ⟨g, 0, none⟩) (l0.length + 1) cap) (fun j b => j < l0.length ∧ G j b) (fun j => if j = l0.length then cs else C j) (l0 ++ [nd]) (.slice none 0 0) (.slice none 0 0) [] [] := by
  have hc1 := chg_grown hgr
  have hc2 := (Chg.refl (fun b => b = R) v3).setCell (p := ⟨R, 0, none⟩) rfl (.slice (some ⟨g, 0, none⟩) (l0.length + 1) cap)
  have hac := AccY.snoc nodE_ok hacc ha hw hown hgr hat
  have hul := hacc.lt
  have hsz := hb.size
  have hz3 := hgr.size
  have hgl := (World.ownsRow.lt hown g rfl).2
  have hb5 : Below (v3.setCell ⟨R, 0, none⟩ (.slice (some ⟨g, 0, none⟩) (l0.length + 1) cap)).heap.size (v3.setCell ⟨R, 0, none⟩ (.slice (some ⟨g, 0, none⟩) (l0.length + 1) cap)) v4 := hb4.mono (by simp [World.setCell])
  have hgR : g ≠ R := by
    rcases hat with h1 | h1
    · have := hul g h1; omega
    · omega
  refine ⟨((hbl.stand hc1 (fun e => by have := hul R e; omega)).put).below hb5, (hac.stand nodE_ok hc2 (fun b hb => ?_)).keep nodE_ok hb5, hbox, World.ownsRow_nil _ _ _ _, World.ownsRow_nil _ _ _ _,
    (fun b hb => by cases hb), (fun b hb => by cases hb), fun b hb => ?_, fun j b hj hb => .inl hb, (((Below.chg hb _).late hc1 (fun b hb => .inl (.inr hb))).late hc2 (fun b hb => .inl (.inl hb))).late (Below.chg hb5 fun _ => False) (fun _ h => h.elim), by omega, hR, huz, hgz⟩
  · subst hb
    refine ⟨fun e => ?_, fun j hj e => ?_⟩
    · simp only [Value.ownBlock, Option.some.injEq] at e; exact hgR e
    · have := (hacc.sub j e.1 _ e.2).1; omega
  · simp only [Value.ownBlock, Option.some.injEq] at hb
    subst hb
    rcases hat with h1 | h1
    · exact .inl h1
    · right; omega
/-- the node is laid in its place -/
theorem PI.done {g cap : Nat} (h : PI w R N u G l0 t x v (.slice (some ⟨g, 0, none⟩) lr.length cap) Gr Cr lr su cu s c) (hk : l0.length < lr.length) (hs : s.length ≤ 2 ^ 30) (hc : c.length ≤ 2 ^ 30) {bl : P.Tri} (hbl : lr.set l0.length (s, c, t, x) = l0 ++ bl) :
    Planted R bl u G l0 w ((((v.setCell ⟨g, l0.length * 4, none⟩ su).setCell ⟨g, l0.length * 4 + 1, none⟩ cu).setCell ⟨g, l0.length * 4 + 2, none⟩ (.bool t)).setCell ⟨g, l0.length * 4 + 3, none⟩ (.string (S x))) := by
  have hsl := World.ownsRow.lt h.so
  have hcl := World.ownsRow.lt h.co
  have hg := h.acc.lt g rfl
  have hacc := h.acc.put (n := (s, c, t, x)) hk (ints_own h.so hs) (ints_own h.co hc) (fun b hb => ?_) (fun b hb => ?_) (fun b h1 h2 => (h.ns b h1).2.2.2 h2)
  have hch := ((((Chg.refl (fun b => b = g) v).setCell (p := ⟨g, l0.length * 4, none⟩) rfl su).setCell (p := ⟨g, l0.length * 4 + 1, none⟩) rfl cu).setCell (p := ⟨g, l0.length * 4 + 2, none⟩) rfl (.bool t)).setCell (p := ⟨g, l0.length * 4 + 3, none⟩) rfl (.string (S x))
  · rw [hbl] at hacc
    refine ⟨.slice (some ⟨g, 0, none⟩) lr.length cap, _, _, h.bl.stand hch (fun e => by omega), hacc, fun j b hj hb => ?_, fun b hb => (h.un b hb).imp id fun h => h.1, h.chg.late hch (fun b hb => ?_)⟩
    · rw [← hbl, List.length_set] at hj
      by_cases ej : j = l0.length
      · simp only [if_pos ej] at hb
        right
        rcases hb with hb | hb
        · exact (hsl b hb).1
        · exact (hcl b hb).1
      · simp only [if_neg ej] at hb
        exact (h.gn j b hj hb).imp id fun h => h.1
    · rcases h.un b (by rw [hb]; rfl) with e | e
      · exact .inl (.inr e)
      · exact .inr e.1
  · have h1 := h.ns b hb
    have hb2 := hsl b hb
    have hR := h.rz
    exact ⟨⟨by omega, hb2.2⟩, fun e => h1.2.1 (by rw [e]; rfl), fun j hj _ => h1.2.2.1 j hj⟩
  · have h1 := h.nc b hb
    have hb2 := hcl b hb
    have hR := h.rz
    exact ⟨⟨by omega, hb2.2⟩, fun e => h1.2.1 (by rw [e]; rfl), fun j hj _ => h1.2.2 j hj⟩
end
end
section
section
open Go Go.RowKit
set_option maxHeartbeats 1000000
set_option maxRecDepth 100000
theorem own_form {v : World} {B : Nat} {e : TypeId} {z : Nat} {u : Value} {n : Nat} {xs : List Value} (h : v.ownsRow B e z u n xs) : ∃ ad cap, u = .slice ad n cap := by
  rcases h.2 with ⟨rfl, h0⟩ | ⟨g, cap, cur, hv, _⟩
  · exact ⟨none, 0, by rw [h0]⟩
  · exact ⟨_, cap, hv⟩
theorem own_some {v : World} {B : Nat} {e : TypeId} {z : Nat} {u : Value} {n : Nat} {xs : List Value} (h : v.ownsRow B e z u n xs) (hn : 0 < n) : ∃ g cap, u = .slice (some ⟨g, 0, none⟩) n cap := by
  rcases h.2 with ⟨rfl, h0⟩ | ⟨g, cap, cur, hv, _⟩
  · omega
  · exact ⟨g, cap, hv⟩
theorem AccY.cells4 {α : Type} {E : ElT α} {e : TypeId} {B : Nat} {v : World} {g n cap : Nat} {G : Nat → Blk} {C : Nat → List Value} {l : List α} (h : AccY e 4 E B v (.slice (some ⟨g, 0, none⟩) n cap) G C l) (hn : n = l.length) {k : Nat} (hk : k < l.length) :
    ∃ a b c d, (v.cell? ⟨g, k * 4, none⟩ = some a ∧ v.cell? ⟨g, k * 4 + 1, none⟩ = some b ∧ v.cell? ⟨g, k * 4 + 2, none⟩ = some c ∧ v.cell? ⟨g, k * 4 + 3, none⟩ = some d) ∧ v.frozen? ⟨g, k * 4, none⟩ = false ∧ v.frozen? ⟨g, k * 4 + 1, none⟩ = false ∧ v.frozen? ⟨g, k * 4 + 2, none⟩ = false ∧ v.frozen? ⟨g, k * 4 + 3, none⟩ = false := by
  subst hn
  have hw := (h.el k hk).1
  have key : ∀ i (hi : i < 4), v.cell? ⟨g, k * 4 + i, none⟩ = some ((C k)[i]'(by omega)) ∧ v.frozen? ⟨g, k * 4 + i, none⟩ = false := fun i hi =>
    ⟨(World.ownsRow.cellAt h.owns (k * 4 + i) (by omega)).trans (flat_get (fun j hj => (h.el j hj).1) k i hk (by omega)), World.ownsRow.frozenAt h.owns _⟩
  have a := key 0 (by omega); have b := key 1 (by omega); have c := key 2 (by omega); have d := key 3 (by omega)
  exact ⟨_, _, _, _, ⟨a.1, b.1, c.1, d.1⟩, a.2, b.2, c.2, d.2⟩
theorem Planted.below {R : Nat} {bl : P.Tri} {u : Value} {G : Nat → Blk} {l : P.Tri} {w v v' : World} (h : Planted R bl u G l w v) (hb : Below v.heap.size v v') : Planted R bl u G l w v' := by
  obtain ⟨u', G', C', h1, h2, h3, h4, h5⟩ := h
  exact ⟨u', G', C', h1.below hb, h2.keep nodE_ok hb, h3, h4, h5.late (Below.chg hb fun _ => False) fun _ h => h.elim⟩
def lenV : Value → Nat
  | .slice _ n _ => n
  | _ => 0
theorem addr_add (g o k : Nat) : (⟨g, o, none⟩ : Addr).add k = ⟨g, o + k, none⟩ := by unfold Addr.add; split <;> simp_all
theorem size_ent (w : World) : (sizeOf (Tryz.prog.elem 24)).run Tryz.prog w = .ok 2 w := by kernel_rfl
/-- what stands behind the first k entries -/
theorem ent_from {v : World} {ad : Option Addr} {cap : Nat} {l : P.Dic} (h : EntR v (.slice ad l.length cap) l) (k : Nat) (hk : k ≤ l.length) (x : Int) (hx : x = k) :
    ∃ ad', (∀ w, (Instr.slice 24 (.slice ad l.length cap) (some (.int .i64 x)) none none).run Tryz.prog w = .ok (.slice ad' (l.length - k) (cap - k)) w) ∧ EntR v (.slice ad' (l.length - k) (cap - k)) (l.drop k) := by
  subst hx
  obtain ⟨ad', cap', he, h2, hn, h3⟩ := h
  injection he with e1 e2 e3
  subst e1 e3
  refine ⟨if cap = k then ad else ad.map (·.add (k * 2)), fun w => ?_, ?_⟩
  · rw [run_slice_l w 24 ad l.length cap Tryz.underlying24 .i64 k (by omega) (by omega), size_ent]
    rfl
  · refine ⟨_, _, by rw [List.length_drop], by rw [List.length_drop]; omega, fun e => ?_, ?_⟩
    · split at e
      · omega
      · rw [Option.map_eq_none_iff] at e
        have := hn e; omega
    · by_cases hd : k = l.length
      · left; rw [hd, List.drop_length]
      · right
        rcases h3 with h3 | ⟨g, o, h4, h5, h6⟩
        · rw [h3] at hd hk; simp at hd hk; omega
        · refine ⟨g, o + k * 2, ?_, h5, fun j hj => ?_⟩
          · rw [if_neg (by omega), h4, Option.map_some, addr_add]
          · rw [List.length_drop] at hj
            obtain ⟨x, a, b, c⟩ := h6 (k + j) (by omega)
            rw [List.getElem_drop]
            exact ⟨x, by rw [show o + k * 2 + j * 2 = o + (k + j) * 2 by omega]; exact a, by rw [show o + k * 2 + j * 2 + 1 = o + (k + j) * 2 + 1 by omega]; exact b, c⟩
/-- the first k entries -/
theorem ent_to {v : World} {ad : Option Addr} {cap : Nat} {l : P.Dic} (h : EntR v (.slice ad l.length cap) l) (k : Nat) (hk : k ≤ l.length) :
    (∀ w, (Instr.slice 24 (.slice ad l.length cap) none (some (.int .i64 k)) none).run Tryz.prog w = .ok (.slice ad k cap) w) ∧ EntR v (.slice ad k cap) (l.take k) := by
  obtain ⟨ad', cap', he, h2, hn, h3⟩ := h
  injection he with e1 e2 e3
  subst e1 e3
  refine ⟨fun w => ?_, ?_⟩
  · rw [run_slice_h w 24 ad l.length cap Tryz.underlying24 .i64 k (by omega) (by omega), size_ent]
    show Result.ok (sliced ad 0 k cap 2) w = _
    unfold sliced
    congr 2
    split
    · rfl
    · cases ad <;> rfl
  · refine ⟨_, _, by rw [List.length_take, Nat.min_eq_left hk], by rw [List.length_take]; omega, hn, ?_⟩
    rcases h3 with h3 | ⟨g, o, h4, h5, h6⟩
    · left; rw [h3, List.take_nil]
    · refine .inr ⟨g, o, h4, h5, fun j hj => ?_⟩
      rw [List.length_take] at hj
      obtain ⟨x, a, b, c⟩ := h6 j (by omega)
      rw [List.getElem_take]
      exact ⟨x, a, b, c⟩
/-- a stroke of an entry's outline -/
theorem ent_stroke {v : World} {ad : Option Addr} {n cap : Nat} {l : P.Dic} (h : EntR v (.slice ad n cap) l) (j : Nat) (hj : j < l.length) (d : Nat) (hd : d < (l[j]'hj).1.length) :
    ∃ g o g2 o2 xc, ad = some ⟨g, o, none⟩ ∧ g < v.heap.size ∧ g2 < v.heap.size ∧ v.cell? ⟨g, o + j * 2, none⟩ = some (.slice (some ⟨g2, o2, none⟩) (l[j]'hj).1.length xc) ∧ v.cell? ⟨g2, o2 + d, none⟩ = some (.int .i64 (P.strokeAt d (l[j]'hj))) := by
  obtain ⟨g, o, h1, h2, x, c0, c1, hx⟩ := h.at j hj
  obtain ⟨xd, xc, rfl, hl, _⟩ := id hx
  obtain ⟨g2, o2, h3, h4, h5⟩ := hx.at d hd
  subst h3
  refine ⟨g, o, g2, o2, xc, h1, h2, h4, c0, ?_⟩
  rw [h5]
  unfold P.strokeAt
  rw [List.getD_eq_getElem?_getD, List.getElem?_eq_getElem hd]; rfl
end
section
namespace P
theorem own_none (d : Nat) (es : Dic) (h : es.length = 0) : ownText d es = (false, []) ∧ rest d es = es := by
  rw [List.length_eq_zero_iff.1 h]; exact ⟨rfl, rfl⟩
theorem own_yes (d : Nat) (es : Dic) (h : 0 < es.length) (hl : es[0].1.length = d) : ownText d es = (true, es[0].2) ∧ rest d es = es.drop 1 := by
  cases es with
  | nil => exact absurd h (Nat.lt_irrefl _)
  | cons e l => rw [own_cons, rest_cons, if_pos (show e.1.length = d from hl), if_pos (show e.1.length = d from hl)]; exact ⟨rfl, rfl⟩
theorem own_no (d : Nat) (es : Dic) (h : 0 < es.length) (hl : es[0].1.length ≠ d) : ownText d es = (false, []) ∧ rest d es = es := by
  cases es with
  | nil => exact absurd h (Nat.lt_irrefl _)
  | cons e l => rw [own_cons, rest_cons, if_neg (show ¬ e.1.length = d from hl), if_neg (show ¬ e.1.length = d from hl)]; exact ⟨rfl, rfl⟩
/-- how far a node's building has come: what is left of its entries, its strokes, its children, its nodes -/
structure Half (f d base : Nat) (es : Dic) (n : Nat) (left : Dic) (s c : List Int) (nodes : Tri) : Prop where
  le : left.length ≤ n
  all : kids (fun b g => build f (d + 1) b g) d (base + 1) (groups d es.length (rest d es)) = (s ++ (kids (fun b g => build f (d + 1) b g) d (base + 1 + nodes.length) (groups d n left)).1, c ++ (kids (fun b g => build f (d + 1) b g) d (base + 1 + nodes.length) (groups d n left)).2.1, nodes ++ (kids (fun b g => build f (d + 1) b g) d (base + 1 + nodes.length) (groups d n left)).2.2)
theorem Half.start (f d base : Nat) (es : Dic) : Half f d base es es.length (rest d es) [] [] [] :=
  ⟨by
    cases es with
    | nil => exact Nat.le_refl _
    | cons a l => rw [rest_cons]; split <;> simp, by simp⟩
/-- the entries that share the first stroke of what is left -/
def front (d : Nat) : Dic → Dic
  | [] => []
  | e :: l => e :: l.takeWhile fun x => strokeAt d x == strokeAt d e
def behind (d : Nat) : Dic → Dic
  | [] => []
  | e :: l => l.dropWhile fun x => strokeAt d x == strokeAt d e
theorem front_behind (d : Nat) (l : Dic) : front d l ++ behind d l = l := by
  cases l with
  | nil => rfl
  | cons e l => unfold front behind; rw [List.cons_append, List.takeWhile_append_dropWhile]
theorem front_take (d : Nat) (l : Dic) : l.take (front d l).length = front d l := by
  have h := front_behind d l
  have := List.take_left (l₁ := front d l) (l₂ := behind d l)
  rwa [h] at this
theorem front_drop (d : Nat) (l : Dic) : l.drop (front d l).length = behind d l := by
  have h := front_behind d l
  have := List.drop_left (l₁ := front d l) (l₂ := behind d l)
  rwa [h] at this
theorem front_pos (d : Nat) (l : Dic) (h : l ≠ []) : 0 < (front d l).length := by
  cases l with
  | nil => exact absurd rfl h
  | cons e l => simp [front]
theorem front_len (d : Nat) (l : Dic) : (front d l).length ≤ l.length := by
  have := congrArg List.length (front_behind d l)
  simp at this; omega
/-- within the front, all strokes are the first one's; the next one differs -/
theorem front_same (d : Nat) (l : Dic) (j : Nat) (hj : j < (front d l).length) (hl : j < l.length) : strokeAt d l[j] = headStroke d l := by
  cases l with
  | nil => exact absurd hl (Nat.not_lt_zero _)
  | cons e l =>
    show _ = strokeAt d e
    cases j with
    | zero => rfl
    | succ j =>
      have h1 : j < (l.takeWhile fun x => strokeAt d x == strokeAt d e).length := by simp [front] at hj; exact hj
      have h2 := List.all_eq_true.1 (List.all_takeWhile (l := l) (p := fun x => strokeAt d x == strokeAt d e)) _ (List.getElem_mem h1)
      have h3 : (l.takeWhile fun x => strokeAt d x == strokeAt d e)[j] = l[j]'(by simp at hl; omega) := (List.takeWhile_prefix (fun x => strokeAt d x == strokeAt d e)).getElem h1
      rw [h3] at h2
      simpa using h2
theorem front_next (d : Nat) (l : Dic) (h : (front d l).length < l.length) : strokeAt d (l[(front d l).length]'h) ≠ headStroke d l := by
  cases l with
  | nil => exact absurd h (Nat.not_lt_zero _)
  | cons e l =>
    have h0 : behind d (e :: l) ≠ [] := by
      intro e0
      have := congrArg List.length (front_behind d (e :: l))
      rw [e0] at this; simp at this h; omega
    have h1 : (e :: l)[(front d (e :: l)).length]'h = (behind d (e :: l)).head h0 := by
      have h2 : (front d (e :: l) ++ behind d (e :: l))[(front d (e :: l)).length]? = (behind d (e :: l))[0]? := by rw [List.getElem?_append_right (Nat.le_refl _), Nat.sub_self]
      rw [front_behind, List.getElem?_eq_getElem h] at h2
      revert h0 h2
      generalize behind d (e :: l) = b
      intro h0 h2
      cases b with
      | nil => exact absurd rfl h0
      | cons x b => simpa using h2
    rw [h1]
    show _ ≠ strokeAt d e
    have h3 := List.head_dropWhile_not (l := l) (fun x => strokeAt d x == strokeAt d e) h0
    intro e1
    rw [show (behind d (e :: l)).head h0 = (l.dropWhile fun x => strokeAt d x == strokeAt d e).head h0 from rfl] at e1
    rw [beq_eq_false_iff_ne] at h3
    exact h3 e1
theorem Half.step {f d base n : Nat} {es left : Dic} {s c : List Int} {nodes : Tri} (h : Half f d base es n left s c nodes) (hl : left ≠ []) :
    Half f d base es (n - 1) (behind d left) (s ++ [headStroke d left]) (c ++ [((base + 1 + nodes.length : Nat) : Int)]) (nodes ++ build f (d + 1) (base + 1 + nodes.length) (front d left)) := by
  cases left with
  | nil => exact absurd rfl hl
  | cons e l =>
    have hle := h.le
    obtain ⟨m, rfl⟩ : ∃ m, n = m + 1 := ⟨n - 1, by simp at hle; omega⟩
    have ha := h.all
    rw [Nat.add_sub_cancel]
    refine ⟨Nat.le_trans (List.dropWhile_sublist _).length_le (by simp at hle; omega), ?_⟩
    rw [ha]
    rw [List.length_append, ← Nat.add_assoc]
    simp only [List.append_assoc, List.singleton_append]
    rfl
theorem groups_len (d : Nat) : ∀ (n : Nat) (l : Dic), (groups d n l).length ≤ n
  | 0, _ => Nat.le_refl _
  | _ + 1, [] => Nat.zero_le _
  | n + 1, e :: l => by
    unfold groups
    have := groups_len d n (l.dropWhile fun x => strokeAt d x == strokeAt d e)
    simp; omega
theorem Half.small {f d base n : Nat} {es left : Dic} {s c : List Int} {nodes : Tri} (h : Half f d base es n left s c nodes) : s.length ≤ es.length ∧ c.length ≤ es.length ∧ nodes.length + 1 ≤ (build (f + 1) d base es).length := by
  have ha := h.all
  have h1 := kids_lens (fun b g => build f (d + 1) b g) d (groups d es.length (rest d es)) (base + 1)
  have h2 := groups_len d es.length (rest d es)
  rw [build_succ, List.length_cons]
  revert h1
  rw [ha]
  simp only [List.length_append]
  omega
theorem Half.done {f d base n : Nat} {es : Dic} {s c : List Int} {nodes : Tri} (h : Half f d base es n [] s c nodes) : build (f + 1) d base es = (s, c, ownText d es) :: nodes := by
  have ha := h.all
  have hg : groups d n [] = [] := by cases n <;> rfl
  rw [hg] at ha
  rw [build_succ, ha]
  simp [kids]
theorem Shared.front {p : List Int} {l : Dic} (h : Shared p l) (hl : ∀ e ∈ l, p.length < e.1.length) : Shared (p ++ [headStroke p.length l]) (P.front p.length l) ∧ Shared p (behind p.length l) ∧ ∀ e ∈ behind p.length l, p.length < e.1.length := by
  cases l with
  | nil => exact ⟨⟨fun e he => (by cases he), fun e he => (by cases he), List.Pairwise.nil⟩, h, hl⟩
  | cons e l =>
    have h1 := (groups_parts (l.length + 1) (e :: l) (by simp) h hl).one (e :: l.takeWhile fun x => strokeAt p.length x == strokeAt p.length e) (by unfold groups; simp)
    have hsubD : (l.dropWhile (fun x => strokeAt p.length x == strokeAt p.length e)).Sublist (e :: l) := List.Sublist.cons _ (List.dropWhile_sublist _)
    exact ⟨h1.2.2, ⟨fun x hx => h.pre x (hsubD.subset hx), fun x hx => h.len x (hsubD.subset hx), h.lt.sublist hsubD⟩, fun x hx => hl x (hsubD.subset hx)⟩
end P
end
end
end Go.Proofs.YtkjidjomlpnnlaaGreatDoor
