/- Walks: the law's own functions on tries: a mark, what is held, a size. Tries that came in. -/
import Derived.Deep.DeepCutAuto
import Derived.Test.YtojcfpjoikmgcaaGreatDoorTrieA
import Derived.Test.YtojcfpjoikmgcaaGreatDoorLawD
namespace Go.Proofs.YtojcfpjoikmgcaaGreatDoor
section
namespace P
/-- the mark of a node's switch -/
def flagT (k : Int) : Bool := k % 3 == 0
def kAtN (k : Int) (n : Nd) : Int := k + n.1.length + n.2.1.length + 2
/-- the mark behind a row of nodes -/
def kAtT (k : Int) : Tri → Int
  | [] => k
  | n :: l => kAtT (kAtN k n) l
def markN (k : Int) (n : Nd) : Nd := (marks k n.1.length, marks (k + n.1.length) n.2.1.length, flagT (k + n.1.length + n.2.1.length), mtext (k + n.1.length + n.2.1.length + 1))
def markT (k : Int) : Tri → Tri
  | [] => []
  | n :: l => markN k n :: markT (kAtN k n) l
theorem markT_len (k : Int) : ∀ l : Tri, (markT k l).length = l.length
  | [] => rfl
  | n :: l => by simp [markT, markT_len _ l]
theorem kAtT_snoc (k : Int) (e : Nd) : ∀ l : Tri, kAtT k (l ++ [e]) = kAtN (kAtT k l) e
  | [] => rfl
  | x :: l => by simp only [List.cons_append, kAtT]; exact kAtT_snoc _ e l
theorem markT_snoc (k : Int) (e : Nd) : ∀ l : Tri, markT k (l ++ [e]) = markT k l ++ [markN (kAtT k l) e]
  | [] => rfl
  | x :: l => by simp only [List.cons_append, markT, kAtT]; rw [markT_snoc _ e l]
theorem kAtT_ge (k : Int) : ∀ l : Tri, k + l.length ≤ kAtT k l
  | [] => by simp [kAtT]
  | e :: l => by have := kAtT_ge (kAtN k e) l; unfold kAtN at this; simp only [kAtT, List.length_cons]; unfold kAtN; omega
theorem kAtT_app (k : Int) : ∀ a b : Tri, kAtT k (a ++ b) = kAtT (kAtT k a) b
  | [], _ => rfl
  | _ :: a, b => kAtT_app _ a b
theorem kAtT_take (k : Int) (l : Tri) (j : Nat) : kAtT k (l.take j) ≤ kAtT k l := by
  have h2 := kAtT_app k (l.take j) (l.drop j)
  rw [List.take_append_drop] at h2
  have h3 := kAtT_ge (kAtT k (l.take j)) (l.drop j)
  omega
theorem markT_get (k : Int) (l : Tri) (j : Nat) (h : j < l.length) (h' : j < (markT k l).length) : (markT k l)[j] = markN (kAtT k (l.take j)) l[j] := by
  induction l generalizing k j with
  | nil => simp at h
  | cons e l ih =>
    cases j with
    | zero => rfl
    | succ j =>
      simp only [markT, List.getElem_cons_succ, List.take_succ_cons, kAtT]
      exact ih _ _ _ _
/-- how much a row of nodes holds -/
def sizeT : Tri → Int
  | [] => 0
  | n :: l => n.1.length + n.2.1.length + n.2.2.2.length + sizeT l
theorem sizeT_snoc (e : Nd) : ∀ l : Tri, sizeT (l ++ [e]) = sizeT l + (e.1.length + e.2.1.length + e.2.2.2.length)
  | [] => by simp [sizeT]
  | x :: l => by simp only [List.cons_append, sizeT]; rw [sizeT_snoc e l]; omega
theorem sizeT_nonneg : ∀ l : Tri, 0 ≤ sizeT l
  | [] => Int.le_refl 0
  | e :: l => by have := sizeT_nonneg l; simp only [sizeT]; omega
theorem sizeT_mem {e : Nd} : ∀ {l : Tri}, e ∈ l → (e.1.length : Int) + e.2.1.length + e.2.2.2.length ≤ sizeT l
  | [], h => by cases h
  | x :: l, h => by
    have := sizeT_nonneg l
    simp only [sizeT]
    rcases List.mem_cons.1 h with rfl | h
    · omega
    · have := sizeT_mem h; omega
theorem kAtT_le (k : Int) : ∀ l : Tri, kAtT k l ≤ k + 2 * l.length + sizeT l
  | [] => by simp [kAtT, sizeT]
  | e :: l => by have := kAtT_le (kAtN k e) l; unfold kAtN at this; simp only [kAtT, sizeT, List.length_cons]; unfold kAtN; omega
/-- the trie, or none -/
def keptT (ok : Bool) (l : Tri) : Tri := if ok then l else []
end P
open Go Go.RowKit
set_option maxHeartbeats 1000000
set_option maxRecDepth 100000
/-- how a row of nodes stands while it is marked -/
def MarkN (w : World) (F : Blk) (ad : Option Addr) (k : Int) (j : Nat) (l : P.Tri) (v : World) : Prop :=
  Chg F w v ∧ (l = [] ∨ ∃ g o G C, ad = some ⟨g, o, none⟩ ∧ RowC 4 nodE v F g o G C (P.markT k (l.take j) ++ l.drop j))
theorem MarkN.start {w : World} {F : Blk} {ad : Option Addr} {k : Int} {l : P.Tri} (h : l = [] ∨ ∃ g o G C, ad = some ⟨g, o, none⟩ ∧ RowC 4 nodE w F g o G C l) : MarkN w F ad k 0 l w :=
  ⟨Chg.refl _ _, h.imp id fun ⟨g, o, G, C, h1, h2⟩ => ⟨g, o, G, C, h1, by simpa [P.markT] using h2⟩⟩
theorem MarkN.cells {w v : World} {F : Blk} {ad : Option Addr} {k : Int} {j : Nat} {l : P.Tri} (h : MarkN w F ad k j l v) (hj : j < l.length) :
    ∃ g o x y G1 G2, ad = some ⟨g, o, none⟩ ∧ g < v.heap.size ∧ (v.cell? ⟨g, o + j * 4, none⟩ = some x ∧ v.cell? ⟨g, o + j * 4 + 1, none⟩ = some y ∧ v.cell? ⟨g, o + j * 4 + 2, none⟩ = some (.bool l[j].2.2.1) ∧ v.cell? ⟨g, o + j * 4 + 3, none⟩ = some (.string (S l[j].2.2.2))) ∧ (v.frozen? ⟨g, o + j * 4 + 2, none⟩ = false ∧ v.frozen? ⟨g, o + j * 4 + 3, none⟩ = false) ∧ ¬ G1 g ∧ ¬ G2 g ∧ Ints v G1 x l[j].1 ∧ (∀ v1, Chg G1 v v1 → Ints v1 G2 y l[j].2.1) ∧
      ∀ v1 v2 v4, Ints v1 G1 x (P.markN (P.kAtT k (l.take j)) l[j]).1 → Chg G1 v v1 → Ints v2 G2 y (P.markN (P.kAtT k (l.take j)) l[j]).2.1 → Chg G2 v1 v2 → Below (v2.setCell ⟨g, o + j * 4 + 2, none⟩ (.bool (P.markN (P.kAtT k (l.take j)) l[j]).2.2.1)).heap.size (v2.setCell ⟨g, o + j * 4 + 2, none⟩ (.bool (P.markN (P.kAtT k (l.take j)) l[j]).2.2.1)) v4 →
        MarkN w F ad k (j + 1) l (v4.setCell ⟨g, o + j * 4 + 3, none⟩ (.string (S (P.markN (P.kAtT k (l.take j)) l[j]).2.2.2))) := by
  obtain ⟨hc, h⟩ := h
  obtain ⟨g, o, G, C, hg, hr⟩ := h.resolve_left (by intro e; rw [e] at hj; simp at hj)
  have hA : (P.markT k (l.take j)).length = j := by rw [P.markT_len, List.length_take]; omega
  have hlen : (P.markT k (l.take j) ++ l.drop j).length = l.length := by rw [List.length_append, hA, List.length_drop]; omega
  have hj' : j < (P.markT k (l.take j) ++ l.drop j).length := by omega
  have hel : (P.markT k (l.take j) ++ l.drop j)[j] = l[j] := by
    rw [List.getElem_append_right (by omega)]
    simp [hA]
  obtain ⟨x, y, G1, G2, hC, hI, hJ, s1, s2, h12⟩ := hr.el j hj'
  rw [hel] at hC hI hJ
  have c0 := hr.cel j hj' 0 (by rw [hC]; simp)
  have c1 := hr.cel j hj' 1 (by rw [hC]; simp)
  have c2 := hr.cel j hj' 2 (by rw [hC]; simp)
  have c3 := hr.cel j hj' 3 (by rw [hC]; simp)
  simp only [hC, List.getElem_cons_zero, List.getElem_cons_succ, Nat.add_zero] at c0 c1 c2 c3
  have n1 : ¬ G1 g := fun h => (hr.sub j hj' _ (s1 _ h)).2 rfl
  have n2 : ¬ G2 g := fun h => (hr.sub j hj' _ (s2 _ h)).2 rfl
  refine ⟨g, o, x, y, G1, G2, hg, hr.lt _ hr.own, ⟨c0.1, c1.1, c2.1, c3.1⟩, ⟨c2.2, c3.2⟩, n1, n2, hI, fun v1 hc1 => hJ.stand intE_ok hc1 fun b hb hx => h12 b hx hb, fun v1 v2 v4 hI1 hc1 hJ2 hc2 hb4 => ?_⟩
  have hset : (P.markT k (l.take j) ++ l.drop j).set j (P.markN (P.kAtT k (l.take j)) l[j]) = P.markT k (l.take (j + 1)) ++ l.drop (j + 1) := by
    rw [set_mid _ _ j _ hA (by rw [List.length_drop]; omega), take_snoc l j hj, P.markT_snoc, List.drop_drop]
  generalize P.markN (P.kAtT k (l.take j)) l[j] = nd at *
  have c12 := (hc1.mono (F' := G j) fun b _ hb => s1 b hb).trans (hc2.mono (F' := G j) fun b _ hb => s2 b hb)
  have hgj : ¬ G j g := fun h => (hr.sub j hj' _ h).2 rfl
  have hgs := hr.lt _ hr.own
  have hz2 : v.heap.size ≤ v2.heap.size := c12.size
  have hs3 : (v2.setCell ⟨g, o + j * 4 + 2, none⟩ (.bool nd.2.2.1)).heap.size = v2.heap.size := by simp [World.setCell]
  have hz4 : v2.heap.size ≤ v4.heap.size := by have := hb4.size; omega
  have hs5 : (v4.setCell ⟨g, o + j * 4 + 3, none⟩ (.string (S nd.2.2.2))).heap.size = v4.heap.size := by simp [World.setCell]
  have hblk : ∀ b, b < v2.heap.size → b ≠ g → (v4.setCell ⟨g, o + j * 4 + 3, none⟩ (.string (S nd.2.2.2))).heap[b]? = v2.heap[b]? := by
    intro b hb hne
    rw [Below.heap_setCell _ _ _ _ hne, hb4.block b (by rw [hs3]; exact hb), Below.heap_setCell _ _ _ _ hne]
  have hcel : Cel (v4.setCell ⟨g, o + j * 4 + 3, none⟩ (.string (S nd.2.2.2))) g (o + j * 4) [x, y, .bool nd.2.2.1, .string (S nd.2.2.2)] := by
    have e := ((((hr.cel j hj').keep (c12.block g hgs hgj)).set_at 2 (by rw [hC]; simp) (.bool nd.2.2.1)).keep (hb4.block g (by rw [hs3]; omega))).set_at 3 (by rw [List.length_set, hC]; simp) (.string (S nd.2.2.2))
    rw [hC] at e
    exact e
  have hoth : ∀ i, i < (P.markT k (l.take j) ++ l.drop j).length → i ≠ j → Cel (v4.setCell ⟨g, o + j * 4 + 3, none⟩ (.string (S nd.2.2.2))) g (o + i * 4) (C i) := by
    intro i hi hij
    have hw := hr.wid i hi
    have o2 := cel_out (wd := 4) (o := o) hij 2 (by omega)
    have o3 := cel_out (wd := 4) (o := o) hij 3 (by omega)
    refine ((((hr.cel i hi).keep (c12.block g hgs hgj)).set_other ?_ _).keep (hb4.block g (by rw [hs3]; omega))).set_other ?_ _ <;> rw [hw] <;> omega
  have hch : Chg F v (v4.setCell ⟨g, o + j * 4 + 3, none⟩ (.string (S nd.2.2.2))) :=
    ((((c12.mono fun b _ hb => (hr.sub j hj' b hb).1).setCell (p := ⟨g, o + j * 4 + 2, none⟩) hr.own _).trans (Below.chg hb4 F))).setCell (p := ⟨g, o + j * 4 + 3, none⟩) hr.own _
  have hI2 := hI1.stand intE_ok hc2 fun b hb hx => h12 b hb hx
  revert hs5 hblk hcel hoth hch
  generalize v4.setCell ⟨g, o + j * 4 + 3, none⟩ (.string (S nd.2.2.2)) = v5
  intro hs5 hblk hcel hoth hch
  have hlt2 : ∀ b, G j b → b < v2.heap.size := fun b hb => Nat.lt_of_lt_of_le (hr.lt b (hr.sub j hj' b hb).1) hz2
  refine ⟨hc.trans hch, .inr ⟨g, o, _, _, hg, hset ▸ hr.put nodE_ok j hj' F (G j) [x, y, .bool nd.2.2.1, .string (S nd.2.2.2)] nd (fun _ h => h) (fun b hb => ?_) ?_ hcel rfl ?_ (hr.sub j hj') ?_ hoth ?_⟩⟩
  · have := hr.lt b hb; omega
  · omega
  · exact ⟨x, y, G1, G2, rfl, hI2.keep intE_ok ⟨by omega, fun b hb => hblk b (hlt2 b (s1 b hb)) (hr.sub j hj' b (s1 b hb)).2⟩, hJ2.keep intE_ok ⟨by omega, fun b hb => hblk b (hlt2 b (s2 b hb)) (hr.sub j hj' b (s2 b hb)).2⟩, s1, s2, h12⟩
  · intro i hi hij b h1 h2
    rcases Nat.lt_or_gt_of_ne hij with e | e
    · exact hr.apart i j e hj' b h1 h2
    · exact hr.apart j i e hi b h2 h1
  · intro i hi hij b hb
    have hb1 := hr.lt _ (hr.sub i hi b hb).1
    rw [hblk b (by omega) (hr.sub i hi b hb).2]
    refine c12.block b hb1 fun h2 => ?_
    rcases Nat.lt_or_gt_of_ne hij with e | e
    · exact hr.apart i j e hj' b hb h2
    · exact hr.apart j i e hi b h2 hb
theorem MarkN.last {w v : World} {F : Blk} {ad : Option Addr} {k : Int} {l : P.Tri} {cap : Nat} (h : MarkN w F ad k l.length l v) (hl : l.length ≤ 2 ^ 30) (hn : (ad = none → cap = 0) ∧ l.length ≤ cap) : Nods v F (.slice ad l.length cap) (P.markT k l) := by
  obtain ⟨_, h⟩ := h
  refine ⟨ad, cap, by rw [P.markT_len], by rw [P.markT_len]; exact hl, ⟨hn.1, by rw [P.markT_len]; exact hn.2⟩, ?_⟩
  rcases h with rfl | ⟨g, o, G, C, hg, hr⟩
  · exact .inl rfl
  · rw [List.take_length, List.drop_length, List.append_nil] at hr
    exact .inr ⟨g, o, G, C, hg, hr⟩
end
end Go.Proofs.YtojcfpjoikmgcaaGreatDoor
