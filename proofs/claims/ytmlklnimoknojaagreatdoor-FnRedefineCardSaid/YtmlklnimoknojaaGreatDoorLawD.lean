/- A row that grows, of which one element was made ahead: its memory. Plain: the reference's insertion as its loop goes. -/
import Derived.Deep.DeepCutAuto
import Derived.Test.YtmlklnimoknojaaGreatDoorCurD
import Derived.Test.YtmlklnimoknojaaGreatDoorMemD
import Derived.Test.YtmlklnimoknojaaGreatDoorOutD
import Derived.Test.YtmlklnimoknojaaGreatDoorValD
namespace Go.Proofs.YtmlklnimoknojaaGreatDoor
namespace P
def putStep (e : Ent) (s : Dic × Bool) (x : Ent) : Dic × Bool :=
  ((if decide (0 ≤ cmp x.1 e.1) && !s.2 then s.1 ++ [e] else s.1) ++ (if decide (cmp x.1 e.1 = 0) then [] else [x]), s.2 || decide (0 ≤ cmp x.1 e.1))
def putFold (e : Ent) (l : Dic) : Dic × Bool := l.foldl (putStep e) ([], false)
theorem putFold_snoc (e x : Ent) (l : Dic) : putFold e (l ++ [x]) = putStep e (putFold e l) x := by
  unfold putFold; rw [List.foldl_append]; rfl
theorem putFold_F (e : Ent) : ∀ (l acc : Dic) (p : Bool), (if (l.foldl (putStep e) (acc, p)).2 then (l.foldl (putStep e) (acc, p)).1 else (l.foldl (putStep e) (acc, p)).1 ++ [e]) = acc ++ putF e p l
  | [], acc, p => by cases p <;> simp [putF]
  | x :: l, acc, p => by
    rw [List.foldl_cons]
    rw [show putStep e (acc, p) x = ((if decide (0 ≤ cmp x.1 e.1) && !p then acc ++ [e] else acc) ++ (if decide (cmp x.1 e.1 = 0) then [] else [x]), p || decide (0 ≤ cmp x.1 e.1)) from rfl, putFold_F e l, putF]
    by_cases h1 : (decide (0 ≤ cmp x.1 e.1) && !p) = true
    · rw [if_pos h1, if_pos h1]; simp
    · rw [if_neg h1, if_neg h1]; simp
theorem putFold_eq (e : Ent) (l : Dic) : (if (putFold e l).2 then (putFold e l).1 else (putFold e l).1 ++ [e]) = putF e false l := by
  have := putFold_F e l [] false
  rw [List.nil_append] at this
  exact this
theorem putFold_len (e : Ent) (l : Dic) : (putFold e l).1.length ≤ l.length + (putFold e l).2.toNat := by
  have key : ∀ (l acc : Dic) (p : Bool), (l.foldl (putStep e) (acc, p)).1.length + p.toNat ≤ acc.length + l.length + (l.foldl (putStep e) (acc, p)).2.toNat := by
    intro l
    induction l with
    | nil => intro acc p; simp
    | cons x l ih =>
      intro acc p
      rw [List.foldl_cons]
      have h2 : (putStep e (acc, p) x).1.length + p.toNat ≤ acc.length + 1 + (putStep e (acc, p) x).2.toNat := by
        unfold putStep
        by_cases h0 : 0 ≤ cmp x.1 e.1
        · have h3 : cmp x.1 e.1 = 0 ∨ ¬ cmp x.1 e.1 = 0 := Decidable.em _
          cases p <;> rcases h3 with h3 | h3 <;> simp [h0, h3]
        · have h3 : ¬ cmp x.1 e.1 = 0 := by omega
          cases p <;> simp [h0, h3]
      generalize putStep e (acc, p) x = s at *
      obtain ⟨a', p'⟩ := s
      have h := ih a' p'
      simp only [List.length_cons] at h2 ⊢
      omega
  have := key l [] false
  simpa [putFold] using this
end P
open Go Go.RowKit
set_option maxHeartbeats 1000000
set_option maxRecDepth 100000
variable {α : Type} {E : ElT α} {wd : Nat}
def AccR (e : TypeId) (wd : Nat) (E : ElT α) (B : Nat) (R : Blk) (v : World) (u : Value) (l : List α) (xs : List Value) : Prop :=
  ∃ (G : Nat → Blk) (C : Nat → List Value), xs = flat C l.length ∧ v.ownsRow B e wd u l.length xs ∧ B ≤ v.heap.size ∧
    (∀ j (h : j < l.length), (C j).length = wd ∧ E v (G j) (C j) (l[j]'h)) ∧ (∀ j, j < l.length → ∀ b, G j b → (B ≤ b ∨ R b) ∧ b < v.heap.size ∧ u.ownBlock ≠ some b) ∧ (∀ i j, i < j → j < l.length → ∀ b, G i b → G j b → False) ∧ (∀ b, R b → b < B)
theorem AccR.owns {e : TypeId} {B : Nat} {R : Blk} {v : World} {u : Value} {l : List α} {xs : List Value} (h : AccR e wd E B R v u l xs) : v.ownsRow B e wd u l.length xs := by
  obtain ⟨G, C, _, h1, _⟩ := h; exact h1
theorem AccR.nil {e : TypeId} {B : Nat} {R : Blk} {v : World} {u : Value} (h : v.ownsRow B e wd u 0 []) (hB : B ≤ v.heap.size) (hR : ∀ b, R b → b < B) : AccR e wd E B R v u ([] : List α) [] :=
  ⟨fun _ _ => False, fun _ => [], rfl, h, hB, fun _ hj => absurd hj (Nat.not_lt_zero _), fun _ hj => absurd hj (Nat.not_lt_zero _), fun _ _ _ hj => absurd hj (Nat.not_lt_zero _), hR⟩
theorem AccR.size {e : TypeId} {B : Nat} {R : Blk} {v : World} {u : Value} {l : List α} {xs : List Value} (h : AccR e wd E B R v u l xs) : B ≤ v.heap.size := by
  obtain ⟨_, _, _, _, h, _⟩ := h; exact h
theorem AccR.keep (hE : ElOk E) {e : TypeId} {B : Nat} {R : Blk} {v v' : World} {u : Value} {l : List α} {xs : List Value} (h : AccR e wd E B R v u l xs) (hb : Below v.heap.size v v') : AccR e wd E B R v' u l xs := by
  obtain ⟨G, C, h0, h1, hB, h2, h3, h4, h5⟩ := h
  exact ⟨G, C, h0, own_kept h1 hb (Nat.le_refl _), Nat.le_trans hB hb.size, fun j hj => ⟨(h2 j hj).1, hE.keep (h2 j hj).2 ⟨hb.size, fun b hb' => hb.block b (h3 j hj b hb').2.1⟩⟩, fun j hj b hb' => ⟨(h3 j hj b hb').1, Nat.lt_of_lt_of_le (h3 j hj b hb').2.1 hb.size, (h3 j hj b hb').2.2⟩, h4, h5⟩
theorem AccR.stand (hE : ElOk E) {e : TypeId} {B : Nat} {R : Blk} {v v' : World} {u : Value} {l : List α} {xs : List Value} {X : Blk} (h : AccR e wd E B R v u l xs) (hb : Chg X v v') (hX : ∀ b, X b → b < B ∧ ¬ R b) : AccR e wd E B R v' u l xs := by
  obtain ⟨G, C, h0, h1, hB, h2, h3, h4, hR⟩ := h
  have hk : ∀ b, (B ≤ b ∨ R b) → b < v.heap.size → v'.heap[b]? = v.heap[b]? := fun b h1 h2 => hb.block b h2 fun hx => by
    have := hX b hx
    rcases h1 with h1 | h1
    · omega
    · exact this.2 h1
  refine ⟨G, C, h0, ?_, Nat.le_trans hB hb.size, fun j hj => ⟨(h2 j hj).1, hE.keep (h2 j hj).2 ⟨hb.size, fun b hb' => hk b (h3 j hj b hb').1 (h3 j hj b hb').2.1⟩⟩, fun j hj b hb' => ⟨(h3 j hj b hb').1, Nat.lt_of_lt_of_le (h3 j hj b hb').2.1 hb.size, (h3 j hj b hb').2.2⟩, h4, hR⟩
  refine ⟨h1.1, ?_⟩
  rcases h1.2 with h5 | ⟨g, cap, cur, hv, hg, hh, r⟩
  · exact .inl h5
  · have hlt := (World.ownsRow.lt h1 g (by rw [hv]; rfl)).2
    exact .inr ⟨g, cap, cur, hv, hg, by rw [hk g (.inl hg) hlt]; exact hh, r⟩
theorem AccR.form {e : TypeId} {B : Nat} {R : Blk} {v : World} {u : Value} {l : List α} {xs : List Value} (h : AccR e wd E B R v u l xs) : ∃ ad cap, u = .slice ad l.length cap := by
  rcases h.owns.2 with ⟨rfl, h0⟩ | ⟨g, cap, cur, hv, _⟩
  · exact ⟨none, 0, by rw [h0]⟩
  · exact ⟨_, cap, hv⟩
theorem AccR.snoc (hE : ElOk E) {e : TypeId} {B : Nat} {R R' : Blk} {v v1 v2 v3 : World} {u : Value} {l : List α} {xs : List Value} (h : AccR e wd E B R v u l xs) {cs : List Value} {a : α} {g cap : Nat} {F : Blk}
    (hb1 : Below v.heap.size v v1) (hF : ∀ b, F b → (v.heap.size ≤ b ∨ (R' b ∧ ¬ R b)) ∧ b < v1.heap.size) (hRR : ∀ b, R b → R' b) (hR' : ∀ b, R' b → b < B) (ha : E v1 F cs a) (hw : cs.length = wd) (hb2 : Below v1.heap.size v1 v2)
    (hown : v3.ownsRow B e wd (.slice (some ⟨g, 0, none⟩) (l.length + 1) cap) (l.length + 1) (xs ++ cs)) (hgr : v2.grownBy v3 u.ownBlock) (hat : u.ownBlock = some g ∨ g = v2.heap.size) :
    AccR e wd E B R' v3 (.slice (some ⟨g, 0, none⟩) (l.length + 1) cap) (l ++ [a]) (xs ++ cs) := by
  obtain ⟨G, C, h0, h1, hB, h2, h3, h4, hR⟩ := h
  have hub : ∀ b, u.ownBlock = some b → B ≤ b ∧ b < v.heap.size := fun b hb => World.ownsRow.lt h1 b hb
  have hz12 : v.heap.size ≤ v1.heap.size := hb1.size
  have hz2 : v1.heap.size ≤ v2.heap.size := hb2.size
  have hz3 : v2.heap.size ≤ v3.heap.size := hgr.size
  have hgB : ∀ b, b < v2.heap.size → u.ownBlock ≠ some b → v3.heap[b]? = v2.heap[b]? := fun b hb hne => hgr.block b hb (fun e => hne e.symm)
  have hFo : ∀ b, F b → u.ownBlock ≠ some b := fun b hb h' => by
    have h5 := hub b h'
    rcases (hF b hb).1 with h6 | h6
    · omega
    · have := hR' b h6.1; omega
  refine ⟨fun j => if j = l.length then F else G j, fun j => if j = l.length then cs else C j, ?_, by rw [List.length_append]; exact hown, by omega, fun j hj => ?_, fun j hj => ?_, fun i j hij hj => ?_, hR'⟩
  · rw [List.length_append]
    show _ = flat _ l.length ++ (if l.length = l.length then cs else C l.length)
    rw [if_pos rfl, h0]
    congr 1
    exact flat_congr fun j hj => (if_neg (by omega)).symm
  · show (if j = l.length then cs else C j).length = wd ∧ E v3 (if j = l.length then F else G j) (if j = l.length then cs else C j) _
    rw [List.length_append] at hj
    by_cases e : j = l.length
    · subst e
      simp only [if_true]
      refine ⟨hw, ?_⟩
      rw [List.getElem_append_right (Nat.le_refl _)]
      simp only [Nat.sub_self, List.getElem_cons_zero]
      refine hE.keep ha ⟨by omega, fun b hb => ?_⟩
      have := (hF b hb).2
      rw [hgB b (by omega) (hFo b hb), hb2.block b (by omega)]
    · simp only [if_neg e]
      have hj' : j < l.length := by simp at hj; omega
      refine ⟨(h2 j hj').1, ?_⟩
      rw [List.getElem_append_left hj']
      refine hE.keep (h2 j hj').2 ⟨by omega, fun b hb => ?_⟩
      have h5 := h3 j hj' b hb
      rw [hgB b (by omega) h5.2.2, hb2.block b (by omega), hb1.block b (by omega)]
  · show ∀ b, (if j = l.length then F else G j) b → _
    rw [List.length_append] at hj
    intro b hb
    by_cases e : j = l.length
    · rw [if_pos e] at hb
      have h5 := hF b hb
      refine ⟨h5.1.imp (fun h => by omega) (fun h => h.1), by omega, fun h' => ?_⟩
      simp only [Value.ownBlock, Option.some.injEq] at h'
      rcases hat with h'' | h''
      · exact hFo b hb (by rw [h'', h'])
      · omega
    · rw [if_neg e] at hb
      have hj' : j < l.length := by simp at hj; omega
      have h5 := h3 j hj' b hb
      refine ⟨h5.1.imp id (hRR b), by omega, fun h' => ?_⟩
      simp only [Value.ownBlock, Option.some.injEq] at h'
      subst h'
      rcases hat with h'' | h''
      · exact h5.2.2 h''
      · omega
  · show ∀ b, (if i = l.length then F else G i) b → (if j = l.length then F else G j) b → False
    rw [List.length_append] at hj
    simp at hj
    intro b h5 h6
    rw [if_neg (by omega)] at h5
    have h7 := h3 i (by omega) b h5
    by_cases e : j = l.length
    · rw [if_pos e] at h6
      rcases (hF b h6).1 with h8 | h8
      · omega
      · rcases h7.1 with h9 | h9
        · have := hR' b h8.1; omega
        · exact h8.2 h9
    · rw [if_neg e] at h6
      exact h4 i j hij (by omega) b h5 h6
theorem AccR.row {e : TypeId} {B : Nat} {R : Blk} {v : World} {u : Value} {l : List α} {xs : List Value} (h : AccR e wd E B R v u l xs) (hl : l.length ≤ 2 ^ 30) : RowO wd E v (fun b => (B ≤ b ∨ R b) ∧ b < v.heap.size) u l := by
  obtain ⟨G, C, h0, h1, hB, h2, h3, h4, hR⟩ := h
  rcases id h1.2 with ⟨rfl, hn⟩ | ⟨g, cap, cur, hv, hg, _, hnc, _⟩
  · rw [List.eq_nil_of_length_eq_zero hn]; exact RowO.nil _ _
  · have hlt := (World.ownsRow.lt h1 g (by rw [hv]; rfl)).2
    refine ⟨some ⟨g, 0, none⟩, cap, hv, hl, ⟨(fun h => by cases h), hnc⟩, .inr ⟨g, 0, G, C, rfl, ⟨⟨.inl hg, hlt⟩, fun b hb => hb.2, fun j hj i hi => ?_, fun j hj => (h2 j hj).1, fun j hj => (h2 j hj).2, fun j hj b hb => ?_, h4⟩⟩⟩
    · subst hv
      rw [Nat.zero_add]
      have hw := (h2 j hj).1
      have hlt2 : j * wd + i < l.length * wd := by
        have := Nat.mul_le_mul_right wd (show j + 1 ≤ l.length by omega)
        rw [Nat.add_mul] at this; omega
      refine ⟨(World.ownsRow.cellAt h1 (j * wd + i) hlt2).trans ?_, World.ownsRow.frozenAt h1 _⟩
      rw [h0]
      exact flat_get (fun j hj => (h2 j hj).1) j i hj hi
    · have h5 := h3 j hj b hb
      exact ⟨⟨h5.1, h5.2.1⟩, fun h' => h5.2.2 (by rw [hv, h']; rfl)⟩
end Go.Proofs.YtmlklnimoknojaaGreatDoor
namespace Go.Proofs.YtmlklnimoknojaaGreatDoor
open Go Go.RowKit
def P.kept (ok : Bool) (l : P.Dic) : P.Dic := if ok then l else []
structure Small (l : P.Dic) : Prop where
  len : l.length ≤ 2 ^ 20
  outs : ∀ e ∈ l, e.1.length ≤ 2 ^ 20
  texts : ∀ e ∈ l, e.2.length ≤ 2 ^ 30
def NBx (b : Nat) (v : World) : Prop := v.cell? ⟨b, 0, none⟩ = some (.slice none 0 0) ∧ v.frozen? ⟨b, 0, none⟩ = false ∧ b < v.heap.size
theorem NBx.stand {b : Nat} {v v' : World} {X : Blk} (h : NBx b v) (hc : Chg X v v') (hX : ¬ X b) : NBx b v' :=
  ⟨(hc.cell (p := ⟨b, 0, none⟩) h.2.2 hX).trans h.1, (hc.frozen (p := ⟨b, 0, none⟩) h.2.2 hX).trans h.2.1, Nat.lt_of_lt_of_le h.2.2 hc.size⟩
theorem NBx.below {b : Nat} {v v' : World} (h : NBx b v) (hb : Below v.heap.size v v') : NBx b v' := h.stand (Below.chg hb fun _ => False) fun h => h
theorem NBx.new (v : World) (t : TypeId) : NBx v.heap.size (v.alloc (.cells #[.slice none 0 0] t)) := by
  refine ⟨?_, ?_, ?_⟩ <;> go_simp
end Go.Proofs.YtmlklnimoknojaaGreatDoor
namespace Go.Proofs.YtmlklnimoknojaaGreatDoor
section
open Go Go.RowKit
set_option maxHeartbeats 1000000
set_option maxRecDepth 100000
end
section
open Go Go.RowKit
def Box1 (b : Nat) (x : Value) (v : World) : Prop := v.cell? ⟨b, 0, none⟩ = some x ∧ b < v.heap.size
theorem Box1.stand {b : Nat} {x : Value} {v v' : World} {X : Blk} (h : Box1 b x v) (hc : Chg X v v') (hX : ¬ X b) : Box1 b x v' :=
  ⟨(hc.cell (p := ⟨b, 0, none⟩) h.2 hX).trans h.1, Nat.lt_of_lt_of_le h.2 hc.size⟩
theorem Box1.below {b : Nat} {x : Value} {v v' : World} (h : Box1 b x v) (hb : Below v.heap.size v v') : Box1 b x v' := h.stand (Below.chg hb fun _ => False) fun h => h
theorem Box1.new (x : Value) (t : TypeId) (v : World) : Box1 v.heap.size x (v.alloc (.cells #[x] t)) := ⟨by go_simp, by simp⟩
theorem Chg.belowB {X : Blk} {B : Nat} {a v v' : World} (h : Below B a v) (hc : Chg X v v') (hB : B ≤ v.heap.size) (hX : ∀ b, X b → B ≤ b) : Below B a v' := h.trans (hc.below hB hX)
end
end Go.Proofs.YtmlklnimoknojaaGreatDoor
