/- Walks: a stack of layers, as the cursor draws it. -/
import Derived.Deep.DeepCutAuto
import Derived.Test.YtonhkglilnplbaaGreatDoorCurE5
import Derived.Test.YtonhkglilnplbaaGreatDoorLCells
set_option linter.all false
namespace Go.Proofs.YtonhkglilnplbaaGreatDoor
open Go Go.RowKit
set_option maxHeartbeats 4000000
set_option maxRecDepth 100000
/-- layers that are read as long as some blocks stand -/
def ReadL (lo hi : Nat) (v : World) (u : Value) (l : P.Lays) : Prop := (hi ≤ v.heap.size ∧ ∀ a n c, u = .slice (some a) n c → lo ≤ a.block ∧ a.block < hi) ∧ ∀ v', Kept (Bet lo hi) v v' → LayR v' u l
theorem ReadL.now {lo hi : Nat} {v : World} {u : Value} {l : P.Lays} (h : ReadL lo hi v u l) : LayR v u l := h.2 v ⟨Nat.le_refl _, fun _ _ => rfl⟩
theorem ReadL.chg {lo hi : Nat} {v v' : World} {u : Value} {l : P.Lays} {X : Blk} (h : ReadL lo hi v u l) (hc : Chg X v v') (hX : ∀ b, lo ≤ b → b < hi → ¬ X b) : ReadL lo hi v' u l :=
  ⟨⟨Nat.le_trans h.1.1 hc.size, h.1.2⟩, fun v2 hk => h.2 v2 ⟨Nat.le_trans hc.size hk.1, fun b hb => (hk.2 b hb).trans (hc.block b (Nat.lt_of_lt_of_le hb.2 h.1.1) (hX b hb.1 hb.2))⟩⟩
theorem ReadL.wide {lo hi lo' hi' : Nat} {v : World} {u : Value} {l : P.Lays} (h : ReadL lo hi v u l) (h1 : lo' ≤ lo) (h2 : hi ≤ hi') (h3 : hi' ≤ v.heap.size) : ReadL lo' hi' v u l :=
  ⟨⟨h3, fun a n c e => by have := h.1.2 a n c e; omega⟩, fun v2 hk => h.2 v2 (hk.mono fun _ hb => ⟨Nat.le_trans h1 hb.1, Nat.lt_of_lt_of_le hb.2 h2⟩)⟩
theorem ReadL.at {lo hi : Nat} {v : World} {ad : Option Addr} {n c : Nat} {l : P.Lays} (h : ReadL lo hi v (.slice ad n c) l) (i : Nat) (hi' : i < l.length) : ∃ g o x, ad = some ⟨g, o, none⟩ ∧ g < v.heap.size ∧ v.cell? ⟨g, o + i * 2, none⟩ = some x ∧ v.cell? ⟨g, o + i * 2 + 1, none⟩ = some (.bool (l[i]'hi').2) ∧ ReadE lo hi v x (l[i]'hi').1 := by
  obtain ⟨g, o, rfl, hg, x, c0, c1, hx⟩ := LayR.at h.now i hi'
  have hb := h.1.2 _ _ _ rfl
  refine ⟨g, o, x, rfl, hg, c0, c1, h.1.1, fun v' hk => ?_⟩
  obtain ⟨g', o', e, hg', x', c0', c1', hx'⟩ := LayR.at (h.2 v' hk) i hi'
  injection e with e
  injection e with e1 e2
  subst e1 e2
  have c2 := (World.cell?_of_block (w := v) (a := ⟨g, o + i * 2, none⟩) (hk.2 g hb)).trans c0
  rw [c0'] at c2
  injection c2 with c2
  exact c2 ▸ hx'
structure DrawnL (l : P.Lays) : Prop where
  len : l.length ≤ 5
  dics : ∀ t ∈ l, Drawn t.1
/-- a row of layers that grows, whose dictionaries may be shared: all of it lies in blocks A..H, the row itself behind B -/
def LOwn (A B H : Nat) (v : World) (u : Value) (its : List LIt) : Prop :=
  v.ownsRow B 74 2 u its.length (lcells its) ∧ (A ≤ B ∧ B ≤ H ∧ H ≤ v.heap.size) ∧ (∀ k, u.ownBlock = some k → k < H) ∧
    ∀ t ∈ its, Drawn t.2.1 ∧ ∃ F : Blk, (∀ b, F b → A ≤ b ∧ b < H ∧ u.ownBlock ≠ some b) ∧ ∀ v', Kept F v v' → EntR v' t.1 t.2.1
theorem LOwn.nil {A B : Nat} {v : World} (hA : A ≤ B) (hB : B ≤ v.heap.size) : LOwn A B v.heap.size v (.slice none 0 0) [] := ⟨World.ownsRow_nil _ _ _ _, ⟨hA, hB, Nat.le_refl _⟩, (fun _ h => by cases h), fun _ h => by cases h⟩
theorem LOwn.stand {A B H : Nat} {v v' : World} {u : Value} {its : List LIt} {X : Blk} (h : LOwn A B H v u its) (hc : Chg X v v') (hX : ∀ k, A ≤ k → k < H → ¬ X k) : LOwn A B H v' u its := by
  obtain ⟨h1, ⟨h2, h3, h5⟩, h6, h4⟩ := h
  refine ⟨owns_stand h1 hc fun k hk => by have h3 := World.ownsRow.lt h1 k hk; exact hX k (by omega) (h6 k hk), ⟨h2, h3, Nat.le_trans h5 hc.size⟩, h6, fun t ht => ?_⟩
  obtain ⟨a, F, b, c⟩ := h4 t ht
  exact ⟨a, F, b, fun v2 hk => c v2 ⟨Nat.le_trans hc.size hk.1, fun k hF => (hk.2 k hF).trans (hc.block k (Nat.lt_of_lt_of_le (b k hF).2.1 h5) (hX k (b k hF).1 (b k hF).2.1))⟩⟩
theorem LOwn.form {A B H : Nat} {v : World} {u : Value} {its : List LIt} (h : LOwn A B H v u its) : ∃ ad cap, u = .slice ad its.length cap := by
  rcases h.1.2 with ⟨rfl, h0⟩ | ⟨g, cap, cur, hv, _⟩
  · exact ⟨none, 0, by rw [h0]⟩
  · exact ⟨_, cap, hv⟩
/-- one layer more -/
theorem LOwn.snoc {A B H : Nat} {v v2 v3 : World} {u x : Value} {its : List LIt} {lo hi g cap : Nat} {d : P.Dic} {b : Bool} (h : LOwn A B H v u its) (hx : ReadE lo hi v x d) (hd : Drawn d) (hlo : A ≤ lo) (hne : ∀ k, lo ≤ k → k < hi → u.ownBlock ≠ some k)
    (hb : Below v.heap.size v v2) (hown : v3.ownsRow B 74 2 (.slice (some ⟨g, 0, none⟩) (its.length + 1) cap) (its.length + 1) (lcells its ++ [x, .bool b])) (hgr : v2.grownBy v3 u.ownBlock) (hat : u.ownBlock = some g ∨ g = v2.heap.size) (hg : g < v3.heap.size) :
    LOwn A B v3.heap.size v3 (.slice (some ⟨g, 0, none⟩) (its.length + 1) cap) (its ++ [(x, (d, b))]) := by
  obtain ⟨h1, ⟨h2, h3, h5⟩, h6, h4⟩ := h
  have hz1 : v.heap.size ≤ v2.heap.size := hb.size
  have hz2 : v2.heap.size ≤ v3.heap.size := hgr.size
  have hkb : ∀ k, k < v.heap.size → u.ownBlock ≠ some k → v3.heap[k]? = v.heap[k]? := fun k hk hn => (hgr.block k (by omega) (fun e => hn e.symm)).trans (hb.block k hk)
  have hgn : ∀ k, k < v.heap.size → u.ownBlock ≠ some k → (Value.slice (some ⟨g, 0, none⟩) (its.length + 1) cap).ownBlock ≠ some k := by
    intro k hk hn e
    have e2 : g = k := Option.some.inj e
    rcases hat with h | h
    · exact hn (e2 ▸ h)
    · omega
  refine ⟨by rw [List.length_append, lcells_append]; exact hown, ⟨h2, by omega, Nat.le_refl _⟩, fun k e => by have e2 : g = k := Option.some.inj e; omega, fun t ht => ?_⟩
  rcases List.mem_append.1 ht with ht | ht
  · obtain ⟨a, F, b, c⟩ := h4 t ht
    exact ⟨a, F, fun k hk => ⟨(b k hk).1, by have := (b k hk).2.1; omega, hgn k (by have := (b k hk).2.1; omega) (b k hk).2.2⟩, fun v4 hk => c v4 ⟨by have := hk.1; omega, fun k hF => (hk.2 k hF).trans (hkb k (by have := (b k hF).2.1; omega) (b k hF).2.2)⟩⟩
  · simp only [List.mem_cons, List.not_mem_nil, or_false] at ht
    subst ht
    have hh := hx.1
    exact ⟨hd, Bet lo hi, fun k hk => ⟨by have := hk.1; omega, by have := hk.2; omega, hgn k (by have := hk.2; omega) (hne k hk.1 hk.2)⟩, fun v4 hk => hx.2 v4 ⟨by have := hk.1; omega, fun k hF => (hk.2 k hF).trans (hkb k (by have := hF.2; omega) (hne k hF.1 hF.2))⟩⟩
/-- the row of items, read -/
theorem LOwn.read {A B H lo : Nat} {v : World} {u : Value} {its : List LIt} (h : LOwn A B H v u its) (hl : its.length ≤ 2 ^ 30) (hlo : lo ≤ A) : ReadL lo H v u (its.map (·.2)) := by
  obtain ⟨h1, ⟨h2, h3, h5⟩, h6, h4⟩ := h
  refine ⟨⟨h5, fun a n c e => ?_⟩, fun v' hk => ?_⟩
  · subst e
    rcases id h1.2 with ⟨hv, _⟩ | ⟨g, cap, cur, hv, hg, _⟩
    · cases hv
    · injection hv with hv
      injection hv with hv
      subst hv
      exact ⟨by show lo ≤ g; omega, h6 g rfl⟩
  rcases id h1.2 with ⟨rfl, h0⟩ | ⟨g, cap, cur, rfl, hg, _, hnc, _⟩
  · have e : its = [] := List.eq_nil_of_length_eq_zero h0
    subst e
    exact ⟨none, 0, rfl, ⟨by simp, by simp⟩, fun _ => rfl, .inl rfl⟩
  · have hlt := World.ownsRow.lt h1 g rfl
    have hgH := h6 g rfl
    have hkg : v'.heap[g]? = v.heap[g]? := hk.2 g ⟨by omega, hgH⟩
    refine ⟨some ⟨g, 0, none⟩, cap, by rw [List.length_map], ⟨by rw [List.length_map]; omega, by rw [List.length_map]; exact hnc⟩, (fun h => by cases h), .inr ⟨g, 0, rfl, Nat.lt_of_lt_of_le hlt.2 hk.1, fun j hj => ?_⟩⟩
    have hj' : j < its.length := by simpa using hj
    obtain ⟨a, b⟩ := lcells_get its j hj'
    obtain ⟨_, F, hF, hE⟩ := h4 _ (List.getElem_mem hj')
    have c1 := World.ownsRow.cellAt h1 (j * 2) (by omega)
    have c2 := World.ownsRow.cellAt h1 (j * 2 + 1) (by omega)
    rw [show 2 * j = j * 2 by omega] at a b
    refine ⟨(its[j]'hj').1, ?_, ?_, ?_⟩
    · rw [Nat.zero_add]; exact (World.cell?_of_block (w := v) (a := ⟨g, j * 2, none⟩) hkg).trans (c1.trans a)
    · rw [Nat.zero_add, List.getElem_map]; exact (World.cell?_of_block (w := v) (a := ⟨g, j * 2 + 1, none⟩) hkg).trans (c2.trans b)
    · rw [List.getElem_map]; exact hE v' ⟨hk.1, fun b hb => hk.2 b ⟨by have := (hF b hb).1; omega, (hF b hb).2.1⟩⟩
end Go.Proofs.YtonhkglilnplbaaGreatDoor
