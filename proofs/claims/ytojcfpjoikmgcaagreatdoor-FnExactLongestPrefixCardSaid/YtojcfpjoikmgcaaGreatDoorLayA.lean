/- Walks: the law's own functions on layers: a copy, they are equal. Walks: the law's own functions on layers: a mark, what is held, their size. Arguments of a law: rows of layers, however long; their size. -/
import Derived.Deep.DeepCutAuto
import Derived.Test.YtojcfpjoikmgcaaGreatDoorLawD
namespace Go.Proofs.YtojcfpjoikmgcaaGreatDoor
section
abbrev P.Lay := P.Dic × Bool
abbrev P.Lays := List P.Lay
open Go Go.RowKit
set_option maxHeartbeats 1000000
set_option maxRecDepth 100000
/-- a slice of layers, as it is read -/
def LayR (v : World) (u : Value) (l : P.Lays) : Prop :=
  ∃ (ad : Option Addr) (cap : Nat), u = .slice ad l.length cap ∧ (l.length ≤ 2 ^ 45 ∧ l.length ≤ cap) ∧ (ad = none → cap = 0) ∧ (l = [] ∨ ∃ g o, ad = some ⟨g, o, none⟩ ∧ g < v.heap.size ∧ ∀ (j : Nat) (h : j < l.length), ∃ x, v.cell? ⟨g, o + j * 2, none⟩ = some x ∧ v.cell? ⟨g, o + j * 2 + 1, none⟩ = some (.bool (l[j]'h).2) ∧ EntR v x (l[j]'h).1)
theorem LayR.below {v v' : World} {u : Value} {l : P.Lays} (h : LayR v u l) (hb : Below v.heap.size v v') : LayR v' u l := by
  obtain ⟨ad, cap, h1, h2, hn, h3⟩ := h
  refine ⟨ad, cap, h1, h2, hn, h3.imp id ?_⟩
  rintro ⟨g, o, h4, h5, h6⟩
  refine ⟨g, o, h4, Nat.lt_of_lt_of_le h5 hb.size, fun j hj => ?_⟩
  obtain ⟨x, a, b, c⟩ := h6 j hj
  exact ⟨x, (hb.cell (p := ⟨g, _, none⟩) h5).trans a, (hb.cell (p := ⟨g, _, none⟩) h5).trans b, c.below hb⟩
theorem LayR.at {v : World} {ad : Option Addr} {n cap : Nat} {l : P.Lays} (h : LayR v (.slice ad n cap) l) (j : Nat) (hj : j < l.length) : ∃ g o, ad = some ⟨g, o, none⟩ ∧ g < v.heap.size ∧ ∃ x, v.cell? ⟨g, o + j * 2, none⟩ = some x ∧ v.cell? ⟨g, o + j * 2 + 1, none⟩ = some (.bool (l[j]'hj).2) ∧ EntR v x (l[j]'hj).1 := by
  obtain ⟨ad', cap', he, _, _, h3⟩ := h
  injection he with h1 h2 h4
  rcases h3 with h3 | ⟨g, o, h5, h6, h7⟩
  · rw [h3] at hj; exact absurd hj (Nat.not_lt_zero _)
  · exact ⟨g, o, h1.trans h5, h6, h7 j hj⟩
/-- a layer -/
def layE : ElT P.Lay := fun v F cs e => ∃ x, cs = [x, .bool e.2] ∧ RowO 2 entE v F x e.1
theorem layE_ok : ElOk layE :=
  ⟨fun ⟨x, h, k⟩ hk => ⟨x, h, k.keep entE_ok hk⟩, fun ⟨x, h, k⟩ hF hl => ⟨x, h, k.wide hF hl⟩⟩
abbrev Lays := RowO 2 layE
theorem Lays.read {v : World} {F : Blk} {u : Value} {l : P.Lays} (h : Lays v F u l) : LayR v u l := by
  obtain ⟨ad, cap, h1, h2, hn, h3⟩ := h
  refine ⟨ad, cap, h1, by omega, hn.1, h3.imp id ?_⟩
  rintro ⟨g, o, G, C, h4, h5⟩
  refine ⟨g, o, h4, h5.lt _ h5.own, fun j hj => ?_⟩
  obtain ⟨x, he, hx⟩ := h5.el j hj
  have hc := (h5.cel j hj 0 (by rw [he]; simp)).1
  have hd := (h5.cel j hj 1 (by rw [he]; simp)).1
  simp only [he, List.getElem_cons_zero, List.getElem_cons_succ, Nat.add_zero] at hc hd
  exact ⟨x, hc, hd, Ents.read hx⟩
def LayPost (l : P.Dic) (t : Bool) (w : World) (e : Ending) (w' : World) : Prop := ∃ u, e = .returned (.agg #[u, .bool t]) ∧ Ents w' (Bet w.heap.size w'.heap.size) u l ∧ Below w.heap.size w w'
theorem info_lay : (Tryz.prog.info? 113).map (fun i => (i.zero, i.size, i.bytes)) = some (some (.agg #[.slice none 0 0, .bool false]), 2, 32) := by kernel_rfl
theorem run_mkL (k : Nat) (w : World) (hk : k ≤ 2 ^ 20) : (Instr.makeSlice 66 (.int .i64 k) (.int .i64 k)).run Tryz.prog w = .ok (.slice (some ⟨w.heap.size, 0, none⟩) k k) (w.alloc (.cells (madeCells #[.slice none 0 0, .bool false] (k * 2)) 113)) := by
  obtain ⟨i, hi, he⟩ := Option.map_eq_some_iff.mp info_lay
  simp only [Prod.mk.injEq] at he
  obtain ⟨hz, hs, hb⟩ := he
  have h := run_make (P := Tryz.prog) w 66 113 i (.agg #[.slice none 0 0, .bool false]) Tryz.underlying66 hi hz .i64 .i64 k k (by omega) (by omega) (by rw [hb]; omega) (by omega)
  rw [hs, Int.toNat_natCast] at h
  simpa [Value.cells] using h
def noLay : P.Lay := ([], false)
/-- a fresh row of entries -/
theorem made_lays (k : Nat) (w : World) (t : TypeId) : RowC 2 layE (w.alloc (.cells (madeCells #[.slice none 0 0, .bool false] (k * 2)) t)) (Bet w.heap.size (w.heap.size + 1)) w.heap.size 0 (fun _ _ => False) (fun _ => [.slice none 0 0, .bool false]) (List.replicate k noLay) := by
  refine ⟨⟨Nat.le_refl _, by omega⟩, fun b hb => by simpa using hb.2, fun j hj => ?_, fun _ _ => rfl, fun j hj => ?_, fun _ _ _ h => h.elim, fun _ _ _ _ _ h _ => h⟩
  · exact made_rec #[.slice none 0 0, .bool false] k j w t (by simpa using hj)
  · rw [List.getElem_replicate]
    exact ⟨_, rfl, RowO.nil _ _⟩
/-- how a copy of entries stands in a round -/
def CopyL (B j : Nat) (l : P.Lays) (v : World) : Prop := ∃ (m : P.Lays) (G : Nat → Blk) (C : Nat → List Value), m.length = l.length ∧ m.take j = l.take j ∧ RowC 2 layE v (Bet B v.heap.size) B 0 G C m
theorem CopyL.cells {B j : Nat} {l : P.Lays} {v : World} (h : CopyL B j l v) (hj : j < l.length) : ∃ x y, v.cell? ⟨B, j * 2, none⟩ = some x ∧ v.cell? ⟨B, j * 2 + 1, none⟩ = some y ∧ v.frozen? ⟨B, j * 2, none⟩ = false ∧ v.frozen? ⟨B, j * 2 + 1, none⟩ = false := by
  obtain ⟨m, G, C, hm, _, h⟩ := h
  have hw := h.wid j (by omega)
  have a := h.cel j (by omega) 0 (by omega)
  have b := h.cel j (by omega) 1 (by omega)
  rw [Nat.zero_add] at a b
  exact ⟨_, _, a.1, b.1, a.2, b.2⟩
theorem CopyL.put {B j : Nat} {l : P.Lays} {v v1 : World} (h : CopyL B j l v) (hj : j < l.length) (hB : B < v.heap.size) {u : Value} (hb : Below v.heap.size v v1) (hI : Ents v1 (Bet v.heap.size v1.heap.size) u l[j].1) :
    CopyL B (j + 1) l ((v1.setCell ⟨B, j * 2, none⟩ u).setCell ⟨B, j * 2 + 1, none⟩ (.bool l[j].2)) := by
  obtain ⟨m, G, C, hm, ht, h⟩ := h
  have hs : ((v1.setCell ⟨B, j * 2, none⟩ u).setCell ⟨B, j * 2 + 1, none⟩ (.bool l[j].2)).heap.size = v1.heap.size := by simp [World.setCell]
  have hblk : ∀ b, b ≠ B → ((v1.setCell ⟨B, j * 2, none⟩ u).setCell ⟨B, j * 2 + 1, none⟩ (.bool l[j].2)).heap[b]? = v1.heap[b]? := by
    intro b hb
    rw [Below.heap_setCell _ _ _ _ hb, Below.heap_setCell _ _ _ _ hb]
  have h1 : RowC 2 layE v1 (Bet B v.heap.size) B 0 G C m := h.keep layE_ok ⟨hb.size, fun b hb' => hb.block b hb'.2⟩
  refine ⟨m.set j l[j], _, _, by rw [List.length_set]; exact hm, ?_, h1.put layE_ok j (by omega) (Bet B ((v1.setCell ⟨B, j * 2, none⟩ u).setCell ⟨B, j * 2 + 1, none⟩ (.bool l[j].2)).heap.size) (Bet v.heap.size v1.heap.size) [u, .bool l[j].2] l[j] ?_ ?_ ?_ ?_ rfl ?_ ?_ ?_ ?_ ?_⟩
  · rw [take_snoc l j hj, take_snoc (m.set j l[j]) j (by rw [List.length_set]; omega), List.take_set_of_le (Nat.le_refl j), ht]
    simp
  · intro b hb'; rw [hs]; exact ⟨hb'.1, Nat.lt_of_lt_of_le hb'.2 hb.size⟩
  · intro b hb'; exact hb'.2
  · rw [hs]; exact Nat.le_refl _
  · have hc := h1.cel j (by omega)
    have hw := h1.wid j (by omega)
    have e := (hc.set_at 0 (by omega) u).set_at 1 (by rw [List.length_set]; omega) (.bool l[j].2)
    simp only [Nat.zero_add, Nat.add_zero] at e ⊢
    obtain ⟨x, y, hxy⟩ : ∃ x y, C j = [x, y] := by
      match hC : C j, hw with
      | [x, y], _ => exact ⟨x, y, rfl⟩
    rw [hxy] at e
    exact e
  · refine ⟨u, rfl, (hI.stand (X := fun b => b = B) entE_ok (((Chg.refl (fun b => b = B) v1).setCell (p := ⟨B, j * 2, none⟩) rfl _).setCell (p := ⟨B, j * 2 + 1, none⟩) rfl _) ?_)⟩
    rintro b hb' rfl
    exact absurd hb'.1 (by omega)
  · intro b hb'; rw [hs]; exact ⟨⟨by have := hb'.1; omega, hb'.2⟩, by have := hb'.1; omega⟩
  · intro i hi hij b h2 h3
    have := (h1.sub i hi b h2).1.2
    have := h3.1
    omega
  · intro i hi hij
    have hw := h1.wid i hi
    have hc := h1.cel i hi
    have o0 := cel_out (wd := 2) (o := 0) hij 0 (by omega)
    have o1 := cel_out (wd := 2) (o := 0) hij 1 (by omega)
    refine (hc.set_other ?_ _).set_other ?_ _ <;> rw [hw] <;> omega
  · intro i hi hij b hb'
    exact hblk b (h1.sub i hi b hb').2
/-- a slice of entries of the call's own -/
def LaysPost (l : P.Lays) (w : World) (e : Ending) (w' : World) : Prop := ∃ u, e = .returned u ∧ Lays w' (Bet w.heap.size w'.heap.size) u l ∧ Below w.heap.size w w'
/-- a dictionary of the call's own -/
def StackPost (l : P.Lays) (w : World) (e : Ending) (w' : World) : Prop := ∃ u, e = .returned (.agg #[u]) ∧ Lays w' (Bet w.heap.size w'.heap.size) u l ∧ Below w.heap.size w w'
/-- what region 6 of eqLayerS keeps -/
def KL (w : World) (c p : Nat) (x : Value) (g q : Nat) (y : Value) (eo : P.Dic) (et : Bool) (v : World) : Prop :=
  v.cell? ⟨c, p, none⟩ = some x ∧ v.cell? ⟨c, p + 1, none⟩ = some (.bool et) ∧ v.cell? ⟨g, q, none⟩ = some y ∧ v.cell? ⟨g, q + 1, none⟩ = some (.bool et) ∧ c < v.heap.size ∧ g < v.heap.size ∧ EntR v x eo ∧ EntR v y eo ∧ w.heap.size ≤ v.heap.size ∧ Below w.heap.size w v
theorem KL.step {w v v' : World} {c p g q : Nat} {x y : Value} {eo : P.Dic} {et : Bool} (h : KL w c p x g q y eo et v) (hb : Below v.heap.size v v') : KL w c p x g q y eo et v' := by
  obtain ⟨h1, h2, h3, h4, h5, h6, h7, h8, h9, h10⟩ := h
  exact ⟨(hb.cell (p := ⟨c, p, none⟩) h5).trans h1, (hb.cell (p := ⟨c, p + 1, none⟩) h5).trans h2, (hb.cell (p := ⟨g, q, none⟩) h6).trans h3, (hb.cell (p := ⟨g, q + 1, none⟩) h6).trans h4,
    Nat.lt_of_lt_of_le h5 hb.size, Nat.lt_of_lt_of_le h6 hb.size, h7.below hb, h8.below hb, Nat.le_trans h9 hb.size, h10.trans (hb.mono h9)⟩
end
section
namespace P
/-- the mark of a layer's switch -/
def flag (k : Int) : Bool := k % 3 == 0
/-- the mark behind a row of layers -/
def kAtL (k : Int) : Lays → Int
  | [] => k
  | e :: l => kAtL (kAt k e.1 + 1) l
def markLL (k : Int) : Lays → Lays
  | [] => []
  | e :: l => (markE k e.1, flag (kAt k e.1)) :: markLL (kAt k e.1 + 1) l
theorem markLL_len (k : Int) : ∀ l : Lays, (markLL k l).length = l.length
  | [] => rfl
  | e :: l => by simp [markLL, markLL_len _ l]
theorem kAtL_snoc (k : Int) (e : Lay) : ∀ l : Lays, kAtL k (l ++ [e]) = kAt (kAtL k l) e.1 + 1
  | [] => rfl
  | x :: l => by simp only [List.cons_append, kAtL]; exact kAtL_snoc _ e l
theorem markLL_snoc (k : Int) (e : Lay) : ∀ l : Lays, markLL k (l ++ [e]) = markLL k l ++ [(markE (kAtL k l) e.1, flag (kAt (kAtL k l) e.1))]
  | [] => rfl
  | x :: l => by simp only [List.cons_append, markLL, kAtL]; rw [markLL_snoc _ e l]
theorem kAtL_ge (k : Int) : ∀ l : Lays, k + l.length ≤ kAtL k l
  | [] => by simp [kAtL]
  | e :: l => by have := kAtL_ge (kAt k e.1 + 1) l; have := kAt_ge k e.1; simp only [kAtL, List.length_cons]; omega
theorem kAtL_app (k : Int) : ∀ a b : Lays, kAtL k (a ++ b) = kAtL (kAtL k a) b
  | [], _ => rfl
  | _ :: a, b => kAtL_app _ a b
theorem kAtL_take (k : Int) (l : Lays) (j : Nat) : kAtL k (l.take j) ≤ kAtL k l := by
  have h2 := kAtL_app k (l.take j) (l.drop j)
  rw [List.take_append_drop] at h2
  have h3 := kAtL_ge (kAtL k (l.take j)) (l.drop j)
  omega
theorem markLL_get (k : Int) (l : Lays) (j : Nat) (h : j < l.length) (h' : j < (markLL k l).length) : (markLL k l)[j] = (markE (kAtL k (l.take j)) l[j].1, flag (kAt (kAtL k (l.take j)) l[j].1)) := by
  induction l generalizing k j with
  | nil => simp at h
  | cons e l ih =>
    cases j with
    | zero => rfl
    | succ j =>
      simp only [markLL, List.getElem_cons_succ, List.take_succ_cons, kAtL]
      exact ih _ _ _ _
/-- how much a row of layers holds -/
def sizeL : Lays → Int
  | [] => 0
  | e :: l => e.1.length + sizeE e.1 + sizeL l
theorem sizeL_snoc (e : Lay) : ∀ l : Lays, sizeL (l ++ [e]) = sizeL l + e.1.length + sizeE e.1
  | [] => by simp [sizeL]
  | x :: l => by simp only [List.cons_append, sizeL]; rw [sizeL_snoc e l]; omega
theorem sizeL_nonneg : ∀ l : Lays, 0 ≤ sizeL l
  | [] => Int.le_refl 0
  | e :: l => by have := sizeL_nonneg l; have := sizeE_nonneg e.1; simp only [sizeL]; omega
theorem sizeL_mem {e : Lay} : ∀ {l : Lays}, e ∈ l → (e.1.length : Int) + sizeE e.1 ≤ sizeL l
  | [], h => by cases h
  | x :: l, h => by
    have := sizeL_nonneg l
    have := sizeE_nonneg x.1
    simp only [sizeL]
    rcases List.mem_cons.1 h with rfl | h
    · omega
    · have := sizeL_mem h; omega
theorem kAtL_le (k : Int) : ∀ l : Lays, kAtL k l ≤ k + l.length + sizeL l
  | [] => by simp [kAtL, sizeL]
  | e :: l => by have := kAtL_le (kAt k e.1 + 1) l; have := kAt_le k e.1; simp only [kAtL, sizeL, List.length_cons]; omega
end P
open Go Go.RowKit
set_option maxHeartbeats 1000000
set_option maxRecDepth 100000
/-- how a row of layers stands while it is marked -/
def MarkL (w : World) (F : Blk) (ad : Option Addr) (k : Int) (j : Nat) (l : P.Lays) (v : World) : Prop :=
  Chg F w v ∧ (l = [] ∨ ∃ g o G C, ad = some ⟨g, o, none⟩ ∧ RowC 2 layE v F g o G C (P.markLL k (l.take j) ++ l.drop j))
theorem MarkL.start {w : World} {F : Blk} {ad : Option Addr} {k : Int} {l : P.Lays} (h : l = [] ∨ ∃ g o G C, ad = some ⟨g, o, none⟩ ∧ RowC 2 layE w F g o G C l) : MarkL w F ad k 0 l w :=
  ⟨Chg.refl _ _, h.imp id fun ⟨g, o, G, C, h1, h2⟩ => ⟨g, o, G, C, h1, by simpa [P.markLL] using h2⟩⟩
theorem MarkL.cells {w v : World} {F : Blk} {ad : Option Addr} {k : Int} {j : Nat} {l : P.Lays} (h : MarkL w F ad k j l v) (hj : j < l.length) :
    ∃ g o x y Gj, ad = some ⟨g, o, none⟩ ∧ g < v.heap.size ∧ v.cell? ⟨g, o + j * 2, none⟩ = some x ∧ v.cell? ⟨g, o + j * 2 + 1, none⟩ = some y ∧ v.frozen? ⟨g, o + j * 2 + 1, none⟩ = false ∧ ¬ Gj g ∧ Ents v Gj x l[j].1 ∧
      ∀ v1 v2, Ents v1 Gj x (P.markE (P.kAtL k (l.take j)) l[j].1) → Chg Gj v v1 → Below v1.heap.size v1 v2 → MarkL w F ad k (j + 1) l (v2.setCell ⟨g, o + j * 2 + 1, none⟩ (.bool (P.flag (P.kAt (P.kAtL k (l.take j)) l[j].1)))) := by
  obtain ⟨hc, h⟩ := h
  obtain ⟨g, o, G, C, hg, hr⟩ := h.resolve_left (by intro e; rw [e] at hj; simp at hj)
  have hA : (P.markLL k (l.take j)).length = j := by rw [P.markLL_len, List.length_take]; omega
  have hlen : (P.markLL k (l.take j) ++ l.drop j).length = l.length := by rw [List.length_append, hA, List.length_drop]; omega
  have hj' : j < (P.markLL k (l.take j) ++ l.drop j).length := by omega
  have hel : (P.markLL k (l.take j) ++ l.drop j)[j] = l[j] := by
    rw [List.getElem_append_right (by omega)]
    simp [hA]
  obtain ⟨x, hC, hI⟩ := hr.el j hj'
  rw [hel] at hC hI
  have c0 := hr.cel j hj' 0 (by rw [hC]; simp)
  have c1 := hr.cel j hj' 1 (by rw [hC]; simp)
  simp only [hC, List.getElem_cons_zero, List.getElem_cons_succ, Nat.add_zero] at c0 c1
  refine ⟨g, o, x, _, G j, hg, hr.lt _ hr.own, c0.1, c1.1, c1.2, fun h => (hr.sub j hj' _ h).2 rfl, hI, fun v1 v2 hI1 hc1 hb2 => ?_⟩
  have hsz : (v2.setCell ⟨g, o + j * 2 + 1, none⟩ (.bool (P.flag (P.kAt (P.kAtL k (l.take j)) l[j].1)))).heap.size = v2.heap.size := by simp [World.setCell]
  have hz1 : v.heap.size ≤ v2.heap.size := Nat.le_trans hc1.size hb2.size
  have hset : (P.markLL k (l.take j) ++ l.drop j).set j (P.markE (P.kAtL k (l.take j)) l[j].1, P.flag (P.kAt (P.kAtL k (l.take j)) l[j].1)) = P.markLL k (l.take (j + 1)) ++ l.drop (j + 1) := by
    rw [set_mid _ _ j _ hA (by rw [List.length_drop]; omega), take_snoc l j hj, P.markLL_snoc, List.drop_drop]
  have hold : ∀ b, b < v.heap.size → ¬ G j b → b ≠ g → (v2.setCell ⟨g, o + j * 2 + 1, none⟩ (.bool (P.flag (P.kAt (P.kAtL k (l.take j)) l[j].1)))).heap[b]? = v.heap[b]? := by
    intro b hb hG hne
    rw [Below.heap_setCell _ _ _ _ hne, hb2.block b (Nat.lt_of_lt_of_le hb hc1.size), hc1.block b hb hG]
  have hrow : v2.heap[g]? = v.heap[g]? := by
    rw [hb2.block g (Nat.lt_of_lt_of_le (hr.lt _ hr.own) hc1.size), hc1.block g (hr.lt _ hr.own) fun h => (hr.sub j hj' _ h).2 rfl]
  have hch : Chg F v (v2.setCell ⟨g, o + j * 2 + 1, none⟩ (.bool (P.flag (P.kAt (P.kAtL k (l.take j)) l[j].1)))) :=
    ((hc1.mono fun b _ hb => (hr.sub j hj' b hb).1).trans (Below.chg hb2 F)).setCell (p := ⟨g, o + j * 2 + 1, none⟩) hr.own _
  refine ⟨hc.trans hch, .inr ⟨g, o, _, _, hg, hset ▸ hr.put layE_ok j hj' F (G j) [x, .bool (P.flag (P.kAt (P.kAtL k (l.take j)) l[j].1))] _ (fun _ h => h) (fun b hb => ?_) ?_ ?_ rfl ?_ (hr.sub j hj') ?_ ?_ ?_⟩⟩
  · rw [hsz]; exact Nat.lt_of_lt_of_le (hr.lt b hb) hz1
  · rw [hsz]; exact hz1
  · have e := ((hr.cel j hj').keep hrow).set_at 1 (by rw [hC]; simp) (.bool (P.flag (P.kAt (P.kAtL k (l.take j)) l[j].1)))
    rw [hC] at e
    exact e
  · refine ⟨x, rfl, (hI1.stand entE_ok (X := fun b => b = g) ((Below.chg hb2 (fun b => b = g)).setCell (p := ⟨g, o + j * 2 + 1, none⟩) rfl _) ?_)⟩
    rintro b hb rfl
    exact (hr.sub j hj' _ hb).2 rfl
  · intro i hi hij b h1 h2
    rcases Nat.lt_or_gt_of_ne hij with e | e
    · exact hr.apart i j e hj' b h1 h2
    · exact hr.apart j i e hi b h2 h1
  · intro i hi hij
    have hw := hr.wid i hi
    have o1 := cel_out (wd := 2) (o := o) hij 1 (by omega)
    refine ((hr.cel i hi).keep hrow).set_other ?_ _
    rw [hw]; exact o1
  · intro i hi hij b hb
    refine hold b (hr.lt _ (hr.sub i hi b hb).1) (fun h2 => ?_) (hr.sub i hi b hb).2
    rcases Nat.lt_or_gt_of_ne hij with e | e
    · exact hr.apart i j e hj' b hb h2
    · exact hr.apart j i e hi b h2 hb
theorem MarkL.last {w v : World} {F : Blk} {ad : Option Addr} {k : Int} {l : P.Lays} {cap : Nat} (h : MarkL w F ad k l.length l v) (hl : l.length ≤ 2 ^ 30) (hn : (ad = none → cap = 0) ∧ l.length ≤ cap) : Lays v F (.slice ad l.length cap) (P.markLL k l) := by
  obtain ⟨_, h⟩ := h
  refine ⟨ad, cap, by rw [P.markLL_len], by rw [P.markLL_len]; exact hl, ⟨hn.1, by rw [P.markLL_len]; exact hn.2⟩, ?_⟩
  rcases h with rfl | ⟨g, o, G, C, hg, hr⟩
  · exact .inl rfl
  · rw [List.take_length, List.drop_length, List.append_nil] at hr
    exact .inr ⟨g, o, G, C, hg, hr⟩
end
section
open Go Go.RowKit
set_option maxHeartbeats 1000000
set_option maxRecDepth 100000
/-- a slice of layers that came in -/
def LayA (v : World) (u : Value) (l : P.Lays) : Prop :=
  ∃ (ad : Option Addr) (cap : Nat), u = .slice ad l.length cap ∧ (l.length ≤ 9223372036854775807 ∧ l.length ≤ cap) ∧ (ad = none → cap = 0) ∧ (l = [] ∨ ∃ g o, ad = some ⟨g, o, none⟩ ∧ g < v.heap.size ∧ ∀ (j : Nat) (h : j < l.length), ∃ x, v.cell? ⟨g, o + j * 2, none⟩ = some x ∧ v.cell? ⟨g, o + j * 2 + 1, none⟩ = some (.bool (l[j]'h).2) ∧ EntA v x (l[j]'h).1)
theorem LayA.below {v v' : World} {u : Value} {l : P.Lays} (h : LayA v u l) (hb : Below v.heap.size v v') : LayA v' u l := by
  obtain ⟨ad, cap, h1, h2, hn, h3⟩ := h
  refine ⟨ad, cap, h1, h2, hn, h3.imp id ?_⟩
  rintro ⟨g, o, h4, h5, h6⟩
  refine ⟨g, o, h4, Nat.lt_of_lt_of_le h5 hb.size, fun j hj => ?_⟩
  obtain ⟨x, a, b, c⟩ := h6 j hj
  exact ⟨x, (hb.cell (p := ⟨g, _, none⟩) h5).trans a, (hb.cell (p := ⟨g, _, none⟩) h5).trans b, c.below hb⟩
theorem LayA.at {v : World} {ad : Option Addr} {n cap : Nat} {l : P.Lays} (h : LayA v (.slice ad n cap) l) (j : Nat) (hj : j < l.length) : ∃ g o, ad = some ⟨g, o, none⟩ ∧ g < v.heap.size ∧ ∃ x, v.cell? ⟨g, o + j * 2, none⟩ = some x ∧ v.cell? ⟨g, o + j * 2 + 1, none⟩ = some (.bool (l[j]'hj).2) ∧ EntA v x (l[j]'hj).1 := by
  obtain ⟨ad', cap', he, _, _, h3⟩ := h
  injection he with h1 h2 h4
  rcases h3 with h3 | ⟨g, o, h5, h6, h7⟩
  · rw [h3] at hj; exact absurd hj (Nat.not_lt_zero _)
  · exact ⟨g, o, h1.trans h5, h6, h7 j hj⟩
/-- what is known of a stack that a law hands on -/
structure SmallS (l : P.Lays) : Prop where
  len : l.length ≤ 2 ^ 20
  each : ∀ e ∈ l, Small e.1
theorem smallS_of {l : P.Lays} (h : (l.length : Int) + P.sizeL l ≤ 1048576) : SmallS l := by
  have h0 := P.sizeL_nonneg l
  refine ⟨by omega, fun e he => small_of ?_⟩
  have := P.sizeL_mem he
  omega
theorem kAtL_small {l : P.Lays} (h : (l.length : Int) + P.sizeL l ≤ 1048576) : P.kAtL 1 l ≤ 2 ^ 40 := by
  have := P.kAtL_le 1 l; omega
theorem LayA.read {v : World} {u : Value} {l : P.Lays} (h : LayA v u l) (hs : SmallS l) : LayR v u l := by
  obtain ⟨ad, cap, h1, h0, h2, h3⟩ := h
  refine ⟨ad, cap, h1, by have := hs.len; omega, h2, h3.imp id ?_⟩
  rintro ⟨g, o, h4, h5, h6⟩
  refine ⟨g, o, h4, h5, fun j hj => ?_⟩
  obtain ⟨x, a, b, c⟩ := h6 j hj
  have hj' := hs.each _ (List.getElem_mem hj)
  exact ⟨x, a, b, c.read hj'.len hj'.outs⟩
end
end Go.Proofs.YtojcfpjoikmgcaaGreatDoor
