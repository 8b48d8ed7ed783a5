/- A row of entries as a list of items, which move within the row; orders and permutations of a part of it. Plain: orders and permutations of a part of a row of items; the step of an insertion. Walks: the library's insertion sort, on any row of entries. Plain: items moved by a map of places; two blocks exchanged, two blocks turned. Walks: swapRange. Walks: two blocks of a row turned (rotate). Plain: what symMerge does: an item carried up or down; the two halves. Walks: symMerge with one item before, with one item behind a row in order. Walks: symMerge with one item behind a row in order. Plain: the search of symMerge for the place where the halves are turned. -/
import Derived.Deep.DeepCutAuto
import Derived.IntWalk
import Derived.BigRegion
import Derived.Test.YtonhkglilnplbaaGreatDoorSortD
set_option linter.all false
namespace Go.Proofs.YtonhkglilnplbaaGreatDoor
section
open Go Go.RowKit
set_option maxHeartbeats 1000000
set_option maxRecDepth 100000
/-- an entry in its row: the value of its outline, the blocks that hold it, what it is -/
structure It where
  x : Value
  G : Blk
  e : P.Ent
def It.cs (t : It) : List Value := [t.x, .string (S t.e.2)]
structure RowI (v : World) (F : Blk) (g o : Nat) (its : List It) : Prop where
  own : F g
  lt : ∀ b, F b → b < v.heap.size
  cel : ∀ j (h : j < its.length), Cel v g (o + j * 2) (its[j]'h).cs
  el : ∀ t ∈ its, Ints v t.G t.x t.e.1
  sub : ∀ t ∈ its, ∀ b, t.G b → F b ∧ b ≠ g
  apart : its.Pairwise fun s t => ∀ b, s.G b → t.G b → False
theorem RowI.of {v : World} {F : Blk} {g o : Nat} {G : Nat → Blk} {C : Nat → List Value} {l : P.Dic} (h : RowC 2 entE v F g o G C l) : ∃ its : List It, its.map (·.e) = l ∧ RowI v F g o its := by
  have key : ∀ j, ∃ x, ∀ hj : j < l.length, C j = [x, .string (S (l[j]'hj).2)] ∧ Ints v (G j) x (l[j]'hj).1 := by
    intro j
    by_cases hj : j < l.length
    · obtain ⟨x, h1, h2⟩ := h.el j hj
      exact ⟨x, fun _ => ⟨h1, h2⟩⟩
    · exact ⟨.int .i64 0, fun h => absurd h hj⟩
  obtain ⟨f, hf⟩ := Classical.axiomOfChoice key
  refine ⟨List.ofFn fun j : Fin l.length => ⟨f j, G j, l[j]⟩, ?_, h.own, h.lt, fun j hj => ?_, fun t ht => ?_, fun t ht b hb => ?_, ?_⟩
  · refine List.ext_getElem (by simp) fun i h1 h2 => by simp
  · have hj' : j < l.length := by simpa using hj
    have hc := h.cel j hj'
    rw [(hf j hj').1] at hc
    simpa [It.cs] using hc
  · obtain ⟨j, rfl⟩ := List.mem_ofFn.1 ht
    exact (hf j j.2).2
  · obtain ⟨j, rfl⟩ := List.mem_ofFn.1 ht
    exact h.sub j j.2 b hb
  · rw [List.pairwise_iff_getElem]
    intro i j hi hj hij
    simp only [List.getElem_ofFn]
    exact h.apart i j hij (by simpa using hj)
theorem RowI.to {v : World} {F : Blk} {g o : Nat} {its : List It} (h : RowI v F g o its) : ∃ G C, RowC 2 entE v F g o G C (its.map (·.e)) := by
  refine ⟨fun j => if hj : j < its.length then (its[j]'hj).G else fun _ => False, fun j => if hj : j < its.length then (its[j]'hj).cs else [], h.own, h.lt, fun j hj => ?_, fun j hj => ?_, fun j hj => ?_, fun j hj => ?_, fun i j hij hj => ?_⟩
  all_goals have hj' : j < its.length := by simpa using hj
  · simp only [dif_pos hj']; exact h.cel j hj'
  · simp only [dif_pos hj']; rfl
  · simp only [dif_pos hj', List.getElem_map]
    exact ⟨_, rfl, h.el _ (List.getElem_mem hj')⟩
  · simp only [dif_pos hj']; exact h.sub _ (List.getElem_mem hj')
  · simp only [dif_pos hj', dif_pos (show i < its.length by omega)]
    exact (List.pairwise_iff_getElem.1 h.apart) i j (by omega) hj' hij
/-- the cells of the row are written anew: the items stand in another order -/
theorem RowI.turn {v v' : World} {F : Blk} {g o : Nat} {its its' : List It} (h : RowI v F g o its) (hc : Chg (fun b => b = g) v v') (hp : its'.Perm its) (hcel : ∀ j (h : j < its'.length), Cel v' g (o + j * 2) (its'[j]'h).cs) : RowI v' F g o its' := by
  refine ⟨h.own, fun b hb => Nat.lt_of_lt_of_le (h.lt b hb) hc.size, hcel, fun t ht => ?_, fun t ht => h.sub t (hp.mem_iff.1 ht), ?_⟩
  · have ht' := hp.mem_iff.1 ht
    exact (h.el t ht').stand intE_ok hc (fun b hb => (h.sub t ht' b hb).2)
  · exact (hp.pairwise_iff (fun h b h1 h2 => h b h2 h1)).2 h.apart
theorem RowI.below {v v' : World} {F : Blk} {g o : Nat} {its : List It} (h : RowI v F g o its) (hb : Below v.heap.size v v') : RowI v' F g o its :=
  ⟨h.own, fun b hb' => Nat.lt_of_lt_of_le (h.lt b hb') hb.size, fun j hj => (h.cel j hj).keep (hb.block _ (h.lt _ h.own)), fun t ht => (h.el t ht).below intE_ok hb, h.sub, h.apart⟩
def swapI (its : List It) (i j : Nat) (hi : i < its.length) (hj : j < its.length) : List It := (its.set i its[j]).set j its[i]
/-- the world behind an exchange -/
def swapW (v : World) (g o i j : Nat) (s t : It) : World :=
  (((v.setCell ⟨g, o + i * 2, none⟩ t.x).setCell ⟨g, o + i * 2 + 1, none⟩ (.string (S t.e.2))).setCell ⟨g, o + j * 2, none⟩ s.x).setCell ⟨g, o + j * 2 + 1, none⟩ (.string (S s.e.2))
theorem Cel.two {v : World} {g o i : Nat} {s t : It} (h : Cel v g (o + i * 2) s.cs) : Cel ((v.setCell ⟨g, o + i * 2, none⟩ t.x).setCell ⟨g, o + i * 2 + 1, none⟩ (.string (S t.e.2))) g (o + i * 2) t.cs := by
  have e := (h.set_at 0 (by simp [It.cs]) t.x).set_at 1 (by simp [It.cs]) (.string (S t.e.2))
  simpa [It.cs] using e
theorem Cel.two_other {v : World} {g o i k : Nat} {s t : It} (h : Cel v g (o + k * 2) s.cs) (hik : k ≠ i) : Cel ((v.setCell ⟨g, o + i * 2, none⟩ t.x).setCell ⟨g, o + i * 2 + 1, none⟩ (.string (S t.e.2))) g (o + k * 2) s.cs := by
  have o0 := cel_out (wd := 2) (o := o) hik 0 (by omega)
  have o1 := cel_out (wd := 2) (o := o) hik 1 (by omega)
  have hl : s.cs.length = 2 := rfl
  rw [Nat.add_zero] at o0
  exact (h.set_other (by rw [hl]; exact o0) _).set_other (by rw [hl]; exact o1) _
theorem RowI.swap {v : World} {F : Blk} {g o : Nat} {its : List It} (h : RowI v F g o its) (i j : Nat) (hi : i < its.length) (hj : j < its.length) (hij : i ≠ j) : RowI (swapW v g o i j its[i] its[j]) F g o (swapI its i j hi hj) ∧ Chg (fun b => b = g) v (swapW v g o i j its[i] its[j]) := by
  have hc : Chg (fun b => b = g) v (swapW v g o i j its[i] its[j]) :=
    ((((Chg.refl (fun b => b = g) v).setCell (p := ⟨g, _, none⟩) rfl _).setCell (p := ⟨g, _, none⟩) rfl _).setCell (p := ⟨g, _, none⟩) rfl _).setCell (p := ⟨g, _, none⟩) rfl _
  refine ⟨h.turn hc (List.set_set_perm hi hj) fun k hk => ?_, hc⟩
  have hk' : k < its.length := by simpa [swapI] using hk
  have hck := h.cel k hk'
  by_cases h1 : k = j
  · subst h1
    have e : (swapI its i k hi hj)[k]'hk = its[i] := by simp [swapI]
    rw [e]
    exact Cel.two (s := its[k]) (hck.two_other (t := its[k]) (Ne.symm hij))
  · by_cases h2 : k = i
    · subst h2
      have e : (swapI its k j hi hj)[k]'hk = its[j] := by simp [swapI, List.getElem_set_ne (Ne.symm h1)]
      rw [e]
      exact (Cel.two (t := its[j]) hck).two_other h1
    · have e : (swapI its i j hi hj)[k]'hk = its[k] := by simp [swapI, List.getElem_set_ne (Ne.symm h1), List.getElem_set_ne (Ne.symm h2)]
      rw [e]
      exact (hck.two_other h2).two_other h1
end
section
/-- not behind -/
def It.le (s t : It) : Prop := P.cmp s.e.1 t.e.1 ≤ 0
theorem It.le_refl (s : It) : s.le s := by unfold It.le; rw [P.cmp_refl]; decide
theorem It.le_of_not {s t : It} (h : ¬ P.cmp s.e.1 t.e.1 < 0) : t.le s := by unfold It.le; have := P.cmp_neg s.e.1 t.e.1; omega
theorem It.le_of_lt {s t : It} (h : P.cmp s.e.1 t.e.1 < 0) : s.le t := by unfold It.le; omega
theorem It.le_trans {s t u : It} (h : s.le t) (k : t.le u) : s.le u := by
  unfold It.le at *
  by_cases h1 : P.cmp s.e.1 t.e.1 = 0
  · rw [P.cmp_eq _ _ h1]; exact k
  · by_cases h2 : P.cmp t.e.1 u.e.1 = 0
    · rw [← P.cmp_eq _ _ h2]; exact h
    · have := P.cmp_trans s.e.1 t.e.1 u.e.1 (by omega) (by omega); omega
/-- the part [a, b) of a row has been put in another order -/
structure PermOn (a b : Nat) (l l' : List It) : Prop where
  perm : l'.Perm l
  same : ∀ j, j < a ∨ b ≤ j → l'[j]? = l[j]?
  from_ : ∀ j x, a ≤ j → j < b → l'[j]? = some x → ∃ i, a ≤ i ∧ i < b ∧ l[i]? = some x
def SortedOn (a b : Nat) (l : List It) : Prop := ∀ i j x y, a ≤ i → i < j → j < b → l[i]? = some x → l[j]? = some y → x.le y
theorem PermOn.refl (a b : Nat) (l : List It) : PermOn a b l l := ⟨List.Perm.refl _, fun _ _ => rfl, fun j _ h1 h2 h3 => ⟨j, h1, h2, h3⟩⟩
theorem PermOn.trans {a b : Nat} {l m n : List It} (h : PermOn a b l m) (k : PermOn a b m n) : PermOn a b l n :=
  ⟨k.perm.trans h.perm, fun j hj => (k.same j hj).trans (h.same j hj), fun j x h1 h2 h3 => by
    obtain ⟨i, i1, i2, i3⟩ := k.from_ j x h1 h2 h3
    exact h.from_ i x i1 i2 i3⟩
theorem PermOn.mono {a b a' b' : Nat} {l m : List It} (h : PermOn a b l m) (ha : a' ≤ a) (hb : b ≤ b') : PermOn a' b' l m :=
  ⟨h.perm, fun j hj => h.same j (by omega), fun j x h1 h2 h3 => by
    by_cases hj : a ≤ j ∧ j < b
    · obtain ⟨i, i1, i2, i3⟩ := h.from_ j x hj.1 hj.2 h3
      exact ⟨i, by omega, by omega, i3⟩
    · exact ⟨j, h1, h2, by rw [← h.same j (by omega)]; exact h3⟩⟩
theorem PermOn.len {a b : Nat} {l m : List It} (h : PermOn a b l m) : m.length = l.length := h.perm.length_eq
theorem SortedOn.same {a b c d : Nat} {l m : List It} (h : SortedOn a b l) (k : PermOn c d l m) (ho : b ≤ c ∨ d ≤ a) : SortedOn a b m := by
  intro i j x y h1 h2 h3 h4 h5
  rw [k.same i (by omega)] at h4
  rw [k.same j (by omega)] at h5
  exact h i j x y h1 h2 h3 h4 h5
theorem swapI_get (l : List It) (i j : Nat) (hi : i < l.length) (hj : j < l.length) (k : Nat) : (swapI l i j hi hj)[k]? = if k = j then some l[i] else if k = i then some l[j] else l[k]? := by
  unfold swapI
  rw [List.getElem?_set]
  by_cases h1 : k = j
  · subst h1
    rw [if_pos rfl, if_pos (by rw [List.length_set]; exact hj), if_pos rfl]
  · rw [if_neg (Ne.symm h1), if_neg h1, List.getElem?_set]
    by_cases h2 : k = i
    · subst h2
      rw [if_pos rfl, if_pos hi, if_pos rfl]
    · rw [if_neg (Ne.symm h2), if_neg h2]
theorem PermOn.swap (l : List It) (i j : Nat) (hi : i < l.length) (hj : j < l.length) {a b : Nat} (h1 : a ≤ i ∧ i < b) (h2 : a ≤ j ∧ j < b) : PermOn a b l (swapI l i j hi hj) := by
  refine ⟨List.set_set_perm hi hj, fun k hk => ?_, fun k x k1 k2 hx => ?_⟩
  · rw [swapI_get, if_neg (by omega), if_neg (by omega)]
  · rw [swapI_get] at hx
    split at hx
    · exact ⟨i, h1.1, h1.2, by rw [List.getElem?_eq_getElem hi]; exact hx⟩
    · split at hx
      · exact ⟨j, h2.1, h2.2, by rw [List.getElem?_eq_getElem hj]; exact hx⟩
      · exact ⟨k, k1, k2, hx⟩
/-- all in order up to j, but for the item k, which is not behind those after it -/
def HoleAt (a k j : Nat) (l : List It) : Prop :=
  (∀ p q x y, a ≤ p → p < q → q ≤ j → p ≠ k → q ≠ k → l[p]? = some x → l[q]? = some y → x.le y) ∧ (∀ q x y, k < q → q ≤ j → l[k]? = some x → l[q]? = some y → x.le y)
theorem HoleAt.start {a j : Nat} {l : List It} (h : SortedOn a j l) : HoleAt a j j l :=
  ⟨fun p q x y h1 h2 h3 _ h5 h6 h7 => h p q x y h1 h2 (by omega) h6 h7, fun q x y h1 h2 => by omega⟩
theorem HoleAt.step {a k j : Nat} {l : List It} (h : HoleAt a k j l) (hak : a < k) (hkj : k ≤ j) (hk : k < l.length) (hc : P.cmp l[k].e.1 (l[k - 1]'(by omega)).e.1 < 0) : HoleAt a (k - 1) j (swapI l k (k - 1) hk (by omega)) := by
  have ek : l[k]? = some l[k] := List.getElem?_eq_getElem hk
  have ek1 : l[k - 1]? = some (l[k - 1]'(by omega)) := List.getElem?_eq_getElem (by omega)
  refine ⟨fun p q x y h1 h2 h3 h4 h5 h6 h7 => ?_, fun q x y h1 h2 h3 h4 => ?_⟩
  · rw [swapI_get, if_neg h4] at h6
    rw [swapI_get, if_neg h5] at h7
    by_cases hp : p = k
    · rw [if_pos hp] at h6
      rw [if_neg (by omega)] at h7
      injection h6 with h6; subst h6
      exact h.1 (k - 1) q _ y (by omega) (by omega) h3 (by omega) (by omega) ek1 h7
    · rw [if_neg hp] at h6
      by_cases hq : q = k
      · rw [if_pos hq] at h7
        injection h7 with h7; subst h7
        exact h.1 p (k - 1) x _ h1 (by omega) (by omega) hp (by omega) h6 ek1
      · rw [if_neg hq] at h7
        exact h.1 p q x y h1 h2 h3 hp hq h6 h7
  · rw [swapI_get, if_pos rfl] at h3
    injection h3 with h3; subst h3
    rw [swapI_get, if_neg (by omega)] at h4
    by_cases hq : q = k
    · rw [if_pos hq] at h4
      injection h4 with h4; subst h4
      exact It.le_of_lt hc
    · rw [if_neg hq] at h4
      exact h.2 q _ y (by omega) h2 ek h4
theorem HoleAt.done0 {a j : Nat} {l : List It} (h : HoleAt a a j l) : SortedOn a (j + 1) l := by
  intro p q x y h1 h2 h3 h4 h5
  by_cases hp : p = a
  · subst hp; exact h.2 q x y h2 (by omega) h4 h5
  · exact h.1 p q x y h1 h2 (by omega) hp (by omega) h4 h5
theorem HoleAt.done1 {a k j : Nat} {l : List It} (h : HoleAt a k j l) (hak : a < k) (hkj : k ≤ j) (hk : k < l.length) (hc : ¬ P.cmp l[k].e.1 (l[k - 1]'(by omega)).e.1 < 0) : SortedOn a (j + 1) l := by
  have ek : l[k]? = some l[k] := List.getElem?_eq_getElem hk
  have ek1 : l[k - 1]? = some (l[k - 1]'(by omega)) := List.getElem?_eq_getElem (by omega)
  have hle : (l[k - 1]'(by omega)).le l[k] := It.le_of_not hc
  intro p q x y h1 h2 h3 h4 h5
  by_cases hp : p = k
  · subst hp; exact h.2 q x y h2 (by omega) h4 h5
  · by_cases hq : q = k
    · subst hq
      rw [ek] at h5
      injection h5 with h5; subst h5
      by_cases hpk : p = q - 1
      · subst hpk
        rw [ek1] at h4
        injection h4 with h4; subst h4
        exact hle
      · exact It.le_trans (h.1 p (q - 1) x _ h1 (by omega) (by omega) hp (by omega) h4 ek1) hle
    · exact h.1 p q x y h1 h2 (by omega) hp hq h4 h5
end
section
open Go Go.RowKit
set_option maxHeartbeats 4000000
set_option maxRecDepth 100000
/-- two items of a row, as a comparison reads them -/
theorem RowI.two {v : World} {F : Blk} {g o : Nat} {its : List It} (h : RowI v F g o its) (i j : Nat) (hi : i < its.length) (hj : j < its.length) :
    ∃ xd xc yd yc, (its[i]'hi).x = .slice xd (its[i]'hi).e.1.length xc ∧ (its[j]'hj).x = .slice yd (its[j]'hj).e.1.length yc ∧ KC v.heap.size v g (o + i * 2) (its[i]'hi).x (its[i]'hi).e.1 (its[i]'hi).e.2 (o + j * 2) (its[j]'hj).x (its[j]'hj).e.1 (its[j]'hj).e.2 v := by
  have a0 := (h.cel i hi 0 (by simp [It.cs])).1
  have a1 := (h.cel i hi 1 (by simp [It.cs])).1
  have b0 := (h.cel j hj 0 (by simp [It.cs])).1
  have b1 := (h.cel j hj 1 (by simp [It.cs])).1
  have ei := h.el _ (List.getElem_mem hi)
  have ej := h.el _ (List.getElem_mem hj)
  have ri := Ints.read ei
  have rj := Ints.read ej
  obtain ⟨xd, xc, hx, _⟩ := ei
  obtain ⟨yd, yc, hy, _⟩ := ej
  exact ⟨xd, xc, yd, yc, hx, hy, by simpa [It.cs] using a0, by simpa [It.cs] using a1, by simpa [It.cs] using b0, by simpa [It.cs] using b1, h.lt _ h.own, ri, rj, Nat.le_refl _, Below.refl _ _⟩
/-- may be written -/
theorem RowI.soft {v : World} {F : Blk} {g o : Nat} {its : List It} (h : RowI v F g o its) (i : Nat) (hi : i < its.length) : v.frozen? ⟨g, o + i * 2, none⟩ = false ∧ v.frozen? ⟨g, o + i * 2 + 1, none⟩ = false :=
  ⟨(h.cel i hi 0 (by simp [It.cs])).2, (h.cel i hi 1 (by simp [It.cs])).2⟩
theorem insertion_full (its : List It) (F : Blk) (g o cap a b : Nat) (w : World) (h : RowI w F g o its) (hl : its.length ≤ 2 ^ 30) (hab : a ≤ b) (hb : b ≤ its.length) :
    Calls Tryz.prog 202 #[.slice (some ⟨g, o, none⟩) its.length cap, .int .i64 a, .int .i64 b, byF] w fun e w' => e = .returned (.tuple #[]) ∧ ∃ its', PermOn a b its its' ∧ SortedOn a b its' ∧ RowI w' F g o its' ∧ Chg (fun b => b = g) w w' := by
  have HH := Lib.hid h; clear h
  go_enter Tryz.func202, Tryz.ntmps202
  go_wp2
  go_loopw [8] (fun i wr => ∃ (j : Nat) (m : List It), a + 1 ≤ j ∧ (j ≤ b ∨ j = a + 1) ∧ i = .int .i64 j ∧ PermOn a b its m ∧ SortedOn a j m ∧ RowI wr F g o m ∧ Chg (fun b => b = g) w wr) (fun i _ => b - (intOf i).toNat)
  case atStart => exact ⟨a + 1, its, Nat.le_refl _, .inr rfl, by go_num, PermOn.refl _ _ _, (fun i j x y h1 h2 h3 => by omega), HH.out, Chg.refl _ _⟩
  case round =>
    obtain ⟨j, m, hj1, hj2, rfl, hp, hs, hr, hc⟩ := hrel
    have HP := Lib.hid hp; have HS := Lib.hid hs; have HR := Lib.hid hr; have HC := Lib.hid hc
    have HLM := Lib.hid hp.len
    clear hp hs hr hc HH
    by_cases hlt : j < b
    · go_wp2_with fail
      go_loopw [9] (fun i wr => ∃ (k : Nat) (m : List It), a ≤ k ∧ k ≤ j ∧ i = .int .i64 k ∧ PermOn a b its m ∧ HoleAt a k j m ∧ RowI wr F g o m ∧ Chg (fun b => b = g) w wr) (fun i _ => (intOf i).toNat)
      case atStart => exact ⟨j, m, by omega, Nat.le_refl _, rfl, HP.out, HoleAt.start HS.out, HR.out, HC.out⟩
      case round =>
        clear HP HS HR HC HLM
        obtain ⟨k, m2, hk1, hk2, rfl, hp, hh, hr, hc⟩ := hrel
        have HP := Lib.hid hp; have HO := Lib.hid hh; have HR := Lib.hid hr; have HC := Lib.hid hc
        have hlm : m2.length = its.length := hp.len
        have hkl : k < m2.length := by omega
        by_cases hak : a < k
        · obtain ⟨xd, xc, yd, yc, hx, hy, hkc⟩ := hr.two k (k - 1) hkl (by omega)
          have HSTEP := Lib.hid (fun h => hh.step hak hk2 hkl h)
          have HDONE := Lib.hid (fun h => hh.done1 hak hk2 hkl h)
          have HSW := Lib.hid (fun (v : World) (h : RowI v F g o m2) => h.swap k (k - 1) hkl (by omega) (by omega))
          have HPS := Lib.hid (PermOn.swap m2 k (k - 1) hkl (by omega) (a := a) (b := b) (by omega) (by omega))
          clear hp hh hr hc
          generalize m2[k] = en at *
          generalize (m2[k - 1]'(by omega)) = fn at *
          obtain ⟨x, Gx, eo, et⟩ := en
          obtain ⟨y, Gy, fo, ft⟩ := fn
          simp only at hx hy hkc HSTEP HDONE HSW
          subst hx hy
          have HKC := Lib.hid hkc
          have hsS := hkc.step (Below.refl _ _).drew
          clear hkc
          have h1 : (a : Int) < (k : Int) := by omega
          have h2 : (k : Int) < (its.length : Int) := by omega
          have hk3 : 0 < k := by omega
          have hk4 : 1 ≤ (k : Int) := by omega
          have hw1 : IntKind.i64.wrap ((k : Int) - 1) = (k : Int) - 1 := IntWalk.i64_in _ (by omega)
          have hn3 : ¬ (its.length : Int) ≤ (k : Int) - 1 := by omega
          go_upto_region 4 with fail
          refine wp_region_held_drew (S := KC wr.heap.size wr g (o + k * 2) (.slice xd eo.length xc) eo et (o + (k - 1) * 2) (.slice yd fo.length yc) fo ft) (by kernel_rfl) hsS (fun hS0 => ?_)
          clear hsS
          refine wpAnyH_take (i := 0) (v := .int .i64 k) rfl (by kernel_rfl) (by kernel_rfl) (by kernel_rfl) (fun _ _ _ h => h) (Or.inl ⟨by rfl, fun z hz => ?_⟩) hS0 ?_
          · obtain ⟨z1, z2, z3, z4, z5, z6⟩ := hz
            go_simp
          try simp only [List.getElem_toArray, List.getElem_cons_zero, Act.put, List.setIfInBounds_toArray, List.set_cons_zero, List.set_cons_succ]
          refine wpAnyH_take (i := 1) (v := .int .i64 a) rfl (by kernel_rfl) (by kernel_rfl) (by kernel_rfl) (fun _ _ _ h => h) (Or.inl ⟨by rfl, fun z hz => ?_⟩) hS0 ?_
          · obtain ⟨z1, z2, z3, z4, z5, z6⟩ := hz
            go_simp
          try simp only [List.getElem_toArray, List.getElem_cons_zero, List.getElem_cons_succ, Act.put, List.setIfInBounds_toArray, List.set_cons_zero, List.set_cons_succ]
          refine wpAnyH_take (i := 2) (v := .bool true) rfl (by kernel_rfl) (by kernel_rfl) (by kernel_rfl) (fun _ _ _ h => h) (Or.inl ⟨by rfl, fun z hz => ?_⟩) hS0 ?_
          · obtain ⟨z1, z2, z3, z4, z5, z6⟩ := hz
            go_simp
          try simp only [List.getElem_toArray, List.getElem_cons_zero, List.getElem_cons_succ, Act.put, List.setIfInBounds_toArray, List.set_cons_zero, List.set_cons_succ]
          refine wpAnyH_take (i := 3) (v := .bool true) rfl (by kernel_rfl) (by kernel_rfl) (by kernel_rfl) (fun _ _ _ h => h) (Or.inl ⟨by rfl, fun z hz => ?_⟩) hS0 ?_
          · obtain ⟨z1, z2, z3, z4, z5, z6⟩ := hz
            go_simp
          try simp only [List.getElem_toArray, List.getElem_cons_zero, List.getElem_cons_succ, Act.put, List.setIfInBounds_toArray, List.set_cons_zero, List.set_cons_succ]
          refine wpAnyH_take (i := 4) (v := byF) rfl (by kernel_rfl) (by kernel_rfl) (by kernel_rfl) (fun _ _ _ h => h) (Or.inl ⟨by rfl, fun z hz => ?_⟩) hS0 ?_
          · obtain ⟨z1, z2, z3, z4, z5, z6⟩ := hz
            go_simp
          try simp only [List.getElem_toArray, List.getElem_cons_zero, List.getElem_cons_succ, Act.put, List.setIfInBounds_toArray, List.set_cons_zero, List.set_cons_succ]
          refine wpAnyH_take (i := 5) (v := .slice (some ⟨g, o, none⟩) its.length cap) rfl (by kernel_rfl) (by kernel_rfl) (by kernel_rfl) (fun _ _ _ h => h) (Or.inl ⟨by rfl, fun z hz => ?_⟩) hS0 ?_
          · obtain ⟨z1, z2, z3, z4, z5, z6⟩ := hz
            go_simp
          try simp only [List.getElem_toArray, List.getElem_cons_zero, List.getElem_cons_succ, Act.put, List.setIfInBounds_toArray, List.set_cons_zero, List.set_cons_succ]
          refine wpAnyH_take (i := 6) (v := .int .i64 k) rfl (by kernel_rfl) (by kernel_rfl) (by kernel_rfl) (fun _ _ _ h => h) (Or.inl ⟨by rfl, fun z hz => ?_⟩) hS0 ?_
          · obtain ⟨z1, z2, z3, z4, z5, z6⟩ := hz
            go_simp
          try simp only [List.getElem_toArray, List.getElem_cons_zero, List.getElem_cons_succ, Act.put, List.setIfInBounds_toArray, List.set_cons_zero, List.set_cons_succ]
          refine wpAnyH_take (i := 7) (v := .pointer (some ⟨g, o + k * 2, none⟩)) rfl (by kernel_rfl) (by kernel_rfl) (by kernel_rfl) (fun _ _ _ h => h) (Or.inl ⟨by rfl, fun z hz => ?_⟩) hS0 ?_
          · obtain ⟨z1, z2, z3, z4, z5, z6⟩ := hz
            go_simp
          try simp only [List.getElem_toArray, List.getElem_cons_zero, List.getElem_cons_succ, Act.put, List.setIfInBounds_toArray, List.set_cons_zero, List.set_cons_succ]
          refine wpAnyH_take (i := 8) (v := .agg #[.slice xd eo.length xc, .string (S et)]) rfl (by kernel_rfl) (by kernel_rfl) (by kernel_rfl) (fun _ _ _ h => h) (Or.inl ⟨by rfl, fun z hz => ?_⟩) hS0 ?_
          · obtain ⟨z1, z2, z3, z4, z5, z6⟩ := hz
            go_simp
          try simp only [List.getElem_toArray, List.getElem_cons_zero, List.getElem_cons_succ, Act.put, List.setIfInBounds_toArray, List.set_cons_zero, List.set_cons_succ]
          refine wpAnyH_take (i := 9) (v := .slice (some ⟨g, o, none⟩) its.length cap) rfl (by kernel_rfl) (by kernel_rfl) (by kernel_rfl) (fun _ _ _ h => h) (Or.inl ⟨by rfl, fun z hz => ?_⟩) hS0 ?_
          · obtain ⟨z1, z2, z3, z4, z5, z6⟩ := hz
            go_simp
          try simp only [List.getElem_toArray, List.getElem_cons_zero, List.getElem_cons_succ, Act.put, List.setIfInBounds_toArray, List.set_cons_zero, List.set_cons_succ]
          refine wpAnyH_take (i := 10) (v := .int .i64 k) rfl (by kernel_rfl) (by kernel_rfl) (by kernel_rfl) (fun _ _ _ h => h) (Or.inl ⟨by rfl, fun z hz => ?_⟩) hS0 ?_
          · obtain ⟨z1, z2, z3, z4, z5, z6⟩ := hz
            go_simp
          try simp only [List.getElem_toArray, List.getElem_cons_zero, List.getElem_cons_succ, Act.put, List.setIfInBounds_toArray, List.set_cons_zero, List.set_cons_succ]
          refine wpAnyH_take (i := 11) (v := .int .i64 ((k : Int) - 1)) rfl (by kernel_rfl) (by kernel_rfl) (by kernel_rfl) (fun _ _ _ h => h) (Or.inl ⟨by rfl, fun z hz => ?_⟩) hS0 ?_
          · obtain ⟨z1, z2, z3, z4, z5, z6⟩ := hz
            go_simp
          try simp only [List.getElem_toArray, List.getElem_cons_zero, List.getElem_cons_succ, Act.put, List.setIfInBounds_toArray, List.set_cons_zero, List.set_cons_succ]
          refine wpAnyH_take (i := 12) (v := .pointer (some ⟨g, o + (k - 1) * 2, none⟩)) rfl (by kernel_rfl) (by kernel_rfl) (by kernel_rfl) (fun _ _ _ h => h) (Or.inl ⟨by rfl, fun z hz => ?_⟩) hS0 ?_
          · obtain ⟨z1, z2, z3, z4, z5, z6⟩ := hz
            go_simp
          try simp only [List.getElem_toArray, List.getElem_cons_zero, List.getElem_cons_succ, Act.put, List.setIfInBounds_toArray, List.set_cons_zero, List.set_cons_succ]
          refine wpAnyH_take (i := 13) (v := .agg #[.slice yd fo.length yc, .string (S ft)]) rfl (by kernel_rfl) (by kernel_rfl) (by kernel_rfl) (fun _ _ _ h => h) (Or.inl ⟨by rfl, fun z hz => ?_⟩) hS0 ?_
          · obtain ⟨z1, z2, z3, z4, z5, z6⟩ := hz
            go_simp
          try simp only [List.getElem_toArray, List.getElem_cons_zero, List.getElem_cons_succ, Act.put, List.setIfInBounds_toArray, List.set_cons_zero, List.set_cons_succ]
          refine wpAnyH_ready (rs := [14]) (by kernel_rfl) (by simp) ?_
          refine AllReadyH.cons rfl (fun K hK => ?_) AllReadyH.nil
          have HX := Lib.hid hS0.2.2.2.2.2.1
          have HY := Lib.hid hS0.2.2.2.2.2.2.1
          have HS1 := Lib.hid hS0
          go_simp
          refine (byOutline _ _ eo fo et ft _ HX.out HY.out).mono ?_
          rintro e v ⟨rfl, hb⟩
          refine hK.out _ _ (HS1.out.step hb) (fun hS1 => ?_)
          clear hK K hb
          try simp only [List.getElem_toArray, List.getElem_cons_zero, List.getElem_cons_succ, Act.put, List.setIfInBounds_toArray, List.set_cons_zero, List.set_cons_succ]
          have HBV := Lib.hid hS1.2.2.2.2.2.2.2.2
          have HRV := Lib.hid (HR.out.below HBV.out)
          have HCV := Lib.hid (HC.out.trans (Below.chg HBV.out _))
          by_cases hcmp : P.cmp eo fo < 0
          · have HCM := Lib.hid hcmp
            refine wpAnyH_take (i := 15) (v := .bool true) rfl (by kernel_rfl) (by kernel_rfl) (by kernel_rfl) (fun _ _ _ h => h) (Or.inl ⟨by rfl, fun z hz => ?_⟩) hS1 ?_
            · obtain ⟨z1, z2, z3, z4, z5, z6⟩ := hz
              go_simp
            try simp only [List.getElem_toArray, List.getElem_cons_zero, List.getElem_cons_succ, Act.put, List.setIfInBounds_toArray, List.set_cons_zero, List.set_cons_succ]
            refine wpAnyH_take (i := 16) (v := .bool true) rfl (by kernel_rfl) (by kernel_rfl) (by kernel_rfl) (fun _ _ _ h => h) (Or.inl ⟨by rfl, fun z hz => ?_⟩) hS1 ?_
            · obtain ⟨z1, z2, z3, z4, z5, z6⟩ := hz
              go_simp
            try simp only [List.getElem_toArray, List.getElem_cons_zero, List.getElem_cons_succ, Act.put, List.setIfInBounds_toArray, List.set_cons_zero, List.set_cons_succ]
            refine wpAnyH_done (by kernel_rfl) ?_ _
            obtain ⟨c1, c2, c3, c4, c5, _⟩ := hS1
            obtain ⟨f1, f2⟩ := HRV.out.soft k hkl
            obtain ⟨f3, f4⟩ := HRV.out.soft (k - 1) (by omega)
            clear hS0 HS1 HBV HDONE hcmp HX HY HKC HR HC
            generalize HVV : v = vv at *
            go_upto_region 6 with fail
            go_region
            obtain ⟨hr3, hc3⟩ := HSW.out vv HRV.out
            have hd := (Below.refl (swapW vv g o k (k - 1) ⟨.slice xd eo.length xc, Gx, (eo, et)⟩ ⟨.slice yd fo.length yc, Gy, (fo, ft)⟩).heap.size (swapW vv g o k (k - 1) ⟨.slice xd eo.length xc, Gx, (eo, et)⟩ ⟨.slice yd fo.length yc, Gy, (fo, ft)⟩)).drew
            have HR3 := Lib.hid (hr3.below hd)
            have HC3 := Lib.hid ((HCV.out.trans hc3).trans (Below.chg hd _))
            have HS3 := Lib.hid (HSTEP.out HCM.out)
            have HP3 := Lib.hid (HP.out.trans HPS.out)
            clear hr3 hc3 hd HSTEP HSW HPS HP HRV HCV c1 c2 c3 c4 c5 f1 f2 f3 f4
            change Exit.inBlock _ _ _ _ (swapW vv g o k (k - 1) ⟨.slice xd eo.length xc, Gx, (eo, et)⟩ ⟨.slice yd fo.length yc, Gy, (fo, ft)⟩).drew
            generalize (swapW vv g o k (k - 1) ⟨.slice xd eo.length xc, Gx, (eo, et)⟩ ⟨.slice yd fo.length yc, Gy, (fo, ft)⟩).drew = v3 at *
            generalize swapI m2 k (k - 1) hkl _ = m3 at *
            go_wp2
            go_roundw
            case rel => exact ⟨k - 1, m3, by omega, by omega, by go_num, HP3.out, HS3.out, HR3.out, HC3.out⟩
            case measure => simp [intOf]; omega
          · skip
            refine wpAnyH_take (i := 15) (v := .bool false) rfl (by kernel_rfl) (by kernel_rfl) (by kernel_rfl) (fun _ _ _ h => h) (Or.inl ⟨by rfl, fun z hz => ?_⟩) hS1 ?_
            · obtain ⟨z1, z2, z3, z4, z5, z6⟩ := hz
              go_simp
            try simp only [List.getElem_toArray, List.getElem_cons_zero, List.getElem_cons_succ, Act.put, List.setIfInBounds_toArray, List.set_cons_zero, List.set_cons_succ]
            refine wpAnyH_take (i := 16) (v := .bool false) rfl (by kernel_rfl) (by kernel_rfl) (by kernel_rfl) (fun _ _ _ h => h) (Or.inl ⟨by rfl, fun z hz => ?_⟩) hS1 ?_
            · obtain ⟨z1, z2, z3, z4, z5, z6⟩ := hz
              go_simp
            try simp only [List.getElem_toArray, List.getElem_cons_zero, List.getElem_cons_succ, Act.put, List.setIfInBounds_toArray, List.set_cons_zero, List.set_cons_succ]
            refine wpAnyH_done (by kernel_rfl) ?_ _
            have HSO := Lib.hid (HDONE.out hcmp)
            clear hS0 HS1 hS1 HSTEP hcmp HX HY HKC HR HC HBV
            go_wp2
            go_roundw
            case rel => exact ⟨j + 1, m2, by omega, .inl (by omega), by go_num, HP.out, HSO.out, HRV.out, HCV.out⟩
            case measure => simp [intOf]; omega
        · have hka : k = a := by omega
          subst hka
          have HSO := Lib.hid hh.done0
          have h1 : ¬ (k : Int) < (k : Int) := by omega
          clear hp hh hr hc
          go_upto_region 4 with fail
          refine wp_region_held_drew (S := fun _ => True) (by kernel_rfl) trivial (fun hS0 => ?_)
          refine wpAnyH_take (i := 0) (v := .int .i64 k) rfl (by kernel_rfl) (by kernel_rfl) (by kernel_rfl) (fun _ _ _ h => h) (Or.inl ⟨by rfl, fun z hz => ?_⟩) hS0 ?_
          · obtain z1 := hz
            go_simp
          try simp only [List.getElem_toArray, List.getElem_cons_zero, Act.put, List.setIfInBounds_toArray, List.set_cons_zero, List.set_cons_succ]
          refine wpAnyH_take (i := 1) (v := .int .i64 k) rfl (by kernel_rfl) (by kernel_rfl) (by kernel_rfl) (fun _ _ _ h => h) (Or.inl ⟨by rfl, fun z hz => ?_⟩) hS0 ?_
          · obtain z1 := hz
            go_simp
          try simp only [List.getElem_toArray, List.getElem_cons_zero, List.getElem_cons_succ, Act.put, List.setIfInBounds_toArray, List.set_cons_zero, List.set_cons_succ]
          refine wpAnyH_take (i := 2) (v := .bool false) rfl (by kernel_rfl) (by kernel_rfl) (by kernel_rfl) (fun _ _ _ h => h) (Or.inl ⟨by rfl, fun z hz => ?_⟩) hS0 ?_
          · obtain z1 := hz
            go_simp
          try simp only [List.getElem_toArray, List.getElem_cons_zero, List.getElem_cons_succ, Act.put, List.setIfInBounds_toArray, List.set_cons_zero, List.set_cons_succ]
          refine wpAnyH_take (i := 3) (v := .bool false) rfl (by kernel_rfl) (by kernel_rfl) (by kernel_rfl) (fun _ _ _ h => h) (Or.inl ⟨by rfl, fun z hz => ?_⟩) hS0 ?_
          · obtain z1 := hz
            go_simp
          try simp only [List.getElem_toArray, List.getElem_cons_zero, List.getElem_cons_succ, Act.put, List.setIfInBounds_toArray, List.set_cons_zero, List.set_cons_succ]
          refine wpAnyH_take (i := 4) rfl (by kernel_rfl) (by kernel_rfl) (by kernel_rfl) (fun _ _ _ h => h) (Or.inr ⟨by rfl, rfl⟩) hS0 ?_
          try simp only [List.getElem_toArray, List.getElem_cons_zero, List.getElem_cons_succ, Act.put, List.setIfInBounds_toArray, List.set_cons_zero, List.set_cons_succ]
          refine wpAnyH_take (i := 5) rfl (by kernel_rfl) (by kernel_rfl) (by kernel_rfl) (fun _ _ _ h => h) (Or.inr ⟨by rfl, rfl⟩) hS0 ?_
          try simp only [List.getElem_toArray, List.getElem_cons_zero, List.getElem_cons_succ, Act.put, List.setIfInBounds_toArray, List.set_cons_zero, List.set_cons_succ]
          refine wpAnyH_take (i := 6) rfl (by kernel_rfl) (by kernel_rfl) (by kernel_rfl) (fun _ _ _ h => h) (Or.inr ⟨by rfl, rfl⟩) hS0 ?_
          try simp only [List.getElem_toArray, List.getElem_cons_zero, List.getElem_cons_succ, Act.put, List.setIfInBounds_toArray, List.set_cons_zero, List.set_cons_succ]
          refine wpAnyH_take (i := 7) rfl (by kernel_rfl) (by kernel_rfl) (by kernel_rfl) (fun _ _ _ h => h) (Or.inr ⟨by rfl, rfl⟩) hS0 ?_
          try simp only [List.getElem_toArray, List.getElem_cons_zero, List.getElem_cons_succ, Act.put, List.setIfInBounds_toArray, List.set_cons_zero, List.set_cons_succ]
          refine wpAnyH_take (i := 8) rfl (by kernel_rfl) (by kernel_rfl) (by kernel_rfl) (fun _ _ _ h => h) (Or.inr ⟨by rfl, rfl⟩) hS0 ?_
          try simp only [List.getElem_toArray, List.getElem_cons_zero, List.getElem_cons_succ, Act.put, List.setIfInBounds_toArray, List.set_cons_zero, List.set_cons_succ]
          refine wpAnyH_take (i := 9) rfl (by kernel_rfl) (by kernel_rfl) (by kernel_rfl) (fun _ _ _ h => h) (Or.inr ⟨by rfl, rfl⟩) hS0 ?_
          try simp only [List.getElem_toArray, List.getElem_cons_zero, List.getElem_cons_succ, Act.put, List.setIfInBounds_toArray, List.set_cons_zero, List.set_cons_succ]
          refine wpAnyH_take (i := 10) rfl (by kernel_rfl) (by kernel_rfl) (by kernel_rfl) (fun _ _ _ h => h) (Or.inr ⟨by rfl, rfl⟩) hS0 ?_
          try simp only [List.getElem_toArray, List.getElem_cons_zero, List.getElem_cons_succ, Act.put, List.setIfInBounds_toArray, List.set_cons_zero, List.set_cons_succ]
          refine wpAnyH_take (i := 11) rfl (by kernel_rfl) (by kernel_rfl) (by kernel_rfl) (fun _ _ _ h => h) (Or.inr ⟨by rfl, rfl⟩) hS0 ?_
          try simp only [List.getElem_toArray, List.getElem_cons_zero, List.getElem_cons_succ, Act.put, List.setIfInBounds_toArray, List.set_cons_zero, List.set_cons_succ]
          refine wpAnyH_take (i := 12) rfl (by kernel_rfl) (by kernel_rfl) (by kernel_rfl) (fun _ _ _ h => h) (Or.inr ⟨by rfl, rfl⟩) hS0 ?_
          try simp only [List.getElem_toArray, List.getElem_cons_zero, List.getElem_cons_succ, Act.put, List.setIfInBounds_toArray, List.set_cons_zero, List.set_cons_succ]
          refine wpAnyH_take (i := 13) rfl (by kernel_rfl) (by kernel_rfl) (by kernel_rfl) (fun _ _ _ h => h) (Or.inr ⟨by rfl, rfl⟩) hS0 ?_
          try simp only [List.getElem_toArray, List.getElem_cons_zero, List.getElem_cons_succ, Act.put, List.setIfInBounds_toArray, List.set_cons_zero, List.set_cons_succ]
          refine wpAnyH_take (i := 14) rfl (by kernel_rfl) (by kernel_rfl) (by kernel_rfl) (fun _ _ _ h => h) (Or.inr ⟨by rfl, rfl⟩) hS0 ?_
          try simp only [List.getElem_toArray, List.getElem_cons_zero, List.getElem_cons_succ, Act.put, List.setIfInBounds_toArray, List.set_cons_zero, List.set_cons_succ]
          refine wpAnyH_take (i := 15) rfl (by kernel_rfl) (by kernel_rfl) (by kernel_rfl) (fun _ _ _ h => h) (Or.inr ⟨by rfl, rfl⟩) hS0 ?_
          try simp only [List.getElem_toArray, List.getElem_cons_zero, List.getElem_cons_succ, Act.put, List.setIfInBounds_toArray, List.set_cons_zero, List.set_cons_succ]
          refine wpAnyH_take (i := 16) (v := .bool false) rfl (by kernel_rfl) (by kernel_rfl) (by kernel_rfl) (fun _ _ _ h => h) (Or.inl ⟨by rfl, fun z hz => ?_⟩) hS0 ?_
          · obtain z1 := hz
            go_simp
          try simp only [List.getElem_toArray, List.getElem_cons_zero, List.getElem_cons_succ, Act.put, List.setIfInBounds_toArray, List.set_cons_zero, List.set_cons_succ]
          refine wpAnyH_done (by kernel_rfl) ?_ _
          have hd := (Below.refl wr.heap.size wr).drew
          have HRV := Lib.hid (HR.out.below hd)
          have HCV := Lib.hid (HC.out.trans (Below.chg hd _))
          clear hd
          go_wp2
          go_roundw
          case rel => exact ⟨j + 1, m2, by omega, .inl (by omega), by go_num, HP.out, HSO.out, HRV.out, HCV.out⟩
          case measure => simp [intOf]; omega
    · go_wp2
      go_end0
      exact ⟨rfl, m, HP.out, (fun p q x y h1 h2 h3 => HS.out p q x y h1 h2 (by omega)), HR.out, HC.out⟩
end
section
/-- each place k holds what stood at f k -/
structure Moved (l l' : List It) (f : Nat → Nat) : Prop where
  perm : l'.Perm l
  get : ∀ k, l'[k]? = l[f k]?
theorem Moved.refl (l : List It) : Moved l l id := ⟨List.Perm.refl _, fun _ => rfl⟩
theorem Moved.len {l l' : List It} {f : Nat → Nat} (h : Moved l l' f) : l'.length = l.length := h.perm.length_eq
theorem Moved.trans {l m n : List It} {f h : Nat → Nat} (a : Moved l m f) (b : Moved m n h) : Moved l n (fun k => f (h k)) :=
  ⟨b.perm.trans a.perm, fun k => by rw [b.get, a.get]⟩
theorem Moved.congr {l m : List It} {f h : Nat → Nat} (a : Moved l m f) (e : ∀ k, f k = h k) : Moved l m h := ⟨a.perm, fun k => by rw [← e k]; exact a.get k⟩
def trIx (i j k : Nat) : Nat := if k = j then i else if k = i then j else k
def swIx (a b n k : Nat) : Nat := if a ≤ k ∧ k < a + n then k + (b - a) else if b ≤ k ∧ k < b + n then k - (b - a) else k
def roIx (a m b k : Nat) : Nat := if k < a ∨ b ≤ k then k else if k < a + (b - m) then k + (m - a) else k - (b - m)
theorem Moved.swap (l : List It) (i j : Nat) (hi : i < l.length) (hj : j < l.length) : Moved l (swapI l i j hi hj) (trIx i j) := by
  refine ⟨List.set_set_perm hi hj, fun k => ?_⟩
  rw [swapI_get]
  unfold trIx
  split
  · exact (List.getElem?_eq_getElem hi).symm
  · split
    · exact (List.getElem?_eq_getElem hj).symm
    · rfl
theorem swIx_step {a b n : Nat} (h : a + n < b) (k : Nat) : swIx a b n (trIx (a + n) (b + n) k) = swIx a b (n + 1) k := by
  unfold swIx trIx
  repeat' split
  all_goals omega
theorem swIx_zero (a b k : Nat) : swIx a b 0 k = k := by
  unfold swIx
  repeat' split
  all_goals omega
/-- two blocks of one length are turned -/
theorem roIx_even {a m b : Nat} (h1 : a ≤ m) (h2 : m - a = b - m) (h3 : m ≤ b) (k : Nat) : swIx a m (m - a) k = roIx a m b k := by
  unfold swIx roIx
  repeat' split
  all_goals omega
theorem roIx_left {m i j : Nat} (h : j < i) (hi : i ≤ m) (k : Nat) : swIx (m - i) m j (roIx (m - (i - j)) m (m + j) k) = roIx (m - i) m (m + j) k := by
  unfold swIx roIx
  repeat' split
  all_goals omega
theorem roIx_right {m i j : Nat} (h : i < j) (hi : i ≤ m) (k : Nat) : swIx (m - i) (m + j - i) i (roIx (m - i) m (m + (j - i)) k) = roIx (m - i) m (m + j) k := by
  unfold swIx roIx
  repeat' split
  all_goals omega
open Go Go.RowKit
set_option maxHeartbeats 4000000
set_option maxRecDepth 100000
theorem swapRange_full (its : List It) (F : Blk) (g o cap a b n : Nat) (w : World) (h : RowI w F g o its) (hl : its.length ≤ 2 ^ 30) (hab : a + n ≤ b) (hb : b + n ≤ its.length) :
    Calls Tryz.prog 225 #[.slice (some ⟨g, o, none⟩) its.length cap, .int .i64 a, .int .i64 b, .int .i64 n, byF] w fun e w' => e = .returned (.tuple #[]) ∧ ∃ its', Moved its its' (swIx a b n) ∧ RowI w' F g o its' ∧ Chg (fun b => b = g) w w' := by
  have HH := Lib.hid h; clear h
  go_enter Tryz.func225, Tryz.ntmps225
  go_wp2
  go_loopw [10] (fun i wr => ∃ (t : Nat) (m : List It), t ≤ n ∧ i = .int .i64 t ∧ Moved its m (swIx a b t) ∧ RowI wr F g o m ∧ Chg (fun b => b = g) w wr) (fun i _ => n - (intOf i).toNat)
  case atStart => exact ⟨0, its, Nat.zero_le _, rfl, (Moved.refl its).congr fun k => (swIx_zero a b k).symm, HH.out, Chg.refl _ _⟩
  case round =>
    obtain ⟨t, m, ht, rfl, hm, hr, hc⟩ := hrel
    have HM := Lib.hid hm; have HR := Lib.hid hr; have HC := Lib.hid hc
    have hlm : m.length = its.length := hm.len
    by_cases hlt : t < n
    · have h1 : (t : Int) < (n : Int) := by omega
      have hi1 : a + t < m.length := by omega
      have hi2 : b + t < m.length := by omega
      obtain ⟨f1, f2⟩ := hr.soft (a + t) hi1
      obtain ⟨f3, f4⟩ := hr.soft (b + t) hi2
      obtain ⟨xd, xc, yd, yc, hx, hy, hkc⟩ := hr.two (a + t) (b + t) hi1 hi2
      have HSW := Lib.hid (hr.swap (a + t) (b + t) hi1 hi2 (by omega))
      have HMS := Lib.hid ((hm.trans (Moved.swap m (a + t) (b + t) hi1 hi2)).congr (swIx_step (by omega)))
      clear hm hr hc
      generalize m[a + t] = en at *
      generalize m[b + t] = fn at *
      obtain ⟨x, Gx, eo, et⟩ := en
      obtain ⟨y, Gy, fo, ft⟩ := fn
      simp only at hx hy hkc HSW
      subst hx hy
      obtain ⟨c1, c2, c3, c4, c5, _⟩ := hkc
      have hw1 : IntKind.i64.wrap ((a : Int) + (t : Int)) = ((a + t : Nat) : Int) := by rw [IntWalk.i64_in _ (by omega)]; omega
      have hw2 : IntKind.i64.wrap ((b : Int) + (t : Int)) = ((b + t : Nat) : Int) := by rw [IntWalk.i64_in _ (by omega)]; omega
      have hn1 : ((a + t : Nat) : Int) < (its.length : Int) := by omega
      have hn2 : ((b + t : Nat) : Int) < (its.length : Int) := by omega
      clear HR
      generalize HVV : wr = vv at *
      go_upto_region 3 with fail
      go_region
      obtain ⟨hr3, hc3⟩ := HSW.out
      have hd := (Below.refl (swapW vv g o (a + t) (b + t) ⟨.slice xd eo.length xc, Gx, (eo, et)⟩ ⟨.slice yd fo.length yc, Gy, (fo, ft)⟩).heap.size (swapW vv g o (a + t) (b + t) ⟨.slice xd eo.length xc, Gx, (eo, et)⟩ ⟨.slice yd fo.length yc, Gy, (fo, ft)⟩)).drew
      have HR3 := Lib.hid (hr3.below hd)
      have HC3 := Lib.hid ((HC.out.trans hc3).trans (Below.chg hd _))
      clear hr3 hc3 hd HSW HM HC c1 c2 c3 c4 c5 f1 f2 f3 f4
      change Exit.inBlock _ _ _ _ (swapW vv g o (a + t) (b + t) ⟨.slice xd eo.length xc, Gx, (eo, et)⟩ ⟨.slice yd fo.length yc, Gy, (fo, ft)⟩).drew
      generalize (swapW vv g o (a + t) (b + t) ⟨.slice xd eo.length xc, Gx, (eo, et)⟩ ⟨.slice yd fo.length yc, Gy, (fo, ft)⟩).drew = v3 at *
      generalize swapI m (a + t) (b + t) _ _ = m3 at *
      go_wp2
      go_roundw
      case rel => exact ⟨t + 1, m3, by omega, by go_num, HMS.out, HR3.out, HC3.out⟩
      case measure => simp [intOf]; omega
    · have htn : t = n := by omega
      subst htn
      clear hm hr hc
      go_wp2
      go_end0
      exact ⟨rfl, m, HM.out, HR.out, HC.out⟩
end
section
open Go Go.RowKit
set_option maxHeartbeats 4000000
set_option maxRecDepth 100000
theorem rotate_full (its : List It) (F : Blk) (g o cap a m b : Nat) (w : World) (h : RowI w F g o its) (hl : its.length ≤ 2 ^ 30) (ham : a < m) (hmb : m < b) (hb : b ≤ its.length) :
    Calls Tryz.prog 212 #[.slice (some ⟨g, o, none⟩) its.length cap, .int .i64 a, .int .i64 m, .int .i64 b, byF] w fun e w' => e = .returned (.tuple #[]) ∧ ∃ its', Moved its its' (roIx a m b) ∧ RowI w' F g o its' ∧ Chg (fun b => b = g) w w' := by
  have HH := Lib.hid h; clear h
  have hw1 : IntKind.i64.wrap ((m : Int) - (a : Int)) = ((m - a : Nat) : Int) := by rw [IntWalk.i64_in _ (by omega)]; omega
  have hw2 : IntKind.i64.wrap ((b : Int) - (m : Int)) = ((b - m : Nat) : Int) := by rw [IntWalk.i64_in _ (by omega)]; omega
  go_enter Tryz.func212, Tryz.ntmps212
  go_wp2_with fail
  go_loopw [10, 11] (fun x y wr => ∃ (i j : Nat) (n : List It) (f : Nat → Nat), x = .int .i64 i ∧ y = .int .i64 j ∧ 0 < i ∧ 0 < j ∧ i ≤ m - a ∧ j ≤ b - m ∧ Moved its n f ∧ (∀ k, f (roIx (m - i) m (m + j) k) = roIx a m b k) ∧ RowI wr F g o n ∧ Chg (fun b => b = g) w wr) (fun x y _ => (intOf x).toNat + (intOf y).toNat)
  case atStart =>
    refine ⟨m - a, b - m, its, id, ?_, ?_, by omega, by omega, Nat.le_refl _, Nat.le_refl _, Moved.refl its, fun k => ?_, HH.out, Chg.refl _ _⟩
    · first | rfl | go_num
    · first | rfl | go_num
    · rw [show m - (m - a) = a by omega, show m + (b - m) = b by omega]; rfl
  case round =>
    obtain ⟨i, j, n, f, rfl, rfl, hi0, hj0, hia, hjb, hm, hf, hr, hc⟩ := hrel
    have HM := Lib.hid hm; have HR := Lib.hid hr; have HC := Lib.hid hc; have HF := Lib.hid hf
    have hln : n.length = its.length := hm.len
    clear hm hf hr hc hw1 hw2 HH
    have hw3 : IntKind.i64.wrap ((m : Int) - (i : Int)) = ((m - i : Nat) : Int) := by rw [IntWalk.i64_in _ (by omega)]; omega
    by_cases hij : i = j
    · subst hij
      have hne : ((i : Int) != (i : Int)) = false := by simp
      have hcall := swapRange_full n F g o cap (m - i) m i wr HR.out (by omega) (by omega) (by omega)
      rw [hln] at hcall
      have HCALL := Lib.hid hcall; clear hcall
      go_wp2_with fail
      refine HCALL.out.mono ?_
      rintro e v ⟨rfl, n2, hm2, hr2, hc2⟩
      have HM2 := Lib.hid ((HM.out.trans hm2).congr (h := roIx a m b) (fun k => by
        have e := roIx_even (a := m - i) (m := m) (b := m + i) (by omega) (by omega) (by omega) k
        rw [show m - (m - i) = i by omega] at e
        rw [e]; exact HF.out k))
      have HR2 := Lib.hid hr2; have HC2 := Lib.hid (HC.out.trans hc2)
      clear hm2 hr2 hc2 HCALL
      go_wp2
      go_end0
      exact ⟨rfl, n2, HM2.out, HR2.out, HC2.out⟩
    · have hne : ((i : Int) != (j : Int)) = true := by simp; omega
      have hnb : ¬ (i : Int) = (j : Int) := by omega
      by_cases hgt : j < i
      · have h1 : (j : Int) < (i : Int) := by omega
        have hw5 : IntKind.i64.wrap ((i : Int) - (j : Int)) = ((i - j : Nat) : Int) := by rw [IntWalk.i64_in _ (by omega)]; omega
        have hcall := swapRange_full n F g o cap (m - i) m j wr HR.out (by omega) (by omega) (by omega)
        rw [hln] at hcall
        have HCALL := Lib.hid hcall; clear hcall
        go_wp2_with fail
        refine HCALL.out.mono ?_
        rintro e v ⟨rfl, n2, hm2, hr2, hc2⟩
        have HM2 := Lib.hid (HM.out.trans hm2)
        have HR2 := Lib.hid hr2; have HC2 := Lib.hid (HC.out.trans hc2)
        clear hm2 hr2 hc2 HCALL
        go_wp2
        go_roundw
        case rel => exact ⟨i - j, j, n2, _, by first | rfl | go_num, rfl, by omega, hj0, by omega, hjb, HM2.out, (fun k => by show f _ = _; rw [roIx_left hgt (by omega) k]; exact HF.out k), HR2.out, HC2.out⟩
        case measure => simp [intOf]; omega
      · have h1 : ¬ (j : Int) < (i : Int) := by omega
        have hw5 : IntKind.i64.wrap ((j : Int) - (i : Int)) = ((j - i : Nat) : Int) := by rw [IntWalk.i64_in _ (by omega)]; omega
        have hw6 : IntKind.i64.wrap ((m : Int) + (j : Int)) = ((m + j : Nat) : Int) := by rw [IntWalk.i64_in _ (by omega)]; omega
        have hw7 : IntKind.i64.wrap (((m + j : Nat) : Int) - (i : Int)) = ((m + j - i : Nat) : Int) := by rw [IntWalk.i64_in _ (by omega)]; omega
        have hw8 : IntKind.i64.wrap ((m : Int) + (j : Int) - (i : Int)) = ((m + j - i : Nat) : Int) := by rw [IntWalk.i64_in _ (by omega)]; omega
        have hcall := swapRange_full n F g o cap (m - i) (m + j - i) i wr HR.out (by omega) (by omega) (by omega)
        rw [hln] at hcall
        have HCALL := Lib.hid hcall; clear hcall
        go_wp2_with fail
        refine HCALL.out.mono ?_
        rintro e v ⟨rfl, n2, hm2, hr2, hc2⟩
        have HM2 := Lib.hid (HM.out.trans hm2)
        have HR2 := Lib.hid hr2; have HC2 := Lib.hid (HC.out.trans hc2)
        clear hm2 hr2 hc2 HCALL
        go_wp2
        go_roundw
        case rel => exact ⟨i, j - i, n2, _, rfl, by first | rfl | go_num, hi0, by omega, hia, by omega, HM2.out, (fun k => by show f _ = _; rw [roIx_right (by omega) (by omega) k]; exact HF.out k), HR2.out, HC2.out⟩
        case measure => simp [intOf]; omega
end
section
theorem Moved.permOn {l l' : List It} {f : Nat → Nat} {a b : Nat} (h : Moved l l' f) (hf : ∀ k, a ≤ k → k < b → a ≤ f k ∧ f k < b) (hs : ∀ k, k < a ∨ b ≤ k → f k = k) : PermOn a b l l' :=
  ⟨h.perm, fun k hk => by rw [h.get, hs k hk], fun k x h1 h2 h3 => ⟨f k, (hf k h1 h2).1, (hf k h1 h2).2, by rw [← h.get]; exact h3⟩⟩
def It.lt (s t : It) : Prop := P.cmp s.e.1 t.e.1 < 0
/-- the item of place a has been carried up to place k -/
def upIx (a k q : Nat) : Nat := if a ≤ q ∧ q < k then q + 1 else if q = k then a else q
theorem upIx_zero (a q : Nat) : upIx a a q = q := by
  unfold upIx
  repeat' split
  all_goals omega
theorem upIx_step {a k : Nat} (h : a ≤ k) (q : Nat) : upIx a k (trIx k (k + 1) q) = upIx a (k + 1) q := by
  unfold upIx trIx
  repeat' split
  all_goals omega
/-- the item of place m has been carried down to place k -/
def dnIx (m k q : Nat) : Nat := if q = k then m else if k < q ∧ q ≤ m then q - 1 else q
theorem dnIx_zero (m q : Nat) : dnIx m m q = q := by
  unfold dnIx
  repeat' split
  all_goals omega
theorem dnIx_step {m k : Nat} (h : k ≤ m) (hk : 0 < k) (q : Nat) : dnIx m k (trIx k (k - 1) q) = dnIx m (k - 1) q := by
  unfold dnIx trIx
  repeat' split
  all_goals omega
/-- one item before a row in order, carried to its place i - 1 -/
theorem up_sorted {l l' : List It} {a b i : Nat} (h : Moved l l' (upIx a (i - 1))) (hs : SortedOn (a + 1) b l) (hi : a + 1 ≤ i) (hib : i ≤ b)
    (lo : ∀ q x y, a + 1 ≤ q → q < i → l[q]? = some x → l[a]? = some y → x.le y) (hi' : ∀ q x y, i ≤ q → q < b → l[q]? = some x → l[a]? = some y → y.le x) : PermOn a b l l' ∧ SortedOn a b l' := by
  refine ⟨h.permOn (fun k h1 h2 => ?_) (fun k hk => ?_), fun p q x y h1 h2 h3 h4 h5 => ?_⟩
  · unfold upIx; repeat' split
    all_goals omega
  · unfold upIx; repeat' split
    all_goals omega
  · rw [h.get] at h4 h5
    by_cases hp : p < i - 1
    · rw [show upIx a (i - 1) p = p + 1 by unfold upIx; rw [if_pos ⟨h1, hp⟩]] at h4
      by_cases hq : q < i - 1
      · rw [show upIx a (i - 1) q = q + 1 by unfold upIx; rw [if_pos ⟨by omega, hq⟩]] at h5
        exact hs (p + 1) (q + 1) x y (by omega) (by omega) (by omega) h4 h5
      · by_cases hq2 : q = i - 1
        · rw [show upIx a (i - 1) q = a by unfold upIx; rw [if_neg (by omega), if_pos hq2]] at h5
          exact lo (p + 1) x y (by omega) (by omega) h4 h5
        · rw [show upIx a (i - 1) q = q by unfold upIx; rw [if_neg (by omega), if_neg hq2]] at h5
          exact hs (p + 1) q x y (by omega) (by omega) h3 h4 h5
    · rw [show upIx a (i - 1) q = q by unfold upIx; rw [if_neg (by omega), if_neg (by omega)]] at h5
      by_cases hp2 : p = i - 1
      · rw [show upIx a (i - 1) p = a by unfold upIx; rw [if_neg (by omega), if_pos hp2]] at h4
        exact hi' q y x (by omega) h3 h5 h4
      · rw [show upIx a (i - 1) p = p by unfold upIx; rw [if_neg (by omega), if_neg hp2]] at h4
        exact hs p q x y (by omega) h2 h3 h4 h5
/-- one item behind a row in order, carried to its place i -/
theorem dn_sorted {l l' : List It} {a m i : Nat} (h : Moved l l' (dnIx m i)) (hs : SortedOn a m l) (hi : a ≤ i) (him : i ≤ m)
    (lo : ∀ q x y, a ≤ q → q < i → l[q]? = some x → l[m]? = some y → x.le y) (hi' : ∀ q x y, i ≤ q → q < m → l[q]? = some x → l[m]? = some y → y.le x) : PermOn a (m + 1) l l' ∧ SortedOn a (m + 1) l' := by
  refine ⟨h.permOn (fun k h1 h2 => ?_) (fun k hk => ?_), fun p q x y h1 h2 h3 h4 h5 => ?_⟩
  · unfold dnIx; repeat' split
    all_goals omega
  · unfold dnIx; repeat' split
    all_goals omega
  · rw [h.get] at h4 h5
    by_cases hp : p < i
    · rw [show dnIx m i p = p by unfold dnIx; rw [if_neg (by omega), if_neg (by omega)]] at h4
      by_cases hq : q < i
      · rw [show dnIx m i q = q by unfold dnIx; rw [if_neg (by omega), if_neg (by omega)]] at h5
        exact hs p q x y h1 h2 (by omega) h4 h5
      · by_cases hq2 : q = i
        · rw [show dnIx m i q = m by unfold dnIx; rw [if_pos hq2]] at h5
          exact lo p x y h1 hp h4 h5
        · rw [show dnIx m i q = q - 1 by unfold dnIx; rw [if_neg hq2, if_pos (by omega)]] at h5
          exact hs p (q - 1) x y h1 (by omega) (by omega) h4 h5
    · rw [show dnIx m i q = q - 1 by unfold dnIx; rw [if_neg (by omega), if_pos (by omega)]] at h5
      by_cases hp2 : p = i
      · rw [show dnIx m i p = m by unfold dnIx; rw [if_pos hp2]] at h4
        exact hi' (q - 1) y x (by omega) (by omega) h5 h4
      · rw [show dnIx m i p = p - 1 by unfold dnIx; rw [if_neg hp2, if_pos (by omega)]] at h4
        exact hs (p - 1) (q - 1) x y (by omega) (by omega) (by omega) h4 h5
/-- no item of the left part is behind an item of the right part -/
def Split (a c b : Nat) (l : List It) : Prop := ∀ p q x y, a ≤ p → p < c → c ≤ q → q < b → l[p]? = some x → l[q]? = some y → x.le y
theorem Split.left {a c b : Nat} {l m : List It} (h : Split a c b l) (k : PermOn a c l m) : Split a c b m := by
  intro p q x y h1 h2 h3 h4 h5 h6
  obtain ⟨i, i1, i2, i3⟩ := k.from_ p x h1 h2 h5
  rw [k.same q (by omega)] at h6
  exact h i q x y i1 i2 h3 h4 i3 h6
theorem Split.right {a c b : Nat} {l m : List It} (h : Split a c b l) (k : PermOn c b l m) : Split a c b m := by
  intro p q x y h1 h2 h3 h4 h5 h6
  obtain ⟨i, i1, i2, i3⟩ := k.from_ q y h3 h4 h6
  rw [k.same p (by omega)] at h5
  exact h p i x y h1 h2 i1 i2 h5 i3
theorem Split.sorted {a c b : Nat} {l : List It} (h : Split a c b l) (h1 : SortedOn a c l) (h2 : SortedOn c b l) : SortedOn a b l := by
  intro p q x y p1 p2 p3 p4 p5
  by_cases hq : q < c
  · exact h1 p q x y p1 p2 hq p4 p5
  · by_cases hp : p < c
    · exact h p q x y p1 hp (by omega) p3 p4 p5
    · exact h2 p q x y (by omega) p2 p3 p4 p5
/-- the turn of symMerge: the two halves, and what is in order in each -/
theorem turn_split {l l' : List It} {a m b c s : Nat} (h : Moved l l' (roIx s m (c + m - s))) (h1 : SortedOn a m l) (h2 : SortedOn m b l) (hb : b ≤ l.length) (hmb : m < b) (hs1 : a ≤ s) (hs2 : s ≤ m) (hs3 : s ≤ c) (hsb : c + m - s ≤ b)
    (lo : a < s → c + m - s < b → ∀ x y, l[s - 1]? = some x → l[c + m - s]? = some y → x.le y) (hi : s < c → s < m → ∀ x y, l[s]? = some x → l[c + m - s - 1]? = some y → y.le x) :
    PermOn a b l l' ∧ Split a c b l' ∧ SortedOn a s l' ∧ SortedOn s c l' ∧ SortedOn c (c + m - s) l' ∧ SortedOn (c + m - s) b l' := by
  have e1 : ∀ k, k < s → roIx s m (c + m - s) k = k := fun k hk => by unfold roIx; rw [if_pos (.inl hk)]
  have e2 : ∀ k, s ≤ k → k < c → roIx s m (c + m - s) k = k + (m - s) := fun k h1 h2 => by unfold roIx; rw [if_neg (by omega), if_pos (by omega)]
  have e3 : ∀ k, c ≤ k → k < c + m - s → roIx s m (c + m - s) k = k - (c - s) := fun k h1 h2 => by unfold roIx; rw [if_neg (by omega), if_neg (by omega)]; omega
  have e4 : ∀ k, c + m - s ≤ k → roIx s m (c + m - s) k = k := fun k hk => by unfold roIx; rw [if_pos (.inr hk)]
  refine ⟨h.permOn (fun k k1 k2 => ?_) (fun k hk => ?_), fun p q x y p1 p2 p3 p4 p5 p6 => ?_, fun p q x y p1 p2 p3 p4 p5 => ?_, fun p q x y p1 p2 p3 p4 p5 => ?_, fun p q x y p1 p2 p3 p4 p5 => ?_, fun p q x y p1 p2 p3 p4 p5 => ?_⟩
  · by_cases g1 : k < s
    · rw [e1 k g1]; omega
    · by_cases g2 : k < c
      · rw [e2 k (by omega) g2]; omega
      · by_cases g3 : k < c + m - s
        · rw [e3 k (by omega) g3]; omega
        · rw [e4 k (by omega)]; omega
  · rcases hk with hk | hk
    · exact e1 k (by omega)
    · exact e4 k (by omega)
  · rw [h.get] at p5 p6
    have le1 : ∀ i j x y, a ≤ i → i ≤ j → j < m → l[i]? = some x → l[j]? = some y → x.le y := fun i j x y g1 g2 g3 g4 g5 => by
      by_cases e : i = j
      · subst e; rw [g4] at g5; injection g5 with g5; subst g5; exact It.le_refl _
      · exact h1 i j x y g1 (by omega) g3 g4 g5
    have le2 : ∀ i j x y, m ≤ i → i ≤ j → j < b → l[i]? = some x → l[j]? = some y → x.le y := fun i j x y g1 g2 g3 g4 g5 => by
      by_cases e : i = j
      · subst e; rw [g4] at g5; injection g5 with g5; subst g5; exact It.le_refl _
      · exact h2 i j x y g1 (by omega) g3 g4 g5
    by_cases gp : p < s
    · rw [e1 p gp] at p5
      by_cases gq : q < c + m - s
      · rw [e3 q p3 gq] at p6
        exact h1 p _ x y p1 (by omega) (by omega) p5 p6
      · rw [e4 q (by omega)] at p6
        have k1 : l[s - 1]? = some (l[s - 1]'(by omega)) := List.getElem?_eq_getElem _
        have k2 : l[c + m - s]? = some (l[c + m - s]'(by omega)) := List.getElem?_eq_getElem _
        exact It.le_trans (le1 p (s - 1) x _ p1 (by omega) (by omega) p5 k1) (It.le_trans (lo (by omega) (by omega) _ _ k1 k2) (le2 (c + m - s) q _ y (by omega) (by omega) p4 k2 p6))
    · rw [e2 p (by omega) p2] at p5
      by_cases gq : q < c + m - s
      · rw [e3 q p3 gq] at p6
        have k1 : l[s]? = some (l[s]'(by omega)) := List.getElem?_eq_getElem _
        have k2 : l[c + m - s - 1]? = some (l[c + m - s - 1]'(by omega)) := List.getElem?_eq_getElem _
        exact It.le_trans (le2 _ (c + m - s - 1) x _ (by omega) (by omega) (by omega) p5 k2) (It.le_trans (hi (by omega) (by omega) _ _ k1 k2) (le1 s _ _ y (by omega) (by omega) (by omega) k1 p6))
      · rw [e4 q (by omega)] at p6
        exact h2 _ q x y (by omega) (by omega) p4 p5 p6
  · rw [h.get, e1 p (by omega)] at p4
    rw [h.get, e1 q p3] at p5
    exact h1 p q x y p1 p2 (by omega) p4 p5
  · rw [h.get, e2 p p1 (by omega)] at p4
    rw [h.get, e2 q (by omega) p3] at p5
    exact h2 _ _ x y (by omega) (by omega) (by omega) p4 p5
  · rw [h.get, e3 p p1 (by omega)] at p4
    rw [h.get, e3 q (by omega) p3] at p5
    exact h1 _ _ x y (by omega) (by omega) (by omega) p4 p5
  · rw [h.get, e4 p p1] at p4
    rw [h.get, e4 q (by omega)] at p5
    exact h2 p q x y (by omega) p2 p3 p4 p5
end
section
theorem It.lt_of_le {s t u : It} (h : s.le t) (k : P.cmp t.e.1 u.e.1 < 0) : P.cmp s.e.1 u.e.1 < 0 := by
  unfold It.le at h
  by_cases e : P.cmp s.e.1 t.e.1 = 0
  · rw [P.cmp_eq _ _ e]; exact k
  · exact P.cmp_trans _ _ _ (by omega) k
theorem SortedOn.le {a b : Nat} {l : List It} (h : SortedOn a b l) {i j : Nat} {x y : It} (h1 : a ≤ i) (h2 : i ≤ j) (h3 : j < b) (h4 : l[i]? = some x) (h5 : l[j]? = some y) : x.le y := by
  by_cases e : i = j
  · subst e; rw [h4] at h5; injection h5 with h5; subst h5; exact It.le_refl _
  · exact h i j x y h1 (by omega) h3 h4 h5
open Go Go.RowKit
set_option maxHeartbeats 4000000
set_option maxRecDepth 100000
def MergePost (its : List It) (F : Blk) (g o a b : Nat) (w : World) (e : Ending) (w' : World) : Prop :=
  e = .returned (.tuple #[]) ∧ ∃ its', PermOn a b its its' ∧ SortedOn a b its' ∧ RowI w' F g o its' ∧ Chg (fun b => b = g) w w'
/-- all of [m, i) go before t, none of [j, b) does -/
def Cut (l : List It) (m i j b : Nat) (t : It) : Prop :=
  (∀ q s, m ≤ q → q < i → l[q]? = some s → P.cmp s.e.1 t.e.1 < 0) ∧ (∀ q s, j ≤ q → q < b → l[q]? = some s → ¬ P.cmp s.e.1 t.e.1 < 0)
theorem Cut.low {l : List It} {m i j b h : Nat} {t : It} (c : Cut l m i j b t) (hs : SortedOn m b l) (h1 : m ≤ h) (h2 : h < b) (hl : h < l.length) (hc : P.cmp l[h].e.1 t.e.1 < 0) : Cut l m (h + 1) j b t :=
  ⟨fun q s q1 q2 q3 => It.lt_of_le (hs.le q1 (by omega) h2 q3 (List.getElem?_eq_getElem hl)) hc, c.2⟩
theorem Cut.high {l : List It} {m i j b h : Nat} {t : It} (c : Cut l m i j b t) (hs : SortedOn m b l) (h1 : m ≤ h) (hl : h < l.length) (hc : ¬ P.cmp l[h].e.1 t.e.1 < 0) : Cut l m i h b t :=
  ⟨c.1, fun q s q1 q2 q3 k => hc (It.lt_of_le (hs.le h1 q1 q2 (List.getElem?_eq_getElem hl) q3) k)⟩
theorem merge_up (its : List It) (F : Blk) (g o cap a m b : Nat) (w : World) (h : RowI w F g o its) (hl : its.length ≤ 2 ^ 30) (hm1 : m = a + 1) (hmb : m < b) (hb : b ≤ its.length) (hs : SortedOn m b its) :
    Calls Tryz.prog 203 #[.slice (some ⟨g, o, none⟩) its.length cap, .int .i64 a, .int .i64 m, .int .i64 b, byF] w (MergePost its F g o a b w) := by
  have HH := Lib.hid h; have HS := Lib.hid hs; clear h hs
  have hd1 : ((m : Int) - (a : Int) == 1) = true := by rw [beq_iff_eq]; omega
  have HM1 := Lib.hid hm1; clear hm1
  have hal : a < its.length := by have := HM1.out; omega
  obtain ⟨ta, hta⟩ : ∃ t, (its[a]'hal) = t := ⟨_, rfl⟩
  have HTA := Lib.hid hta; clear hta
  have HMA := Lib.hid (show a < m by have := HM1.out; omega)
  go_enter Tryz.func203, Tryz.ntmps203
  go_wp2_with fail
  go_loopw [10, 11] (fun x y wr => ∃ i j : Nat, m ≤ i ∧ i ≤ j ∧ j ≤ b ∧ x = .int .i64 i ∧ y = .int .i64 j ∧ Cut its m i j b ta ∧ RowI wr F g o its ∧ Chg (fun b => b = g) w wr) (fun x y _ => (intOf y).toNat - (intOf x).toNat)
  case atStart => exact ⟨m, b, Nat.le_refl _, by omega, Nat.le_refl _, rfl, rfl, ⟨fun q s h1 h2 => by omega, fun q s h1 h2 => by omega⟩, HH.out, Chg.refl _ _⟩
  case round =>
    obtain ⟨i, j, hi1, hij, hjb, rfl, rfl, hc, hr, hch⟩ := hrel
    have HCU := Lib.hid hc; have HR := Lib.hid hr; have HC := Lib.hid hch
    clear hc hr hch HH
    by_cases hlt : i < j
    · obtain ⟨h, hh⟩ : ∃ h : Nat, (i + j) / 2 = h := ⟨_, rfl⟩
      have hhi : ((i : Int) + (j : Int)) / 2 = (h : Int) := by omega
      have hh1 : i ≤ h := by omega
      have hh2 : h < j := by omega
      have hhl : h < its.length := by omega
      clear hh
      have h1i : (i : Int) < (j : Int) := by omega
      go_upto_region 5 with fail
      try rw [hhi]
      clear hhi
      have HLOW := Lib.hid (fun hc => HCU.out.low HS.out (by omega) (by omega) hhl hc)
      have HHIGH := Lib.hid (fun hc => HCU.out.high HS.out (by omega) hhl hc)
      obtain ⟨xd, xc, yd, yc, hx, hy, hkc⟩ := HR.out.two h a hhl hal
      rw [HTA.out] at hy hkc
      generalize (its[h]'hhl) = en at *
      obtain ⟨x, Gx, eo, et⟩ := en
      obtain ⟨y, Gy, fo, ft⟩ := ta
      simp only at hx hy hkc HLOW HHIGH
      subst hx hy
      have HK0 := Lib.hid (hkc.step (Below.refl _ _).drew); clear hkc
      have hnp : ¬ its.length ≤ h := by omega
      have hnq : ¬ its.length ≤ a := by omega
      refine wp_region_held_drew (S := KC wr.heap.size wr g (o + h * 2) (.slice xd eo.length xc) eo et (o + a * 2) (.slice yd fo.length yc) fo ft) (by kernel_rfl) HK0.out (fun hS0 => ?_)
      refine wpAnyH_take (i := 0) (v := byF) rfl (by kernel_rfl) (by kernel_rfl) (by kernel_rfl) (fun _ _ _ h => h) (Or.inl ⟨by rfl, fun z hz => ?_⟩) hS0 ?_
      · obtain ⟨z1, z2, z3, z4, z5, z6⟩ := hz
        go_simp
      try simp only [List.getElem_toArray, List.getElem_cons_zero, Act.put, List.setIfInBounds_toArray, List.set_cons_zero, List.set_cons_succ]
      refine wpAnyH_take (i := 1) (v := .slice (some ⟨g, o, none⟩) its.length cap) rfl (by kernel_rfl) (by kernel_rfl) (by kernel_rfl) (fun _ _ _ h => h) (Or.inl ⟨by rfl, fun z hz => ?_⟩) hS0 ?_
      · obtain ⟨z1, z2, z3, z4, z5, z6⟩ := hz
        go_simp
      try simp only [List.getElem_toArray, List.getElem_cons_zero, List.getElem_cons_succ, Act.put, List.setIfInBounds_toArray, List.set_cons_zero, List.set_cons_succ]
      refine wpAnyH_take (i := 2) (v := .int .i64 h) rfl (by kernel_rfl) (by kernel_rfl) (by kernel_rfl) (fun _ _ _ h => h) (Or.inl ⟨by rfl, fun z hz => ?_⟩) hS0 ?_
      · obtain ⟨z1, z2, z3, z4, z5, z6⟩ := hz
        go_simp
      try simp only [List.getElem_toArray, List.getElem_cons_zero, List.getElem_cons_succ, Act.put, List.setIfInBounds_toArray, List.set_cons_zero, List.set_cons_succ]
      refine wpAnyH_take (i := 3) (v := .pointer (some ⟨g, o + h * 2, none⟩)) rfl (by kernel_rfl) (by kernel_rfl) (by kernel_rfl) (fun _ _ _ h => h) (Or.inl ⟨by rfl, fun z hz => ?_⟩) hS0 ?_
      · obtain ⟨z1, z2, z3, z4, z5, z6⟩ := hz
        go_simp
      try simp only [List.getElem_toArray, List.getElem_cons_zero, List.getElem_cons_succ, Act.put, List.setIfInBounds_toArray, List.set_cons_zero, List.set_cons_succ]
      refine wpAnyH_take (i := 4) (v := .agg #[.slice xd eo.length xc, .string (S et)]) rfl (by kernel_rfl) (by kernel_rfl) (by kernel_rfl) (fun _ _ _ h => h) (Or.inl ⟨by rfl, fun z hz => ?_⟩) hS0 ?_
      · obtain ⟨z1, z2, z3, z4, z5, z6⟩ := hz
        go_simp
      try simp only [List.getElem_toArray, List.getElem_cons_zero, List.getElem_cons_succ, Act.put, List.setIfInBounds_toArray, List.set_cons_zero, List.set_cons_succ]
      refine wpAnyH_take (i := 5) (v := .slice (some ⟨g, o, none⟩) its.length cap) rfl (by kernel_rfl) (by kernel_rfl) (by kernel_rfl) (fun _ _ _ h => h) (Or.inl ⟨by rfl, fun z hz => ?_⟩) hS0 ?_
      · obtain ⟨z1, z2, z3, z4, z5, z6⟩ := hz
        go_simp
      try simp only [List.getElem_toArray, List.getElem_cons_zero, List.getElem_cons_succ, Act.put, List.setIfInBounds_toArray, List.set_cons_zero, List.set_cons_succ]
      refine wpAnyH_take (i := 6) (v := .int .i64 a) rfl (by kernel_rfl) (by kernel_rfl) (by kernel_rfl) (fun _ _ _ h => h) (Or.inl ⟨by rfl, fun z hz => ?_⟩) hS0 ?_
      · obtain ⟨z1, z2, z3, z4, z5, z6⟩ := hz
        go_simp
      try simp only [List.getElem_toArray, List.getElem_cons_zero, List.getElem_cons_succ, Act.put, List.setIfInBounds_toArray, List.set_cons_zero, List.set_cons_succ]
      refine wpAnyH_take (i := 7) (v := .pointer (some ⟨g, o + a * 2, none⟩)) rfl (by kernel_rfl) (by kernel_rfl) (by kernel_rfl) (fun _ _ _ h => h) (Or.inl ⟨by rfl, fun z hz => ?_⟩) hS0 ?_
      · obtain ⟨z1, z2, z3, z4, z5, z6⟩ := hz
        go_simp
      try simp only [List.getElem_toArray, List.getElem_cons_zero, List.getElem_cons_succ, Act.put, List.setIfInBounds_toArray, List.set_cons_zero, List.set_cons_succ]
      refine wpAnyH_take (i := 8) (v := .agg #[.slice yd fo.length yc, .string (S ft)]) rfl (by kernel_rfl) (by kernel_rfl) (by kernel_rfl) (fun _ _ _ h => h) (Or.inl ⟨by rfl, fun z hz => ?_⟩) hS0 ?_
      · obtain ⟨z1, z2, z3, z4, z5, z6⟩ := hz
        go_simp
      try simp only [List.getElem_toArray, List.getElem_cons_zero, List.getElem_cons_succ, Act.put, List.setIfInBounds_toArray, List.set_cons_zero, List.set_cons_succ]
      refine wpAnyH_ready (rs := [9]) (by kernel_rfl) (by simp) ?_
      refine AllReadyH.cons rfl (fun K hK => ?_) AllReadyH.nil
      have HX := Lib.hid hS0.2.2.2.2.2.1
      have HY := Lib.hid hS0.2.2.2.2.2.2.1
      have HS1 := Lib.hid hS0
      go_simp
      refine (byOutline _ _ eo fo et ft _ HX.out HY.out).mono ?_
      rintro e v ⟨rfl, hb⟩
      refine hK.out _ _ (HS1.out.step hb) (fun hS1 => ?_)
      clear hK K hb
      try simp only [List.getElem_toArray, List.getElem_cons_zero, List.getElem_cons_succ, Act.put, List.setIfInBounds_toArray, List.set_cons_zero, List.set_cons_succ]
      have HBV := Lib.hid hS1.2.2.2.2.2.2.2.2
      have HRV := Lib.hid (HR.out.below HBV.out)
      have HCV := Lib.hid (HC.out.trans (Below.chg HBV.out _))
      by_cases hcmp : P.cmp eo fo < 0
      · have HQ := Lib.hid (HLOW.out hcmp)
        refine wpAnyH_take (i := 10) (v := .bool true) rfl (by kernel_rfl) (by kernel_rfl) (by kernel_rfl) (fun _ _ _ h => h) (Or.inl ⟨by rfl, fun z hz => ?_⟩) hS1 ?_
        · obtain ⟨z1, z2, z3, z4, z5, z6⟩ := hz
          go_simp
        try simp only [List.getElem_toArray, List.getElem_cons_zero, List.getElem_cons_succ, Act.put, List.setIfInBounds_toArray, List.set_cons_zero, List.set_cons_succ]
        refine wpAnyH_done (by kernel_rfl) ?_ _
        clear hS0 HS1 hS1 HLOW HHIGH hcmp HX HY HK0 HR HC HBV hnp hnq
        go_wp2
        go_roundw
        case rel => exact ⟨h + 1, j, by omega, by omega, hjb, by go_num, rfl, HQ.out, HRV.out, HCV.out⟩
        case measure => simp [intOf]; omega
      · have HQ := Lib.hid (HHIGH.out hcmp)
        refine wpAnyH_take (i := 10) (v := .bool false) rfl (by kernel_rfl) (by kernel_rfl) (by kernel_rfl) (fun _ _ _ h => h) (Or.inl ⟨by rfl, fun z hz => ?_⟩) hS1 ?_
        · obtain ⟨z1, z2, z3, z4, z5, z6⟩ := hz
          go_simp
        try simp only [List.getElem_toArray, List.getElem_cons_zero, List.getElem_cons_succ, Act.put, List.setIfInBounds_toArray, List.set_cons_zero, List.set_cons_succ]
        refine wpAnyH_done (by kernel_rfl) ?_ _
        clear hS0 HS1 hS1 HLOW HHIGH hcmp HX HY HK0 HR HC HBV hnp hnq
        go_wp2
        go_roundw
        case rel => exact ⟨i, h, hi1, hh1, by omega, rfl, rfl, HQ.out, HRV.out, HCV.out⟩
        case measure => simp [intOf]; omega
    · have hjm : j = i := by omega
      subst hjm
      have hj1 : 1 ≤ j := by have := HMA.out; omega
      have hwi : IntKind.i64.wrap ((j : Int) - 1) = ((j - 1 : Nat) : Int) := by rw [IntWalk.i64_in _ (by omega)]; omega
      go_wp2_with fail
      go_loopw [13] (fun x wr => ∃ (k : Nat) (n : List It), a ≤ k ∧ k ≤ j - 1 ∧ x = .int .i64 k ∧ Moved its n (upIx a k) ∧ RowI wr F g o n ∧ Chg (fun b => b = g) w wr) (fun x _ => j - (intOf x).toNat)
      case atStart => exact ⟨a, its, Nat.le_refl _, by have := HMA.out; omega, rfl, (Moved.refl its).congr fun k => (upIx_zero a k).symm, HR.out, HC.out⟩
      case round =>
        obtain ⟨k, n, hk1, hk2, rfl, hm, hr, hc⟩ := hrel
        have hln : n.length = its.length := hm.len
        by_cases hlt2 : k < j - 1
        · have h1 : (k : Int) < ((j - 1 : Nat) : Int) := by omega
          have hi1' : k < n.length := by omega
          have hi2' : k + 1 < n.length := by omega
          obtain ⟨f1, f2⟩ := hr.soft k hi1'
          obtain ⟨f3, f4⟩ := hr.soft (k + 1) hi2'
          obtain ⟨xd, xc, yd, yc, hx, hy, hkc⟩ := hr.two k (k + 1) hi1' hi2'
          have HSW := Lib.hid (hr.swap k (k + 1) hi1' hi2' (by omega))
          have HMS := Lib.hid ((hm.trans (Moved.swap n k (k + 1) hi1' hi2')).congr (upIx_step hk1))
          have HC2 := Lib.hid hc
          clear hm hr hc
          generalize n[k] = en at *
          generalize n[k + 1] = fn at *
          obtain ⟨x, Gx, eo, et⟩ := en
          obtain ⟨y, Gy, fo, ft⟩ := fn
          simp only at hx hy hkc HSW
          subst hx hy
          obtain ⟨c1, c2, c3, c4, c5, _⟩ := hkc
          have hw1 : IntKind.i64.wrap ((k : Int) + 1) = ((k + 1 : Nat) : Int) := by rw [IntWalk.i64_in _ (by omega)]; omega
          have hn1 : ((k + 1 : Nat) : Int) < (its.length : Int) := by omega
          have hn2 : (k : Int) < (its.length : Int) := by omega
          clear HR HC
          generalize HVV : wr = vv at *
          go_upto_region 11 with fail
          go_region
          obtain ⟨hr3, hc3⟩ := HSW.out
          have hd := (Below.refl (swapW vv g o k (k + 1) ⟨.slice xd eo.length xc, Gx, (eo, et)⟩ ⟨.slice yd fo.length yc, Gy, (fo, ft)⟩).heap.size (swapW vv g o k (k + 1) ⟨.slice xd eo.length xc, Gx, (eo, et)⟩ ⟨.slice yd fo.length yc, Gy, (fo, ft)⟩)).drew
          have HR3 := Lib.hid (hr3.below hd)
          have HC3 := Lib.hid ((HC2.out.trans hc3).trans (Below.chg hd _))
          clear hr3 hc3 hd HSW HC2 c1 c2 c3 c4 c5 f1 f2 f3 f4
          change Exit.inBlock _ _ _ _ (swapW vv g o k (k + 1) ⟨.slice xd eo.length xc, Gx, (eo, et)⟩ ⟨.slice yd fo.length yc, Gy, (fo, ft)⟩).drew
          generalize (swapW vv g o k (k + 1) ⟨.slice xd eo.length xc, Gx, (eo, et)⟩ ⟨.slice yd fo.length yc, Gy, (fo, ft)⟩).drew = v3 at *
          generalize swapI n k (k + 1) _ _ = n3 at *
          go_wp2
          go_roundw
          case rel => exact ⟨k + 1, n3, by omega, by omega, by go_num, HMS.out, HR3.out, HC3.out⟩
          case measure => simp [intOf]; omega
        · have hk : k = j - 1 := by omega
          subst hk
          have HSO := Lib.hid (up_sorted hm (HM1.out ▸ HS.out) (by have := HM1.out; omega) hjb (fun q x y q1 q2 q3 q4 => It.le_of_lt (by
            rw [List.getElem?_eq_getElem hal, HTA.out] at q4; injection q4 with q4; subst q4
            exact HCU.out.1 q x (by have := HM1.out; omega) q2 q3)) (fun q x y q1 q2 q3 q4 => It.le_of_not (by
            rw [List.getElem?_eq_getElem hal, HTA.out] at q4; injection q4 with q4; subst q4
            exact HCU.out.2 q x q1 q2 q3)))
          have HR2 := Lib.hid hr; have HC2 := Lib.hid hc
          clear hm hr hc
          go_wp2
          first | go_end0 | (refine bodyPost_ret (results_none rfl _ _ _) rfl ?_)
          exact ⟨rfl, n, HSO.out.1, HSO.out.2, HR2.out, HC2.out⟩
end
section
theorem It.lt_of_lt_of_le {s t u : It} (k : P.cmp s.e.1 t.e.1 < 0) (h : t.le u) : P.cmp s.e.1 u.e.1 < 0 := by
  unfold It.le at h
  by_cases e : P.cmp t.e.1 u.e.1 = 0
  · rw [← P.cmp_eq _ _ e]; exact k
  · exact P.cmp_trans _ _ _ k (by omega)
/-- t goes before none of [a, i), before all of [j, m) -/
def CutD (l : List It) (a i j m : Nat) (t : It) : Prop :=
  (∀ q s, a ≤ q → q < i → l[q]? = some s → ¬ P.cmp t.e.1 s.e.1 < 0) ∧ (∀ q s, j ≤ q → q < m → l[q]? = some s → P.cmp t.e.1 s.e.1 < 0)
theorem CutD.low {l : List It} {a i j m h : Nat} {t : It} (c : CutD l a i j m t) (hs : SortedOn a m l) (h2 : h < m) (hl : h < l.length) (hc : ¬ P.cmp t.e.1 l[h].e.1 < 0) : CutD l a (h + 1) j m t :=
  ⟨fun _ _ q1 q2 q3 k => hc (It.lt_of_lt_of_le k (hs.le q1 (by omega) h2 q3 (List.getElem?_eq_getElem hl))), c.2⟩
theorem CutD.high {l : List It} {a i j m h : Nat} {t : It} (c : CutD l a i j m t) (hs : SortedOn a m l) (h1 : a ≤ h) (hl : h < l.length) (hc : P.cmp t.e.1 l[h].e.1 < 0) : CutD l a i h m t :=
  ⟨c.1, fun q s q1 q2 q3 => It.lt_of_lt_of_le hc (hs.le h1 q1 q2 (List.getElem?_eq_getElem hl) q3)⟩
open Go Go.RowKit
set_option maxHeartbeats 4000000
set_option maxRecDepth 100000
theorem merge_dn (its : List It) (F : Blk) (g o cap a m b : Nat) (w : World) (h : RowI w F g o its) (hl : its.length ≤ 2 ^ 30) (ham : a + 1 < m) (hm1 : b = m + 1) (hb : b ≤ its.length) (hs : SortedOn a m its) :
    Calls Tryz.prog 203 #[.slice (some ⟨g, o, none⟩) its.length cap, .int .i64 a, .int .i64 m, .int .i64 b, byF] w (MergePost its F g o a b w) := by
  have HH := Lib.hid h; have HS := Lib.hid hs; clear h hs
  have hd1 : ((m : Int) - (a : Int) == 1) = false := by rw [beq_eq_false_iff_ne]; omega
  have hd2 : ((b : Int) - (m : Int) == 1) = true := by rw [beq_iff_eq]; omega
  have HM1 := Lib.hid hm1; clear hm1
  have hal : m < its.length := by have := HM1.out; omega
  obtain ⟨ta, hta⟩ : ∃ t, (its[m]'hal) = t := ⟨_, rfl⟩
  have HTA := Lib.hid hta; clear hta
  go_enter Tryz.func203, Tryz.ntmps203
  go_wp2_with fail
  go_loopw [14, 15] (fun x y wr => ∃ i j : Nat, a ≤ i ∧ i ≤ j ∧ j ≤ m ∧ x = .int .i64 i ∧ y = .int .i64 j ∧ CutD its a i j m ta ∧ RowI wr F g o its ∧ Chg (fun b => b = g) w wr) (fun x y _ => (intOf y).toNat - (intOf x).toNat)
  case atStart => exact ⟨a, m, Nat.le_refl _, by omega, Nat.le_refl _, rfl, rfl, ⟨fun q s h1 h2 => by omega, fun q s h1 h2 => by omega⟩, HH.out, Chg.refl _ _⟩
  case round =>
    obtain ⟨i, j, hi1, hij, hjb, rfl, rfl, hc, hr, hch⟩ := hrel
    have HCU := Lib.hid hc; have HR := Lib.hid hr; have HC := Lib.hid hch
    clear hc hr hch HH
    by_cases hlt : i < j
    · obtain ⟨h, hh⟩ : ∃ h : Nat, (i + j) / 2 = h := ⟨_, rfl⟩
      have hhi : ((i : Int) + (j : Int)) / 2 = (h : Int) := by omega
      have hh1 : i ≤ h := by omega
      have hh2 : h < j := by omega
      have hhl : h < its.length := by omega
      clear hh
      have h1i : (i : Int) < (j : Int) := by omega
      go_upto_region 17 with fail
      try rw [hhi]
      clear hhi
      have HLOW := Lib.hid (fun hc => HCU.out.low HS.out (by omega) hhl hc)
      have HHIGH := Lib.hid (fun hc => HCU.out.high HS.out (by omega) hhl hc)
      obtain ⟨xd, xc, yd, yc, hx, hy, hkc⟩ := HR.out.two m h hal hhl
      rw [HTA.out] at hx hkc
      generalize (its[h]'hhl) = en at *
      obtain ⟨y, Gy, fo, ft⟩ := en
      obtain ⟨x, Gx, eo, et⟩ := ta
      simp only at hx hy hkc HLOW HHIGH
      subst hx hy
      have HK0 := Lib.hid (hkc.step (Below.refl _ _).drew); clear hkc
      have hnp : ¬ its.length ≤ h := by omega
      have hnq : ¬ its.length ≤ m := by omega
      refine wp_region_held_drew (S := KC wr.heap.size wr g (o + m * 2) (.slice xd eo.length xc) eo et (o + h * 2) (.slice yd fo.length yc) fo ft) (by kernel_rfl) HK0.out (fun hS0 => ?_)
      refine wpAnyH_take (i := 0) (v := byF) rfl (by kernel_rfl) (by kernel_rfl) (by kernel_rfl) (fun _ _ _ h => h) (Or.inl ⟨by rfl, fun z hz => ?_⟩) hS0 ?_
      · obtain ⟨z1, z2, z3, z4, z5, z6⟩ := hz
        go_simp
      try simp only [List.getElem_toArray, List.getElem_cons_zero, Act.put, List.setIfInBounds_toArray, List.set_cons_zero, List.set_cons_succ]
      refine wpAnyH_take (i := 1) (v := .slice (some ⟨g, o, none⟩) its.length cap) rfl (by kernel_rfl) (by kernel_rfl) (by kernel_rfl) (fun _ _ _ h => h) (Or.inl ⟨by rfl, fun z hz => ?_⟩) hS0 ?_
      · obtain ⟨z1, z2, z3, z4, z5, z6⟩ := hz
        go_simp
      try simp only [List.getElem_toArray, List.getElem_cons_zero, List.getElem_cons_succ, Act.put, List.setIfInBounds_toArray, List.set_cons_zero, List.set_cons_succ]
      refine wpAnyH_take (i := 2) (v := .int .i64 m) rfl (by kernel_rfl) (by kernel_rfl) (by kernel_rfl) (fun _ _ _ h => h) (Or.inl ⟨by rfl, fun z hz => ?_⟩) hS0 ?_
      · obtain ⟨z1, z2, z3, z4, z5, z6⟩ := hz
        go_simp
      try simp only [List.getElem_toArray, List.getElem_cons_zero, List.getElem_cons_succ, Act.put, List.setIfInBounds_toArray, List.set_cons_zero, List.set_cons_succ]
      refine wpAnyH_take (i := 3) (v := .pointer (some ⟨g, o + m * 2, none⟩)) rfl (by kernel_rfl) (by kernel_rfl) (by kernel_rfl) (fun _ _ _ h => h) (Or.inl ⟨by rfl, fun z hz => ?_⟩) hS0 ?_
      · obtain ⟨z1, z2, z3, z4, z5, z6⟩ := hz
        go_simp
      try simp only [List.getElem_toArray, List.getElem_cons_zero, List.getElem_cons_succ, Act.put, List.setIfInBounds_toArray, List.set_cons_zero, List.set_cons_succ]
      refine wpAnyH_take (i := 4) (v := .agg #[.slice xd eo.length xc, .string (S et)]) rfl (by kernel_rfl) (by kernel_rfl) (by kernel_rfl) (fun _ _ _ h => h) (Or.inl ⟨by rfl, fun z hz => ?_⟩) hS0 ?_
      · obtain ⟨z1, z2, z3, z4, z5, z6⟩ := hz
        go_simp
      try simp only [List.getElem_toArray, List.getElem_cons_zero, List.getElem_cons_succ, Act.put, List.setIfInBounds_toArray, List.set_cons_zero, List.set_cons_succ]
      refine wpAnyH_take (i := 5) (v := .slice (some ⟨g, o, none⟩) its.length cap) rfl (by kernel_rfl) (by kernel_rfl) (by kernel_rfl) (fun _ _ _ h => h) (Or.inl ⟨by rfl, fun z hz => ?_⟩) hS0 ?_
      · obtain ⟨z1, z2, z3, z4, z5, z6⟩ := hz
        go_simp
      try simp only [List.getElem_toArray, List.getElem_cons_zero, List.getElem_cons_succ, Act.put, List.setIfInBounds_toArray, List.set_cons_zero, List.set_cons_succ]
      refine wpAnyH_take (i := 6) (v := .int .i64 h) rfl (by kernel_rfl) (by kernel_rfl) (by kernel_rfl) (fun _ _ _ h => h) (Or.inl ⟨by rfl, fun z hz => ?_⟩) hS0 ?_
      · obtain ⟨z1, z2, z3, z4, z5, z6⟩ := hz
        go_simp
      try simp only [List.getElem_toArray, List.getElem_cons_zero, List.getElem_cons_succ, Act.put, List.setIfInBounds_toArray, List.set_cons_zero, List.set_cons_succ]
      refine wpAnyH_take (i := 7) (v := .pointer (some ⟨g, o + h * 2, none⟩)) rfl (by kernel_rfl) (by kernel_rfl) (by kernel_rfl) (fun _ _ _ h => h) (Or.inl ⟨by rfl, fun z hz => ?_⟩) hS0 ?_
      · obtain ⟨z1, z2, z3, z4, z5, z6⟩ := hz
        go_simp
      try simp only [List.getElem_toArray, List.getElem_cons_zero, List.getElem_cons_succ, Act.put, List.setIfInBounds_toArray, List.set_cons_zero, List.set_cons_succ]
      refine wpAnyH_take (i := 8) (v := .agg #[.slice yd fo.length yc, .string (S ft)]) rfl (by kernel_rfl) (by kernel_rfl) (by kernel_rfl) (fun _ _ _ h => h) (Or.inl ⟨by rfl, fun z hz => ?_⟩) hS0 ?_
      · obtain ⟨z1, z2, z3, z4, z5, z6⟩ := hz
        go_simp
      try simp only [List.getElem_toArray, List.getElem_cons_zero, List.getElem_cons_succ, Act.put, List.setIfInBounds_toArray, List.set_cons_zero, List.set_cons_succ]
      refine wpAnyH_ready (rs := [9]) (by kernel_rfl) (by simp) ?_
      refine AllReadyH.cons rfl (fun K hK => ?_) AllReadyH.nil
      have HX := Lib.hid hS0.2.2.2.2.2.1
      have HY := Lib.hid hS0.2.2.2.2.2.2.1
      have HS1 := Lib.hid hS0
      go_simp
      refine (byOutline _ _ eo fo et ft _ HX.out HY.out).mono ?_
      rintro e v ⟨rfl, hb⟩
      refine hK.out _ _ (HS1.out.step hb) (fun hS1 => ?_)
      clear hK K hb
      try simp only [List.getElem_toArray, List.getElem_cons_zero, List.getElem_cons_succ, Act.put, List.setIfInBounds_toArray, List.set_cons_zero, List.set_cons_succ]
      have HBV := Lib.hid hS1.2.2.2.2.2.2.2.2
      have HRV := Lib.hid (HR.out.below HBV.out)
      have HCV := Lib.hid (HC.out.trans (Below.chg HBV.out _))
      by_cases hcmp : P.cmp eo fo < 0
      · have HQ := Lib.hid (HHIGH.out hcmp)
        refine wpAnyH_take (i := 10) (v := .bool true) rfl (by kernel_rfl) (by kernel_rfl) (by kernel_rfl) (fun _ _ _ h => h) (Or.inl ⟨by rfl, fun z hz => ?_⟩) hS1 ?_
        · obtain ⟨z1, z2, z3, z4, z5, z6⟩ := hz
          go_simp
        try simp only [List.getElem_toArray, List.getElem_cons_zero, List.getElem_cons_succ, Act.put, List.setIfInBounds_toArray, List.set_cons_zero, List.set_cons_succ]
        refine wpAnyH_take (i := 11) (v := .bool false) rfl (by kernel_rfl) (by kernel_rfl) (by kernel_rfl) (fun _ _ _ h => h) (Or.inl ⟨by rfl, fun z hz => ?_⟩) hS1 ?_
        · obtain ⟨z1, z2, z3, z4, z5, z6⟩ := hz
          go_simp
        try simp only [List.getElem_toArray, List.getElem_cons_zero, List.getElem_cons_succ, Act.put, List.setIfInBounds_toArray, List.set_cons_zero, List.set_cons_succ]
        refine wpAnyH_done (by kernel_rfl) ?_ _
        clear hS0 HS1 hS1 HLOW HHIGH hcmp HX HY HK0 HR HC HBV hnp hnq
        go_wp2
        go_roundw
        case rel => exact ⟨i, h, hi1, hh1, by omega, rfl, rfl, HQ.out, HRV.out, HCV.out⟩
        case measure => simp [intOf]; omega
      · have HQ := Lib.hid (HLOW.out hcmp)
        refine wpAnyH_take (i := 10) (v := .bool false) rfl (by kernel_rfl) (by kernel_rfl) (by kernel_rfl) (fun _ _ _ h => h) (Or.inl ⟨by rfl, fun z hz => ?_⟩) hS1 ?_
        · obtain ⟨z1, z2, z3, z4, z5, z6⟩ := hz
          go_simp
        try simp only [List.getElem_toArray, List.getElem_cons_zero, List.getElem_cons_succ, Act.put, List.setIfInBounds_toArray, List.set_cons_zero, List.set_cons_succ]
        refine wpAnyH_take (i := 11) (v := .bool true) rfl (by kernel_rfl) (by kernel_rfl) (by kernel_rfl) (fun _ _ _ h => h) (Or.inl ⟨by rfl, fun z hz => ?_⟩) hS1 ?_
        · obtain ⟨z1, z2, z3, z4, z5, z6⟩ := hz
          go_simp
        try simp only [List.getElem_toArray, List.getElem_cons_zero, List.getElem_cons_succ, Act.put, List.setIfInBounds_toArray, List.set_cons_zero, List.set_cons_succ]
        refine wpAnyH_done (by kernel_rfl) ?_ _
        clear hS0 HS1 hS1 HLOW HHIGH hcmp HX HY HK0 HR HC HBV hnp hnq
        go_wp2
        go_roundw
        case rel => exact ⟨h + 1, j, by omega, by omega, hjb, by go_num, rfl, HQ.out, HRV.out, HCV.out⟩
        case measure => simp [intOf]; omega
    · have hjm : j = i := by omega
      subst hjm
      go_wp2_with fail
      go_loopw [17] (fun x wr => ∃ (k : Nat) (n : List It), j ≤ k ∧ k ≤ m ∧ x = .int .i64 k ∧ Moved its n (dnIx m k) ∧ RowI wr F g o n ∧ Chg (fun b => b = g) w wr) (fun x _ => (intOf x).toNat)
      case atStart => exact ⟨m, its, hjb, Nat.le_refl _, rfl, (Moved.refl its).congr fun k => (dnIx_zero m k).symm, HR.out, HC.out⟩
      case round =>
        obtain ⟨k, n, hk1, hk2, rfl, hm, hr, hc⟩ := hrel
        have hln : n.length = its.length := hm.len
        by_cases hlt2 : j < k
        · have h1 : (j : Int) < (k : Int) := by omega
          have hi1' : k < n.length := by omega
          have hi2' : k - 1 < n.length := by omega
          obtain ⟨f1, f2⟩ := hr.soft k hi1'
          obtain ⟨f3, f4⟩ := hr.soft (k - 1) hi2'
          obtain ⟨xd, xc, yd, yc, hx, hy, hkc⟩ := hr.two k (k - 1) hi1' hi2'
          have HSW := Lib.hid (hr.swap k (k - 1) hi1' hi2' (by omega))
          have HMS := Lib.hid ((hm.trans (Moved.swap n k (k - 1) hi1' hi2')).congr (dnIx_step hk2 (by omega)))
          have HC2 := Lib.hid hc
          clear hm hr hc
          generalize (n[k]'hi1') = en at *
          generalize (n[k - 1]'hi2') = fn at *
          obtain ⟨x, Gx, eo, et⟩ := en
          obtain ⟨y, Gy, fo, ft⟩ := fn
          simp only at hx hy hkc HSW
          subst hx hy
          obtain ⟨c1, c2, c3, c4, c5, _⟩ := hkc
          have hw1 : IntKind.i64.wrap ((k : Int) - 1) = (k : Int) - 1 := IntWalk.i64_in _ (by omega)
          have hn3 : ¬ (its.length : Int) ≤ (k : Int) - 1 := by omega
          have hn2 : (k : Int) < (its.length : Int) := by omega
          have hk3 : 0 < k := by omega
          have hk4 : 1 ≤ (k : Int) := by omega
          clear HR HC
          generalize HVV : wr = vv at *
          go_upto_region 23 with fail
          go_region
          obtain ⟨hr3, hc3⟩ := HSW.out
          have hd := (Below.refl (swapW vv g o k (k - 1) ⟨.slice xd eo.length xc, Gx, (eo, et)⟩ ⟨.slice yd fo.length yc, Gy, (fo, ft)⟩).heap.size (swapW vv g o k (k - 1) ⟨.slice xd eo.length xc, Gx, (eo, et)⟩ ⟨.slice yd fo.length yc, Gy, (fo, ft)⟩)).drew
          have HR3 := Lib.hid (hr3.below hd)
          have HC3 := Lib.hid ((HC2.out.trans hc3).trans (Below.chg hd _))
          clear hr3 hc3 hd HSW HC2 c1 c2 c3 c4 c5 f1 f2 f3 f4
          change Exit.inBlock _ _ _ _ (swapW vv g o k (k - 1) ⟨.slice xd eo.length xc, Gx, (eo, et)⟩ ⟨.slice yd fo.length yc, Gy, (fo, ft)⟩).drew
          generalize (swapW vv g o k (k - 1) ⟨.slice xd eo.length xc, Gx, (eo, et)⟩ ⟨.slice yd fo.length yc, Gy, (fo, ft)⟩).drew = v3 at *
          generalize swapI n k (k - 1) _ _ = n3 at *
          go_wp2
          go_roundw
          case rel => exact ⟨k - 1, n3, by omega, by omega, by go_num, HMS.out, HR3.out, HC3.out⟩
          case measure => simp [intOf]; omega
        · have hk : k = j := by omega
          subst hk
          have hso := dn_sorted hm HS.out hi1 hjb (fun q x y q1 q2 q3 q4 => It.le_of_not (by
            rw [List.getElem?_eq_getElem hal, HTA.out] at q4; injection q4 with q4; subst q4
            exact HCU.out.1 q x q1 q2 q3)) (fun q x y q1 q2 q3 q4 => It.le_of_lt (by
            rw [List.getElem?_eq_getElem hal, HTA.out] at q4; injection q4 with q4; subst q4
            exact HCU.out.2 q x q1 q2 q3))
          rw [← HM1.out] at hso
          have HSO := Lib.hid hso
          have HR2 := Lib.hid hr; have HC2 := Lib.hid hc
          clear hm hr hc hso
          go_wp2
          first | go_end0 | (refine bodyPost_ret (results_none rfl _ _ _) rfl ?_)
          exact ⟨rfl, n, HSO.out.1, HSO.out.2, HR2.out, HC2.out⟩
end
section
/-- of the places [s0, r0): those below j are not behind their mirrored ones (c + m - 1 - q), those from r on are -/
def Bin (l : List It) (c m s0 r0 j r : Nat) : Prop :=
  (∀ q s t, s0 ≤ q → q < j → l[q]? = some s → l[c + m - 1 - q]? = some t → s.le t) ∧ (∀ q s t, r ≤ q → q < r0 → l[q]? = some s → l[c + m - 1 - q]? = some t → P.cmp t.e.1 s.e.1 < 0)
theorem Bin.start (l : List It) (c m s0 r0 : Nat) : Bin l c m s0 r0 s0 r0 :=
  ⟨fun _ _ _ h1 h2 => by omega, fun _ _ _ h1 h2 => by omega⟩
theorem Bin.low {l : List It} {a b c m s0 r0 j r h : Nat} (k : Bin l c m s0 r0 j r) (h1 : SortedOn a m l) (h2 : SortedOn m b l) (hs : a ≤ s0) (hsb : c + m - 1 - s0 < b) (hh : s0 ≤ h) (hr : h < r0) (hrm : r0 ≤ m) (hrc : r0 ≤ c)
    (hl : h < l.length) (hq : c + m - 1 - h < l.length) (hc : ¬ P.cmp (l[c + m - 1 - h]'hq).e.1 (l[h]'hl).e.1 < 0) : Bin l c m s0 r0 (h + 1) r := by
  refine ⟨fun q s t q1 q2 q3 q4 => ?_, k.2⟩
  have k1 : l[h]? = some (l[h]'hl) := List.getElem?_eq_getElem hl
  have k2 : l[c + m - 1 - h]? = some (l[c + m - 1 - h]'hq) := List.getElem?_eq_getElem hq
  exact It.le_trans (h1.le (by omega) (by omega) (by omega) q3 k1) (It.le_trans (It.le_of_not hc) (h2.le (by omega) (by omega) (by omega) k2 q4))
theorem Bin.high {l : List It} {a b c m s0 r0 j r h : Nat} (k : Bin l c m s0 r0 j r) (h1 : SortedOn a m l) (h2 : SortedOn m b l) (hs : a ≤ s0) (hsb : c + m - 1 - s0 < b) (hh : s0 ≤ h) (hr : h < r0) (hrm : r0 ≤ m) (hrc : r0 ≤ c)
    (hl : h < l.length) (hq : c + m - 1 - h < l.length) (hc : P.cmp (l[c + m - 1 - h]'hq).e.1 (l[h]'hl).e.1 < 0) : Bin l c m s0 r0 j h := by
  refine ⟨k.1, fun q s t q1 q2 q3 q4 => ?_⟩
  have k1 : l[h]? = some (l[h]'hl) := List.getElem?_eq_getElem hl
  have k2 : l[c + m - 1 - h]? = some (l[c + m - 1 - h]'hq) := List.getElem?_eq_getElem hq
  exact It.lt_of_le (h2.le (by omega) (by omega) (by omega) q4 k2) (It.lt_of_lt_of_le hc (h1.le (by omega) q1 (by omega) k1 q3))
/-- what the search has found serves the turn -/
theorem Bin.done {l l' : List It} {a b c m s0 r0 s : Nat} (k : Bin l c m s0 r0 s s) (h1 : SortedOn a m l) (h2 : SortedOn m b l) (hb : b ≤ l.length) (hmb : m < b) (hc : (m > c ∧ s0 = c + m - b ∧ r0 = c) ∨ (m ≤ c ∧ s0 = a ∧ r0 = m)) (hca : a ≤ c) (hcb : c < b) (hab : a + b ≤ 2 * c + 1) (hab2 : 2 * c ≤ a + b)
    (hs1 : s0 ≤ s) (hs2 : s ≤ r0) (hm : Moved l l' (roIx s m (c + m - s))) : PermOn a b l l' ∧ Split a c b l' ∧ SortedOn a s l' ∧ SortedOn s c l' ∧ SortedOn c (c + m - s) l' ∧ SortedOn (c + m - s) b l' := by
  refine turn_split hm h1 h2 hb hmb (by omega) (by omega) (by omega) (by omega) (fun g1 g2 x y g3 g4 => ?_) (fun g1 g2 x y g3 g4 => ?_)
  · exact k.1 (s - 1) x y (by omega) (by omega) g3 (by rw [show c + m - 1 - (s - 1) = c + m - s by omega]; exact g4)
  · exact It.le_of_lt (k.2 s x y (Nat.le_refl _) (by omega) g3 (by rw [show c + m - 1 - s = c + m - s - 1 by omega]; exact g4))
end
end Go.Proofs.YtonhkglilnplbaaGreatDoor
