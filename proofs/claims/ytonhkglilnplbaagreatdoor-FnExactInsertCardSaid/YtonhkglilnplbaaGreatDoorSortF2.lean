/- Plain: orders and permutations of a part of a row of items; the step of an insertion. -/
import Derived.Test.YtonhkglilnplbaaGreatDoorSortF1
namespace Go.Proofs.YtonhkglilnplbaaGreatDoor
/-- not behind -/
def It.le (s t : It) : Prop := P.cmp s.e.1 t.e.1 ≤ 0
theorem It.le_refl (s : It) : s.le s := by unfold It.le; rw [P.cmp_refl]; decide
theorem It.le_of_not {s t : It} (h : ¬ P.cmp s.e.1 t.e.1 < 0) : t.le s := by unfold It.le; have := P.cmp_neg s.e.1 t.e.1; omega
theorem It.le_of_lt {s t : It} (h : P.cmp s.e.1 t.e.1 < 0) : s.le t := by unfold It.le; omega
theorem It.le_trans {s t u : It} (h : s.le t) (k : t.le u) : s.le u := by
  unfold It.le at *
  by_cases h1 : P.cmp s.e.1 t.e.1 = 0
  · rw [P.cmp_eq _ _ h1]; exact k
  · by_cases h2 : P.cmp t.e.1 u.e.1 = 0
    · rw [← P.cmp_eq _ _ h2]; exact h
    · have := P.cmp_trans s.e.1 t.e.1 u.e.1 (by omega) (by omega); omega
/-- the part [a, b) of a row has been put in another order -/
structure PermOn (a b : Nat) (l l' : List It) : Prop where
  perm : l'.Perm l
  same : ∀ j, j < a ∨ b ≤ j → l'[j]? = l[j]?
  from_ : ∀ j x, a ≤ j → j < b → l'[j]? = some x → ∃ i, a ≤ i ∧ i < b ∧ l[i]? = some x
def SortedOn (a b : Nat) (l : List It) : Prop := ∀ i j x y, a ≤ i → i < j → j < b → l[i]? = some x → l[j]? = some y → x.le y
theorem PermOn.refl (a b : Nat) (l : List It) : PermOn a b l l := ⟨List.Perm.refl _, fun _ _ => rfl, fun j _ h1 h2 h3 => ⟨j, h1, h2, h3⟩⟩
theorem PermOn.trans {a b : Nat} {l m n : List It} (h : PermOn a b l m) (k : PermOn a b m n) : PermOn a b l n :=
  ⟨k.perm.trans h.perm, fun j hj => (k.same j hj).trans (h.same j hj), fun j x h1 h2 h3 => by
    obtain ⟨i, i1, i2, i3⟩ := k.from_ j x h1 h2 h3
    exact h.from_ i x i1 i2 i3⟩
theorem PermOn.mono {a b a' b' : Nat} {l m : List It} (h : PermOn a b l m) (ha : a' ≤ a) (hb : b ≤ b') : PermOn a' b' l m :=
  ⟨h.perm, fun j hj => h.same j (by omega), fun j x h1 h2 h3 => by
    by_cases hj : a ≤ j ∧ j < b
    · obtain ⟨i, i1, i2, i3⟩ := h.from_ j x hj.1 hj.2 h3
      exact ⟨i, by omega, by omega, i3⟩
    · exact ⟨j, h1, h2, by rw [← h.same j (by omega)]; exact h3⟩⟩
theorem PermOn.len {a b : Nat} {l m : List It} (h : PermOn a b l m) : m.length = l.length := h.perm.length_eq
theorem SortedOn.same {a b c d : Nat} {l m : List It} (h : SortedOn a b l) (k : PermOn c d l m) (ho : b ≤ c ∨ d ≤ a) : SortedOn a b m := by
  intro i j x y h1 h2 h3 h4 h5
  rw [k.same i (by omega)] at h4
  rw [k.same j (by omega)] at h5
  exact h i j x y h1 h2 h3 h4 h5
theorem swapI_get (l : List It) (i j : Nat) (hi : i < l.length) (hj : j < l.length) (k : Nat) : (swapI l i j hi hj)[k]? = if k = j then some l[i] else if k = i then some l[j] else l[k]? := by
  unfold swapI
  rw [List.getElem?_set]
  by_cases h1 : k = j
  · subst h1
    rw [if_pos rfl, if_pos (by rw [List.length_set]; exact hj), if_pos rfl]
  · rw [if_neg (Ne.symm h1), if_neg h1, List.getElem?_set]
    by_cases h2 : k = i
    · subst h2
      rw [if_pos rfl, if_pos hi, if_pos rfl]
    · rw [if_neg (Ne.symm h2), if_neg h2]
theorem PermOn.swap (l : List It) (i j : Nat) (hi : i < l.length) (hj : j < l.length) {a b : Nat} (h1 : a ≤ i ∧ i < b) (h2 : a ≤ j ∧ j < b) : PermOn a b l (swapI l i j hi hj) := by
  refine ⟨List.set_set_perm hi hj, fun k hk => ?_, fun k x k1 k2 hx => ?_⟩
  · rw [swapI_get, if_neg (by omega), if_neg (by omega)]
  · rw [swapI_get] at hx
    split at hx
    · exact ⟨i, h1.1, h1.2, by rw [List.getElem?_eq_getElem hi]; exact hx⟩
    · split at hx
      · exact ⟨j, h2.1, h2.2, by rw [List.getElem?_eq_getElem hj]; exact hx⟩
      · exact ⟨k, k1, k2, hx⟩
/-- all in order up to j, but for the item k, which is not behind those after it -/
def HoleAt (a k j : Nat) (l : List It) : Prop :=
  (∀ p q x y, a ≤ p → p < q → q ≤ j → p ≠ k → q ≠ k → l[p]? = some x → l[q]? = some y → x.le y) ∧ (∀ q x y, k < q → q ≤ j → l[k]? = some x → l[q]? = some y → x.le y)
theorem HoleAt.start {a j : Nat} {l : List It} (h : SortedOn a j l) : HoleAt a j j l :=
  ⟨fun p q x y h1 h2 h3 _ h5 h6 h7 => h p q x y h1 h2 (by omega) h6 h7, fun q x y h1 h2 => by omega⟩
theorem HoleAt.step {a k j : Nat} {l : List It} (h : HoleAt a k j l) (hak : a < k) (hkj : k ≤ j) (hk : k < l.length) (hc : P.cmp l[k].e.1 (l[k - 1]'(by omega)).e.1 < 0) : HoleAt a (k - 1) j (swapI l k (k - 1) hk (by omega)) := by
  have ek : l[k]? = some l[k] := List.getElem?_eq_getElem hk
  have ek1 : l[k - 1]? = some (l[k - 1]'(by omega)) := List.getElem?_eq_getElem (by omega)
  refine ⟨fun p q x y h1 h2 h3 h4 h5 h6 h7 => ?_, fun q x y h1 h2 h3 h4 => ?_⟩
  · rw [swapI_get, if_neg h4] at h6
    rw [swapI_get, if_neg h5] at h7
    by_cases hp : p = k
    · rw [if_pos hp] at h6
      rw [if_neg (by omega)] at h7
      injection h6 with h6; subst h6
      exact h.1 (k - 1) q _ y (by omega) (by omega) h3 (by omega) (by omega) ek1 h7
    · rw [if_neg hp] at h6
      by_cases hq : q = k
      · rw [if_pos hq] at h7
        injection h7 with h7; subst h7
        exact h.1 p (k - 1) x _ h1 (by omega) (by omega) hp (by omega) h6 ek1
      · rw [if_neg hq] at h7
        exact h.1 p q x y h1 h2 h3 hp hq h6 h7
  · rw [swapI_get, if_pos rfl] at h3
    injection h3 with h3; subst h3
    rw [swapI_get, if_neg (by omega)] at h4
    by_cases hq : q = k
    · rw [if_pos hq] at h4
      injection h4 with h4; subst h4
      exact It.le_of_lt hc
    · rw [if_neg hq] at h4
      exact h.2 q _ y (by omega) h2 ek h4
theorem HoleAt.done0 {a j : Nat} {l : List It} (h : HoleAt a a j l) : SortedOn a (j + 1) l := by
  intro p q x y h1 h2 h3 h4 h5
  by_cases hp : p = a
  · subst hp; exact h.2 q x y h2 (by omega) h4 h5
  · exact h.1 p q x y h1 h2 (by omega) hp (by omega) h4 h5
theorem HoleAt.done1 {a k j : Nat} {l : List It} (h : HoleAt a k j l) (hak : a < k) (hkj : k ≤ j) (hk : k < l.length) (hc : ¬ P.cmp l[k].e.1 (l[k - 1]'(by omega)).e.1 < 0) : SortedOn a (j + 1) l := by
  have ek : l[k]? = some l[k] := List.getElem?_eq_getElem hk
  have ek1 : l[k - 1]? = some (l[k - 1]'(by omega)) := List.getElem?_eq_getElem (by omega)
  have hle : (l[k - 1]'(by omega)).le l[k] := It.le_of_not hc
  intro p q x y h1 h2 h3 h4 h5
  by_cases hp : p = k
  · subst hp; exact h.2 q x y h2 (by omega) h4 h5
  · by_cases hq : q = k
    · subst hq
      rw [ek] at h5
      injection h5 with h5; subst h5
      by_cases hpk : p = q - 1
      · subst hpk
        rw [ek1] at h4
        injection h4 with h4; subst h4
        exact hle
      · exact It.le_trans (h.1 p (q - 1) x _ h1 (by omega) (by omega) hp (by omega) h4 ek1) hle
    · exact h.1 p q x y h1 h2 (by omega) hp hq h4 h5
end Go.Proofs.YtonhkglilnplbaaGreatDoor
