/- Plain: what symMerge does: an item carried up or down; the two halves. -/
import Derived.Test.YtonhkglilnplbaaGreatDoorSortF5
namespace Go.Proofs.YtonhkglilnplbaaGreatDoor
theorem Moved.permOn {l l' : List It} {f : Nat → Nat} {a b : Nat} (h : Moved l l' f) (hf : ∀ k, a ≤ k → k < b → a ≤ f k ∧ f k < b) (hs : ∀ k, k < a ∨ b ≤ k → f k = k) : PermOn a b l l' :=
  ⟨h.perm, fun k hk => by rw [h.get, hs k hk], fun k x h1 h2 h3 => ⟨f k, (hf k h1 h2).1, (hf k h1 h2).2, by rw [← h.get]; exact h3⟩⟩
def It.lt (s t : It) : Prop := P.cmp s.e.1 t.e.1 < 0
/-- the item of place a has been carried up to place k -/
def upIx (a k q : Nat) : Nat := if a ≤ q ∧ q < k then q + 1 else if q = k then a else q
theorem upIx_zero (a q : Nat) : upIx a a q = q := by
  unfold upIx
  repeat' split
  all_goals omega
theorem upIx_step {a k : Nat} (h : a ≤ k) (q : Nat) : upIx a k (trIx k (k + 1) q) = upIx a (k + 1) q := by
  unfold upIx trIx
  repeat' split
  all_goals omega
/-- the item of place m has been carried down to place k -/
def dnIx (m k q : Nat) : Nat := if q = k then m else if k < q ∧ q ≤ m then q - 1 else q
theorem dnIx_zero (m q : Nat) : dnIx m m q = q := by
  unfold dnIx
  repeat' split
  all_goals omega
theorem dnIx_step {m k : Nat} (h : k ≤ m) (hk : 0 < k) (q : Nat) : dnIx m k (trIx k (k - 1) q) = dnIx m (k - 1) q := by
  unfold dnIx trIx
  repeat' split
  all_goals omega
/-- one item before a row in order, carried to its place i - 1 -/
theorem up_sorted {l l' : List It} {a b i : Nat} (h : Moved l l' (upIx a (i - 1))) (hs : SortedOn (a + 1) b l) (hi : a + 1 ≤ i) (hib : i ≤ b)
    (lo : ∀ q x y, a + 1 ≤ q → q < i → l[q]? = some x → l[a]? = some y → x.le y) (hi' : ∀ q x y, i ≤ q → q < b → l[q]? = some x → l[a]? = some y → y.le x) : PermOn a b l l' ∧ SortedOn a b l' := by
  refine ⟨h.permOn (fun k h1 h2 => ?_) (fun k hk => ?_), fun p q x y h1 h2 h3 h4 h5 => ?_⟩
  · unfold upIx; repeat' split
    all_goals omega
  · unfold upIx; repeat' split
    all_goals omega
  · rw [h.get] at h4 h5
    by_cases hp : p < i - 1
    · rw [show upIx a (i - 1) p = p + 1 by unfold upIx; rw [if_pos ⟨h1, hp⟩]] at h4
      by_cases hq : q < i - 1
      · rw [show upIx a (i - 1) q = q + 1 by unfold upIx; rw [if_pos ⟨by omega, hq⟩]] at h5
        exact hs (p + 1) (q + 1) x y (by omega) (by omega) (by omega) h4 h5
      · by_cases hq2 : q = i - 1
        · rw [show upIx a (i - 1) q = a by unfold upIx; rw [if_neg (by omega), if_pos hq2]] at h5
          exact lo (p + 1) x y (by omega) (by omega) h4 h5
        · rw [show upIx a (i - 1) q = q by unfold upIx; rw [if_neg (by omega), if_neg hq2]] at h5
          exact hs (p + 1) q x y (by omega) (by omega) h3 h4 h5
    · rw [show upIx a (i - 1) q = q by unfold upIx; rw [if_neg (by omega), if_neg (by omega)]] at h5
      by_cases hp2 : p = i - 1
      · rw [show upIx a (i - 1) p = a by unfold upIx; rw [if_neg (by omega), if_pos hp2]] at h4
        exact hi' q y x (by omega) h3 h5 h4
      · rw [show upIx a (i - 1) p = p by unfold upIx; rw [if_neg (by omega), if_neg hp2]] at h4
        exact hs p q x y (by omega) h2 h3 h4 h5
/-- one item behind a row in order, carried to its place i -/
theorem dn_sorted {l l' : List It} {a m i : Nat} (h : Moved l l' (dnIx m i)) (hs : SortedOn a m l) (hi : a ≤ i) (him : i ≤ m)
    (lo : ∀ q x y, a ≤ q → q < i → l[q]? = some x → l[m]? = some y → x.le y) (hi' : ∀ q x y, i ≤ q → q < m → l[q]? = some x → l[m]? = some y → y.le x) : PermOn a (m + 1) l l' ∧ SortedOn a (m + 1) l' := by
  refine ⟨h.permOn (fun k h1 h2 => ?_) (fun k hk => ?_), fun p q x y h1 h2 h3 h4 h5 => ?_⟩
  · unfold dnIx; repeat' split
    all_goals omega
  · unfold dnIx; repeat' split
    all_goals omega
  · rw [h.get] at h4 h5
    by_cases hp : p < i
    · rw [show dnIx m i p = p by unfold dnIx; rw [if_neg (by omega), if_neg (by omega)]] at h4
      by_cases hq : q < i
      · rw [show dnIx m i q = q by unfold dnIx; rw [if_neg (by omega), if_neg (by omega)]] at h5
        exact hs p q x y h1 h2 (by omega) h4 h5
      · by_cases hq2 : q = i
        · rw [show dnIx m i q = m by unfold dnIx; rw [if_pos hq2]] at h5
          exact lo p x y h1 hp h4 h5
        · rw [show dnIx m i q = q - 1 by unfold dnIx; rw [if_neg hq2, if_pos (by omega)]] at h5
          exact hs p (q - 1) x y h1 (by omega) (by omega) h4 h5
    · rw [show dnIx m i q = q - 1 by unfold dnIx; rw [if_neg (by omega), if_pos (by omega)]] at h5
      by_cases hp2 : p = i
      · rw [show dnIx m i p = m by unfold dnIx; rw [if_pos hp2]] at h4
        exact hi' (q - 1) y x (by omega) (by omega) h5 h4
      · rw [show dnIx m i p = p - 1 by unfold dnIx; rw [if_neg hp2, if_pos (by omega)]] at h4
        exact hs (p - 1) (q - 1) x y (by omega) (by omega) (by omega) h4 h5
/-- no item of the left part is behind an item of the right part -/
def Split (a c b : Nat) (l : List It) : Prop := ∀ p q x y, a ≤ p → p < c → c ≤ q → q < b → l[p]? = some x → l[q]? = some y → x.le y
theorem Split.left {a c b : Nat} {l m : List It} (h : Split a c b l) (k : PermOn a c l m) : Split a c b m := by
  intro p q x y h1 h2 h3 h4 h5 h6
  obtain ⟨i, i1, i2, i3⟩ := k.from_ p x h1 h2 h5
  rw [k.same q (by omega)] at h6
  exact h i q x y i1 i2 h3 h4 i3 h6
theorem Split.right {a c b : Nat} {l m : List It} (h : Split a c b l) (k : PermOn c b l m) : Split a c b m := by
  intro p q x y h1 h2 h3 h4 h5 h6
  obtain ⟨i, i1, i2, i3⟩ := k.from_ q y h3 h4 h6
  rw [k.same p (by omega)] at h5
  exact h p i x y h1 h2 i1 i2 h5 i3
theorem Split.sorted {a c b : Nat} {l : List It} (h : Split a c b l) (h1 : SortedOn a c l) (h2 : SortedOn c b l) : SortedOn a b l := by
  intro p q x y p1 p2 p3 p4 p5
  by_cases hq : q < c
  · exact h1 p q x y p1 p2 hq p4 p5
  · by_cases hp : p < c
    · exact h p q x y p1 hp (by omega) p3 p4 p5
    · exact h2 p q x y (by omega) p2 p3 p4 p5
/-- the turn of symMerge: the two halves, and what is in order in each -/
theorem turn_split {l l' : List It} {a m b c s : Nat} (h : Moved l l' (roIx s m (c + m - s))) (h1 : SortedOn a m l) (h2 : SortedOn m b l) (hb : b ≤ l.length) (hmb : m < b) (hs1 : a ≤ s) (hs2 : s ≤ m) (hs3 : s ≤ c) (hsb : c + m - s ≤ b)
    (lo : a < s → c + m - s < b → ∀ x y, l[s - 1]? = some x → l[c + m - s]? = some y → x.le y) (hi : s < c → s < m → ∀ x y, l[s]? = some x → l[c + m - s - 1]? = some y → y.le x) :
    PermOn a b l l' ∧ Split a c b l' ∧ SortedOn a s l' ∧ SortedOn s c l' ∧ SortedOn c (c + m - s) l' ∧ SortedOn (c + m - s) b l' := by
  have e1 : ∀ k, k < s → roIx s m (c + m - s) k = k := fun k hk => by unfold roIx; rw [if_pos (.inl hk)]
  have e2 : ∀ k, s ≤ k → k < c → roIx s m (c + m - s) k = k + (m - s) := fun k h1 h2 => by unfold roIx; rw [if_neg (by omega), if_pos (by omega)]
  have e3 : ∀ k, c ≤ k → k < c + m - s → roIx s m (c + m - s) k = k - (c - s) := fun k h1 h2 => by unfold roIx; rw [if_neg (by omega), if_neg (by omega)]; omega
  have e4 : ∀ k, c + m - s ≤ k → roIx s m (c + m - s) k = k := fun k hk => by unfold roIx; rw [if_pos (.inr hk)]
  refine ⟨h.permOn (fun k k1 k2 => ?_) (fun k hk => ?_), fun p q x y p1 p2 p3 p4 p5 p6 => ?_, fun p q x y p1 p2 p3 p4 p5 => ?_, fun p q x y p1 p2 p3 p4 p5 => ?_, fun p q x y p1 p2 p3 p4 p5 => ?_, fun p q x y p1 p2 p3 p4 p5 => ?_⟩
  · by_cases g1 : k < s
    · rw [e1 k g1]; omega
    · by_cases g2 : k < c
      · rw [e2 k (by omega) g2]; omega
      · by_cases g3 : k < c + m - s
        · rw [e3 k (by omega) g3]; omega
        · rw [e4 k (by omega)]; omega
  · rcases hk with hk | hk
    · exact e1 k (by omega)
    · exact e4 k (by omega)
  · rw [h.get] at p5 p6
    have le1 : ∀ i j x y, a ≤ i → i ≤ j → j < m → l[i]? = some x → l[j]? = some y → x.le y := fun i j x y g1 g2 g3 g4 g5 => by
      by_cases e : i = j
      · subst e; rw [g4] at g5; injection g5 with g5; subst g5; exact It.le_refl _
      · exact h1 i j x y g1 (by omega) g3 g4 g5
    have le2 : ∀ i j x y, m ≤ i → i ≤ j → j < b → l[i]? = some x → l[j]? = some y → x.le y := fun i j x y g1 g2 g3 g4 g5 => by
      by_cases e : i = j
      · subst e; rw [g4] at g5; injection g5 with g5; subst g5; exact It.le_refl _
      · exact h2 i j x y g1 (by omega) g3 g4 g5
    by_cases gp : p < s
    · rw [e1 p gp] at p5
      by_cases gq : q < c + m - s
      · rw [e3 q p3 gq] at p6
        exact h1 p _ x y p1 (by omega) (by omega) p5 p6
      · rw [e4 q (by omega)] at p6
        have k1 : l[s - 1]? = some (l[s - 1]'(by omega)) := List.getElem?_eq_getElem _
        have k2 : l[c + m - s]? = some (l[c + m - s]'(by omega)) := List.getElem?_eq_getElem _
        exact It.le_trans (le1 p (s - 1) x _ p1 (by omega) (by omega) p5 k1) (It.le_trans (lo (by omega) (by omega) _ _ k1 k2) (le2 (c + m - s) q _ y (by omega) (by omega) p4 k2 p6))
    · rw [e2 p (by omega) p2] at p5
      by_cases gq : q < c + m - s
      · rw [e3 q p3 gq] at p6
        have k1 : l[s]? = some (l[s]'(by omega)) := List.getElem?_eq_getElem _
        have k2 : l[c + m - s - 1]? = some (l[c + m - s - 1]'(by omega)) := List.getElem?_eq_getElem _
        exact It.le_trans (le2 _ (c + m - s - 1) x _ (by omega) (by omega) (by omega) p5 k2) (It.le_trans (hi (by omega) (by omega) _ _ k1 k2) (le1 s _ _ y (by omega) (by omega) (by omega) k1 p6))
      · rw [e4 q (by omega)] at p6
        exact h2 _ q x y (by omega) (by omega) p4 p5 p6
  · rw [h.get, e1 p (by omega)] at p4
    rw [h.get, e1 q p3] at p5
    exact h1 p q x y p1 p2 (by omega) p4 p5
  · rw [h.get, e2 p p1 (by omega)] at p4
    rw [h.get, e2 q (by omega) p3] at p5
    exact h2 _ _ x y (by omega) (by omega) (by omega) p4 p5
  · rw [h.get, e3 p p1 (by omega)] at p4
    rw [h.get, e3 q (by omega) p3] at p5
    exact h1 _ _ x y (by omega) (by omega) (by omega) p4 p5
  · rw [h.get, e4 p p1] at p4
    rw [h.get, e4 q (by omega)] at p5
    exact h2 p q x y (by omega) p2 p3 p4 p5
end Go.Proofs.YtonhkglilnplbaaGreatDoor
