/- Plain: the search of symMerge for the place where the halves are turned. -/
import Derived.Test.YtonhkglilnplbaaGreatDoorSortF8
namespace Go.Proofs.YtonhkglilnplbaaGreatDoor
/-- of the places [s0, r0): those below j are not behind their mirrored ones (c + m - 1 - q), those from r on are -/
def Bin (l : List It) (c m s0 r0 j r : Nat) : Prop :=
  (∀ q s t, s0 ≤ q → q < j → l[q]? = some s → l[c + m - 1 - q]? = some t → s.le t) ∧ (∀ q s t, r ≤ q → q < r0 → l[q]? = some s → l[c + m - 1 - q]? = some t → P.cmp t.e.1 s.e.1 < 0)
theorem Bin.start (l : List It) (c m s0 r0 : Nat) : Bin l c m s0 r0 s0 r0 :=
  ⟨fun _ _ _ h1 h2 => by omega, fun _ _ _ h1 h2 => by omega⟩
theorem Bin.low {l : List It} {a b c m s0 r0 j r h : Nat} (k : Bin l c m s0 r0 j r) (h1 : SortedOn a m l) (h2 : SortedOn m b l) (hs : a ≤ s0) (hsb : c + m - 1 - s0 < b) (hh : s0 ≤ h) (hr : h < r0) (hrm : r0 ≤ m) (hrc : r0 ≤ c)
    (hl : h < l.length) (hq : c + m - 1 - h < l.length) (hc : ¬ P.cmp (l[c + m - 1 - h]'hq).e.1 (l[h]'hl).e.1 < 0) : Bin l c m s0 r0 (h + 1) r := by
  refine ⟨fun q s t q1 q2 q3 q4 => ?_, k.2⟩
  have k1 : l[h]? = some (l[h]'hl) := List.getElem?_eq_getElem hl
  have k2 : l[c + m - 1 - h]? = some (l[c + m - 1 - h]'hq) := List.getElem?_eq_getElem hq
  exact It.le_trans (h1.le (by omega) (by omega) (by omega) q3 k1) (It.le_trans (It.le_of_not hc) (h2.le (by omega) (by omega) (by omega) k2 q4))
theorem Bin.high {l : List It} {a b c m s0 r0 j r h : Nat} (k : Bin l c m s0 r0 j r) (h1 : SortedOn a m l) (h2 : SortedOn m b l) (hs : a ≤ s0) (hsb : c + m - 1 - s0 < b) (hh : s0 ≤ h) (hr : h < r0) (hrm : r0 ≤ m) (hrc : r0 ≤ c)
    (hl : h < l.length) (hq : c + m - 1 - h < l.length) (hc : P.cmp (l[c + m - 1 - h]'hq).e.1 (l[h]'hl).e.1 < 0) : Bin l c m s0 r0 j h := by
  refine ⟨k.1, fun q s t q1 q2 q3 q4 => ?_⟩
  have k1 : l[h]? = some (l[h]'hl) := List.getElem?_eq_getElem hl
  have k2 : l[c + m - 1 - h]? = some (l[c + m - 1 - h]'hq) := List.getElem?_eq_getElem hq
  exact It.lt_of_le (h2.le (by omega) (by omega) (by omega) q4 k2) (It.lt_of_lt_of_le hc (h1.le (by omega) q1 (by omega) k1 q3))
/-- what the search has found serves the turn -/
theorem Bin.done {l l' : List It} {a b c m s0 r0 s : Nat} (k : Bin l c m s0 r0 s s) (h1 : SortedOn a m l) (h2 : SortedOn m b l) (hb : b ≤ l.length) (hmb : m < b) (hc : (m > c ∧ s0 = c + m - b ∧ r0 = c) ∨ (m ≤ c ∧ s0 = a ∧ r0 = m)) (hca : a ≤ c) (hcb : c < b) (hab : a + b ≤ 2 * c + 1) (hab2 : 2 * c ≤ a + b)
    (hs1 : s0 ≤ s) (hs2 : s ≤ r0) (hm : Moved l l' (roIx s m (c + m - s))) : PermOn a b l l' ∧ Split a c b l' ∧ SortedOn a s l' ∧ SortedOn s c l' ∧ SortedOn c (c + m - s) l' ∧ SortedOn (c + m - s) b l' := by
  refine turn_split hm h1 h2 hb hmb (by omega) (by omega) (by omega) (by omega) (fun g1 g2 x y g3 g4 => ?_) (fun g1 g2 x y g3 g4 => ?_)
  · exact k.1 (s - 1) x y (by omega) (by omega) g3 (by rw [show c + m - 1 - (s - 1) = c + m - s by omega]; exact g4)
  · exact It.le_of_lt (k.2 s x y (Nat.le_refl _) (by omega) g3 (by rw [show c + m - 1 - s = c + m - s - 1 by omega]; exact g4))
end Go.Proofs.YtonhkglilnplbaaGreatDoor
