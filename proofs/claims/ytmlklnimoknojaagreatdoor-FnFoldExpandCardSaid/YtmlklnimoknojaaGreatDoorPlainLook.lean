/- Plain: an outline looked up in a dictionary and in a stack of layers; what a flattened stack holds; what is shadowed. -/
import Derived.Test.YtmlklnimoknojaaGreatDoorDelA
import Derived.Test.YtmlklnimoknojaaGreatDoorLayB
namespace Go.Proofs.YtmlklnimoknojaaGreatDoor
namespace P
/-- the text of an outline -/
def textAt (o : List Int) : Dic → Bs
  | [] => []
  | e :: l => if e.1 = o then e.2 else textAt o l
def hasE (o : List Int) (l : Dic) : Bool := decide (0 ≤ place o l)
theorem hasE_cons (o : List Int) (e : Ent) (l : Dic) : hasE o (e :: l) = (decide (e.1 = o) || hasE o l) := by
  have := place_lo o l
  unfold hasE
  rw [place]
  by_cases h : e.1 = o
  · simp [h]
  · rw [if_neg h, decide_eq_false h, Bool.false_or]
    split <;> (apply decide_eq_decide.2; omega)
theorem hasE_iff {o : List Int} : ∀ {l : Dic}, hasE o l = true ↔ ∃ x ∈ l, x.1 = o
  | [] => by simp [hasE, place]
  | e :: l => by
    rw [hasE_cons, Bool.or_eq_true, decide_eq_true_eq, hasE_iff]
    simp
theorem textAt_place {o : List Int} : ∀ {l : Dic} {i : Nat} (_ : place o l = i) (hi : i < l.length), (l[i]'hi).2 = textAt o l
  | e :: l, i, h, hi => by
    have h0 := place_lo o l
    unfold place at h
    unfold textAt
    by_cases he : e.1 = o
    · rw [if_pos he] at h ⊢
      obtain rfl : i = 0 := by omega
      rfl
    · rw [if_neg he] at h ⊢
      split at h
      · omega
      · obtain ⟨k, rfl⟩ : ∃ k : Nat, i = k + 1 := ⟨i - 1, by omega⟩
        exact textAt_place (l := l) (i := k) (by omega) (by simpa using hi)
theorem textAt_not {o : List Int} : ∀ {l : Dic}, hasE o l = false → textAt o l = []
  | [], _ => rfl
  | e :: l, h => by
    rw [hasE_cons, Bool.or_eq_false_iff, decide_eq_false_iff_not] at h
    unfold textAt
    rw [if_neg h.1]
    exact textAt_not h.2
theorem textAt_mem {x : Ent} : ∀ {l : Dic}, l.Pairwise lt → x ∈ l → textAt x.1 l = x.2
  | e :: l, hp, hx => by
    rw [List.pairwise_cons] at hp
    unfold textAt
    rcases List.mem_cons.1 hx with rfl | hx
    · rw [if_pos rfl]
    · have := hp.1 x hx
      have hne : ¬ e.1 = x.1 := fun h => by
        unfold lt at this
        rw [h, cmp_refl] at this
        exact absurd this (by decide)
      rw [if_neg hne]
      exact textAt_mem hp.2 hx
theorem mem_textAt {o : List Int} : ∀ {l : Dic}, hasE o l = true → (o, textAt o l) ∈ l
  | [], h => by simp [hasE, place] at h
  | e :: l, h => by
    rw [hasE_cons, Bool.or_eq_true, decide_eq_true_eq] at h
    unfold textAt
    by_cases he : e.1 = o
    · rw [if_pos he, ← he]; simp
    · rw [if_neg he]
      exact List.mem_cons_of_mem _ (mem_textAt (h.resolve_left he))
theorem pairwise_ne {l : Dic} (h : l.Pairwise lt) : l.Pairwise fun a b => a.1 ≠ b.1 := h.imp fun {a b} hab he => by
  unfold lt at hab
  rw [he, cmp_refl] at hab
  exact absurd hab (by decide)
end P
end Go.Proofs.YtmlklnimoknojaaGreatDoor
