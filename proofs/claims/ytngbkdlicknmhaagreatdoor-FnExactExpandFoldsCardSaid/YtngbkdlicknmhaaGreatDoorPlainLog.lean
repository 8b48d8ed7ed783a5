/- Plain: the program and the reference read the same logs. -/
import Derived.Test.YtngbkdlicknmhaaGreatDoorPlainSplit
namespace Go.Proofs.YtngbkdlicknmhaaGreatDoor
namespace P
abbrev Bs := List UInt8
theorem first_of_mem (c : UInt8) : ∀ (l : Bs), c ∈ l → ∃ x y, l = x ++ c :: y ∧ ∀ b ∈ x, b ≠ c
  | [], h => by cases h
  | a :: l, h => by
    by_cases ha : a = c
    · exact ⟨[], l, by rw [ha]; rfl, by simp⟩
    · have hm : c ∈ l := by
        rcases List.mem_cons.1 h with h | h
        · exact absurd h.symm ha
        · exact h
      obtain ⟨x, y, e, hx⟩ := first_of_mem c l hm
      exact ⟨a :: x, y, by rw [e]; rfl, by intro b hb; rcases List.mem_cons.1 hb with rfl | hb; exact ha; exact hx b hb⟩
theorem idx_app (c : UInt8) (y : Bs) : ∀ (x : Bs), (∀ b ∈ x, b ≠ c) → Go.Lib.index (x ++ c :: y) [c] = x.length
  | [], _ => by
    show (if List.isPrefixOf [c] (c :: y) then (0 : Int) else _) = _
    rw [if_pos (by simp)]; rfl
  | b :: x, h => by
    have hb : b ≠ c := h b (by simp)
    have ih := idx_app c y x (fun z hz => h z (by simp [hz]))
    show (if List.isPrefixOf [c] (b :: (x ++ c :: y)) then (0 : Int) else if Go.Lib.index (x ++ c :: y) [c] == -1 then -1 else Go.Lib.index (x ++ c :: y) [c] + 1) = _
    rw [if_neg (by simp [Ne.symm hb]), ih, if_neg (by rw [beq_iff_eq]; omega)]
    simp
theorem idx_none (c : UInt8) : ∀ (l : Bs), c ∉ l → Go.Lib.index l [c] = -1
  | [], _ => rfl
  | b :: l, h => by
    have hb : ¬ c = b := fun e => h (by simp [e])
    have ih := idx_none c l (fun hm => h (by simp [hm]))
    show (if List.isPrefixOf [c] (b :: l) then (0 : Int) else if Go.Lib.index l [c] == -1 then -1 else Go.Lib.index l [c] + 1) = _
    rw [if_neg (by simp [hb]), ih]; rfl
theorem split_app (c : UInt8) (y : Bs) : ∀ (x : Bs), (∀ b ∈ x, b ≠ c) → split c (x ++ c :: y) = x :: split c y
  | [], _ => by rw [List.nil_append, split_cons_ne]; simp
  | b :: x, h => by
    have hb : b ≠ c := h b (by simp)
    have ih := split_app c y x (fun z hz => h z (by simp [hz]))
    rw [List.cons_append, split_cons_ne, if_neg (by simp [hb]), ih]
theorem split_none (c : UInt8) : ∀ (l : Bs), c ∉ l → split c l = [l]
  | [], _ => rfl
  | b :: l, h => by
    have hb : ¬ b = c := fun e => h (by simp [e])
    have ih := split_none c l (fun hm => h (by simp [hm]))
    rw [split_cons_ne, if_neg (by simp [hb]), ih]
/-! records -/
end P
end Go.Proofs.YtngbkdlicknmhaaGreatDoor
