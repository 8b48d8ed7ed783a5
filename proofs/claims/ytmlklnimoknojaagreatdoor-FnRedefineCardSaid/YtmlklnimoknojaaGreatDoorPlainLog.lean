/- Plain: splitting, in steps. -/
import Derived.Test.YtmlklnimoknojaaGreatDoorShelf
namespace Go.Proofs.YtmlklnimoknojaaGreatDoor
namespace P
theorem split_cons_ne (c b : UInt8) (l : List UInt8) : split c (b :: l) = if b == c then [] :: split c l else match split c l with
    | [] => [[b]]
    | x :: r => (b :: x) :: r := rfl
theorem split_ne (c : UInt8) (l : List UInt8) : split c l ≠ [] := by
  cases l with
  | nil => simp [split]
  | cons b l =>
    rw [split_cons_ne]
    split
    · simp
    · split <;> simp
theorem split_snoc_hit (c : UInt8) (l : List UInt8) : split c (l ++ [c]) = split c l ++ [[]] := by
  induction l with
  | nil => simp [split]
  | cons b l ih =>
    rw [List.cons_append, split_cons_ne, split_cons_ne, ih]
    by_cases h : (b == c) = true
    · rw [if_pos h, if_pos h]; rfl
    · rw [if_neg h, if_neg h]
      cases hs : split c l with
      | nil => exact absurd hs (split_ne c l)
      | cons x r => rfl
theorem split_snoc_miss (c b : UInt8) (h : (b == c) = false) (l : List UInt8) : ∀ (init : List (List UInt8)) (last : List UInt8), split c l = init ++ [last] → split c (l ++ [b]) = init ++ [last ++ [b]] := by
  induction l with
  | nil =>
    intro init last e
    have e' : [([] : List UInt8)] = init ++ [last] := e
    cases init with
    | nil => simp at e'; subst e'; simp [split, h]
    | cons x r => simp at e'
  | cons a l ih =>
    intro init last e
    rw [split_cons_ne] at e
    rw [List.cons_append, split_cons_ne]
    by_cases ha : (a == c) = true
    · rw [if_pos ha] at e ⊢
      cases init with
      | nil =>
        rw [List.nil_append] at e
        have := split_ne c l
        simp at e; exact absurd e.2 this
      | cons x r =>
        rw [List.cons_append] at e
        injection e with e1 e2
        subst e1
        rw [ih r last e2]; rfl
    · rw [if_neg ha] at e ⊢
      cases hs : split c l with
      | nil => exact absurd hs (split_ne c l)
      | cons x r =>
        rw [hs] at e
        cases init with
        | nil =>
          simp at e
          obtain ⟨e1, e2⟩ := e
          subst e1 e2
          rw [ih [] x (by rw [hs]; rfl)]; rfl
        | cons y r' =>
          simp at e
          obtain ⟨e1, e2⟩ := e
          subst e1
          rw [ih (x :: r') last (by rw [hs, e2]; rfl)]; rfl
theorem piece_snoc (s : List UInt8) (fr k : Nat) (h : k < s.length) (hf : fr ≤ k) : (s.drop fr).take (k + 1 - fr) = (s.drop fr).take (k - fr) ++ [s[k]] := by
  rw [show k + 1 - fr = (k - fr) + 1 by omega, List.take_succ_eq_append_getElem (by simp; omega)]
  congr 2
  rw [List.getElem_drop]; congr 1; omega
theorem split_hit (c : UInt8) (s : List UInt8) (fr k : Nat) (init : List (List UInt8)) (h : k < s.length) (he : (s[k] == c) = true) (e : split c (s.take k) = init ++ [(s.drop fr).take (k - fr)]) :
    split c (s.take (k + 1)) = (init ++ [(s.drop fr).take (k - fr)]) ++ [(s.drop (k + 1)).take (k + 1 - (k + 1))] := by
  have hc : s[k] = c := by simpa using he
  rw [List.take_succ_eq_append_getElem h, hc, split_snoc_hit, e]; simp
theorem split_miss (c : UInt8) (s : List UInt8) (fr k : Nat) (init : List (List UInt8)) (h : k < s.length) (hf : fr ≤ k) (he : (s[k] == c) = false) (e : split c (s.take k) = init ++ [(s.drop fr).take (k - fr)]) :
    split c (s.take (k + 1)) = init ++ [(s.drop fr).take (k + 1 - fr)] := by
  rw [List.take_succ_eq_append_getElem h, split_snoc_miss c _ he _ _ _ e, piece_snoc s fr k h hf]
theorem split_end (c : UInt8) (s : List UInt8) (fr k : Nat) (init : List (List UInt8)) (h : k = s.length) (e : split c (s.take k) = init ++ [(s.drop fr).take (k - fr)]) : split c s = init ++ [s.drop fr] := by
  subst h
  rw [List.take_of_length_le (by omega)] at e
  rw [e, List.take_of_length_le (by simp)]
def head (c : UInt8) (l : List UInt8) : List UInt8 := (split c l).headD []
def readRec (k : Nat) (s : List UInt8) : List UInt8 × List UInt8 × Bool :=
  let ahead := num k ++ [32]
  let text := head 35 s
  if text.length < ahead.length || text.take ahead.length != ahead then ([], [], false) else
  let rest := text.drop ahead.length
  let ask := head 62 rest
  if ask.length = rest.length then ([], [], false) else
  (ask, rest.drop (ask.length + 1), good ask (rest.drop (ask.length + 1)) && (line k ask (rest.drop (ask.length + 1)) == s ++ [10]))
def step (s : List UInt8) (st : List (List UInt8 × List UInt8) × Nat) : Option (List (List UInt8 × List UInt8) × Nat) :=
  if st.2 < s.length ∧ st.1.length < 60 then
    if 2 ≤ (split 10 (s.drop st.2)).length ∧ (readRec st.1.length (head 10 (s.drop st.2))).2.2 = true then
      some (st.1 ++ [((readRec st.1.length (head 10 (s.drop st.2))).1, (readRec st.1.length (head 10 (s.drop st.2))).2.1)], st.2 + (head 10 (s.drop st.2)).length + 1)
    else none
  else none
def run (s : List UInt8) : Nat → List (List UInt8 × List UInt8) × Nat → List (List UInt8 × List UInt8) × Nat
  | 0, st => st
  | n + 1, st => match step s st with
    | none => st
    | some st' => run s n st'
end P
end Go.Proofs.YtmlklnimoknojaaGreatDoor
namespace Go.Proofs.YtmlklnimoknojaaGreatDoor
namespace P
abbrev Bs := List UInt8
theorem first_of_mem (c : UInt8) : ∀ (l : Bs), c ∈ l → ∃ x y, l = x ++ c :: y ∧ ∀ b ∈ x, b ≠ c
  | [], h => by cases h
  | a :: l, h => by
    by_cases ha : a = c
    · exact ⟨[], l, by rw [ha]; rfl, by simp⟩
    · have hm : c ∈ l := by
        rcases List.mem_cons.1 h with h | h
        · exact absurd h.symm ha
        · exact h
      obtain ⟨x, y, e, hx⟩ := first_of_mem c l hm
      exact ⟨a :: x, y, by rw [e]; rfl, by intro b hb; rcases List.mem_cons.1 hb with rfl | hb; exact ha; exact hx b hb⟩
theorem idx_app (c : UInt8) (y : Bs) : ∀ (x : Bs), (∀ b ∈ x, b ≠ c) → Go.Lib.index (x ++ c :: y) [c] = x.length
  | [], _ => by
    show (if List.isPrefixOf [c] (c :: y) then (0 : Int) else _) = _
    rw [if_pos (by simp)]; rfl
  | b :: x, h => by
    have hb : b ≠ c := h b (by simp)
    have ih := idx_app c y x (fun z hz => h z (by simp [hz]))
    show (if List.isPrefixOf [c] (b :: (x ++ c :: y)) then (0 : Int) else if Go.Lib.index (x ++ c :: y) [c] == -1 then -1 else Go.Lib.index (x ++ c :: y) [c] + 1) = _
    rw [if_neg (by simp [Ne.symm hb]), ih, if_neg (by rw [beq_iff_eq]; omega)]
    simp
theorem idx_none (c : UInt8) : ∀ (l : Bs), c ∉ l → Go.Lib.index l [c] = -1
  | [], _ => rfl
  | b :: l, h => by
    have hb : ¬ c = b := fun e => h (by simp [e])
    have ih := idx_none c l (fun hm => h (by simp [hm]))
    show (if List.isPrefixOf [c] (b :: l) then (0 : Int) else if Go.Lib.index l [c] == -1 then -1 else Go.Lib.index l [c] + 1) = _
    rw [if_neg (by simp [hb]), ih]; rfl
theorem split_app (c : UInt8) (y : Bs) : ∀ (x : Bs), (∀ b ∈ x, b ≠ c) → split c (x ++ c :: y) = x :: split c y
  | [], _ => by rw [List.nil_append, split_cons_ne]; simp
  | b :: x, h => by
    have hb : b ≠ c := h b (by simp)
    have ih := split_app c y x (fun z hz => h z (by simp [hz]))
    rw [List.cons_append, split_cons_ne, if_neg (by simp [hb]), ih]
theorem split_none (c : UInt8) : ∀ (l : Bs), c ∉ l → split c l = [l]
  | [], _ => rfl
  | b :: l, h => by
    have hb : ¬ b = c := fun e => h (by simp [e])
    have ih := split_none c l (fun hm => h (by simp [hm]))
    rw [split_cons_ne, if_neg (by simp [hb]), ih]
/-! records -/
end P
end Go.Proofs.YtmlklnimoknojaaGreatDoor
