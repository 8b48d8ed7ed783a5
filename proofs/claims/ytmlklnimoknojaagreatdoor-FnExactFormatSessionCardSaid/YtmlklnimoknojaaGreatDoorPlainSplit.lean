/- Plain: splitting, in steps. -/
import Derived.Test.YtmlklnimoknojaaGreatDoorPlainStr
namespace Go.Proofs.YtmlklnimoknojaaGreatDoor
namespace P
theorem split_cons_ne (c b : UInt8) (l : List UInt8) : split c (b :: l) = if b == c then [] :: split c l else match split c l with
    | [] => [[b]]
    | x :: r => (b :: x) :: r := rfl
theorem split_ne (c : UInt8) (l : List UInt8) : split c l ≠ [] := by
  cases l with
  | nil => simp [split]
  | cons b l =>
    rw [split_cons_ne]
    split
    · simp
    · split <;> simp
theorem split_snoc_hit (c : UInt8) (l : List UInt8) : split c (l ++ [c]) = split c l ++ [[]] := by
  induction l with
  | nil => simp [split]
  | cons b l ih =>
    rw [List.cons_append, split_cons_ne, split_cons_ne, ih]
    by_cases h : (b == c) = true
    · rw [if_pos h, if_pos h]; rfl
    · rw [if_neg h, if_neg h]
      cases hs : split c l with
      | nil => exact absurd hs (split_ne c l)
      | cons x r => rfl
theorem split_snoc_miss (c b : UInt8) (h : (b == c) = false) (l : List UInt8) : ∀ (init : List (List UInt8)) (last : List UInt8), split c l = init ++ [last] → split c (l ++ [b]) = init ++ [last ++ [b]] := by
  induction l with
  | nil =>
    intro init last e
    have e' : [([] : List UInt8)] = init ++ [last] := e
    cases init with
    | nil => simp at e'; subst e'; simp [split, h]
    | cons x r => simp at e'
  | cons a l ih =>
    intro init last e
    rw [split_cons_ne] at e
    rw [List.cons_append, split_cons_ne]
    by_cases ha : (a == c) = true
    · rw [if_pos ha] at e ⊢
      cases init with
      | nil =>
        rw [List.nil_append] at e
        have := split_ne c l
        simp at e; exact absurd e.2 this
      | cons x r =>
        rw [List.cons_append] at e
        injection e with e1 e2
        subst e1
        rw [ih r last e2]; rfl
    · rw [if_neg ha] at e ⊢
      cases hs : split c l with
      | nil => exact absurd hs (split_ne c l)
      | cons x r =>
        rw [hs] at e
        cases init with
        | nil =>
          simp at e
          obtain ⟨e1, e2⟩ := e
          subst e1 e2
          rw [ih [] x (by rw [hs]; rfl)]; rfl
        | cons y r' =>
          simp at e
          obtain ⟨e1, e2⟩ := e
          subst e1
          rw [ih (x :: r') last (by rw [hs, e2]; rfl)]; rfl
theorem piece_snoc (s : List UInt8) (fr k : Nat) (h : k < s.length) (hf : fr ≤ k) : (s.drop fr).take (k + 1 - fr) = (s.drop fr).take (k - fr) ++ [s[k]] := by
  rw [show k + 1 - fr = (k - fr) + 1 by omega, List.take_succ_eq_append_getElem (by simp; omega)]
  congr 2
  rw [List.getElem_drop]; congr 1; omega
theorem split_hit (c : UInt8) (s : List UInt8) (fr k : Nat) (init : List (List UInt8)) (h : k < s.length) (he : (s[k] == c) = true) (e : split c (s.take k) = init ++ [(s.drop fr).take (k - fr)]) :
    split c (s.take (k + 1)) = (init ++ [(s.drop fr).take (k - fr)]) ++ [(s.drop (k + 1)).take (k + 1 - (k + 1))] := by
  have hc : s[k] = c := by simpa using he
  rw [List.take_succ_eq_append_getElem h, hc, split_snoc_hit, e]; simp
theorem split_miss (c : UInt8) (s : List UInt8) (fr k : Nat) (init : List (List UInt8)) (h : k < s.length) (hf : fr ≤ k) (he : (s[k] == c) = false) (e : split c (s.take k) = init ++ [(s.drop fr).take (k - fr)]) :
    split c (s.take (k + 1)) = init ++ [(s.drop fr).take (k + 1 - fr)] := by
  rw [List.take_succ_eq_append_getElem h, split_snoc_miss c _ he _ _ _ e, piece_snoc s fr k h hf]
theorem split_end (c : UInt8) (s : List UInt8) (fr k : Nat) (init : List (List UInt8)) (h : k = s.length) (e : split c (s.take k) = init ++ [(s.drop fr).take (k - fr)]) : split c s = init ++ [s.drop fr] := by
  subst h
  rw [List.take_of_length_le (by omega)] at e
  rw [e, List.take_of_length_le (by simp)]
theorem split_parts (c : UInt8) (l : List UInt8) : (split c l).length ≤ l.length + 1 ∧ ∀ x ∈ split c l, x.length ≤ l.length := by
  induction l with
  | nil => simp [split]
  | cons b l ih =>
    rw [split_cons_ne]
    split
    · refine ⟨by simp; omega, ?_⟩
      intro x hx
      simp at hx
      rcases hx with rfl | hx
      · simp
      · have := ih.2 x hx; simp; omega
    · cases hs : split c l with
      | nil => exact absurd hs (split_ne c l)
      | cons x r =>
        rw [hs] at ih
        refine ⟨by have := ih.1; simp at this ⊢; omega, ?_⟩
        intro y hy
        simp at hy
        rcases hy with rfl | hy
        · have := ih.2 x (by simp); simp; omega
        · have := ih.2 y (by simp [hy]); simp; omega
/-- the first part -/
def head (c : UInt8) (l : List UInt8) : List UInt8 := (split c l).headD []
theorem head_len (c : UInt8) (l : List UInt8) : (head c l).length ≤ l.length := by
  have h := (split_parts c l).2
  unfold head
  cases hs : split c l with
  | nil => simp
  | cons x r => exact h x (by simp [hs])
/-- a line without its end, read as the record with number k -/
def readRec (k : Nat) (s : List UInt8) : List UInt8 × List UInt8 × Bool :=
  let ahead := num k ++ [32]
  let text := head 35 s
  if text.length < ahead.length || text.take ahead.length != ahead then ([], [], false) else
  let rest := text.drop ahead.length
  let ask := head 62 rest
  if ask.length = rest.length then ([], [], false) else
  (ask, rest.drop (ask.length + 1), good ask (rest.drop (ask.length + 1)) && (line k ask (rest.drop (ask.length + 1)) == s ++ [10]))
theorem head_lt (c : UInt8) (l : List UInt8) (h : 2 ≤ (split c l).length) : (head c l).length + 1 ≤ l.length := by
  unfold head
  induction l with
  | nil => simp [split] at h
  | cons b l ih =>
    rw [split_cons_ne] at h ⊢
    by_cases hb : (b == c) = true
    · rw [if_pos hb]; simp
    · rw [if_neg hb] at h ⊢
      cases hs : split c l with
      | nil => exact absurd hs (split_ne c l)
      | cons x r =>
        rw [hs] at h ih
        simp only [List.length_cons, List.headD_cons] at h ih ⊢
        have := ih (by omega)
        omega
/-- one more record at the beginning of a log, if there is one -/
def step (s : List UInt8) (st : List (List UInt8 × List UInt8) × Nat) : Option (List (List UInt8 × List UInt8) × Nat) :=
  if st.2 < s.length ∧ st.1.length < 60 then
    if 2 ≤ (split 10 (s.drop st.2)).length ∧ (readRec st.1.length (head 10 (s.drop st.2))).2.2 = true then
      some (st.1 ++ [((readRec st.1.length (head 10 (s.drop st.2))).1, (readRec st.1.length (head 10 (s.drop st.2))).2.1)], st.2 + (head 10 (s.drop st.2)).length + 1)
    else none
  else none
def run (s : List UInt8) : Nat → List (List UInt8 × List UInt8) × Nat → List (List UInt8 × List UInt8) × Nat
  | 0, st => st
  | n + 1, st => match step s st with
    | none => st
    | some st' => run s n st'
/-- the records at the beginning of a text, and where they end -/
def openLog (s : List UInt8) : List (List UInt8 × List UInt8) × Nat := run s 60 ([], 0)
theorem run_none {s : List UInt8} {st : List (List UInt8 × List UInt8) × Nat} (h : step s st = none) : ∀ n, run s n st = st
  | 0 => rfl
  | n + 1 => by simp only [run, h]
theorem run_some {s : List UInt8} {st st' : List (List UInt8 × List UInt8) × Nat} (h : step s st = some st') (n : Nat) : run s (n + 1) st = run s n st' := by simp only [run, h]
theorem step_end {s : List UInt8} {st : List (List UInt8 × List UInt8) × Nat} (h : ¬ st.2 < s.length ∨ ¬ st.1.length < 60) : step s st = none := by
  unfold step; rw [if_neg]; omega
theorem step_stop {s : List UInt8} {st : List (List UInt8 × List UInt8) × Nat} (h : ¬ 2 ≤ (split 10 (s.drop st.2)).length ∨ (readRec st.1.length (head 10 (s.drop st.2))).2.2 = false) : step s st = none := by
  unfold step
  split
  · rw [if_neg]; rintro ⟨h1, h2⟩; rcases h with h | h
    · exact h h1
    · rw [h] at h2; cases h2
  · rfl
theorem step_go {s : List UInt8} {st : List (List UInt8 × List UInt8) × Nat} (h1 : st.2 < s.length) (h2 : st.1.length < 60) (h3 : 2 ≤ (split 10 (s.drop st.2)).length) (h4 : (readRec st.1.length (head 10 (s.drop st.2))).2.2 = true) :
    step s st = some (st.1 ++ [((readRec st.1.length (head 10 (s.drop st.2))).1, (readRec st.1.length (head 10 (s.drop st.2))).2.1)], st.2 + (head 10 (s.drop st.2)).length + 1) := by
  unfold step; rw [if_pos ⟨h1, h2⟩, if_pos ⟨h3, h4⟩]
/-- a valid log, as the reference asks -/
def validLog (d p : List UInt8) (n : Int) : Bool :=
  decide ((d.length : Int) + p.length ≤ 30000) && ((((openLog (d ++ p)).2 : Int) == (d.length : Int) + p.length) && ((((openLog d).2 : Int) == (d.length : Int)) && (((openLog (d ++ p)).1.length : Int) == n)))
/-- the record at the beginning of a text, and the length of its encoding, as the program reads it -/
def decode (k : Nat) (s : List UInt8) : (List UInt8 × List UInt8) × Nat × Bool :=
  let line := (Go.Lib.cut s [10]).1
  let both := (Go.Lib.cut (Go.Lib.cut line [35]).1 [32]).2.1
  let c := (Go.Lib.cut both [62]).1
  let r := (Go.Lib.cut both [62]).2.1
  if (Go.Lib.cut s [10]).2.2 && decide ((line.length : Int) ≤ 4000) && ((encode k c r).2 && ((encode k c r).1 == line ++ [10])) then ((c, r), line.length + 1, true) else (([], []), 0, false)
theorem cut_len (s sep : List UInt8) : (Go.Lib.cut s sep).1.length ≤ s.length ∧ (Go.Lib.cut s sep).2.1.length ≤ s.length := by
  unfold Go.Lib.cut
  split
  · refine ⟨by simp; omega, by simp⟩
  · simp
theorem cut_lt (s : List UInt8) (c : UInt8) (h : (Go.Lib.cut s [c]).2.2 = true) : (Go.Lib.cut s [c]).1.length + 1 ≤ s.length := by
  unfold Go.Lib.cut at h ⊢
  split
  · rename_i hi
    have hr := Go.Lib.index_room s [c] hi
    simp only [List.length_cons, List.length_nil] at hr
    simp only [List.length_take]
    omega
  · rename_i hi; rw [if_neg hi] at h; cases h
abbrev RSt := List (List UInt8 × List UInt8) × List Int × Nat
/-- one more record at the beginning of a text, as the program reads it -/
def stepI (s : List UInt8) (st : RSt) : Option RSt :=
  if (decode st.1.length (s.drop st.2.2)).2.2 then
    some (st.1 ++ [(decode st.1.length (s.drop st.2.2)).1], st.2.1 ++ [((st.2.2 + (decode st.1.length (s.drop st.2.2)).2.1 : Nat) : Int)], st.2.2 + (decode st.1.length (s.drop st.2.2)).2.1)
  else none
def runI (s : List UInt8) : Nat → RSt → RSt
  | 0, st => st
  | n + 1, st => match stepI s st with
    | none => st
    | some st' => runI s n st'
def readAll (s : List UInt8) : RSt := runI s 60 ([], [], 0)
theorem runI_none {s : List UInt8} {st : RSt} (h : stepI s st = none) : ∀ n, runI s n st = st
  | 0 => rfl
  | n + 1 => by simp only [runI, h]
theorem runI_some {s : List UInt8} {st st' : RSt} (h : stepI s st = some st') (n : Nat) : runI s (n + 1) st = runI s n st' := by simp only [runI, h]
theorem stepI_stop {s : List UInt8} {st : RSt} (h : (decode st.1.length (s.drop st.2.2)).2.2 = false) : stepI s st = none := by
  unfold stepI; rw [h]; rfl
theorem stepI_go {s : List UInt8} {st : RSt} (h : (decode st.1.length (s.drop st.2.2)).2.2 = true) :
    stepI s st = some (st.1 ++ [(decode st.1.length (s.drop st.2.2)).1], st.2.1 ++ [((st.2.2 + (decode st.1.length (s.drop st.2.2)).2.1 : Nat) : Int)], st.2.2 + (decode st.1.length (s.drop st.2.2)).2.1) := by
  unfold stepI; rw [if_pos h]
theorem decode_ok (k : Nat) (s : List UInt8) (h : (decode k s).2.2 = true) : k ≤ 59 ∧ 1 ≤ (decode k s).2.1 ∧ (decode k s).2.1 ≤ s.length := by
  unfold decode at h ⊢
  simp only at h ⊢
  split
  · rename_i hc
    simp only [Bool.and_eq_true] at hc
    have h1 := cut_lt s 10 hc.1.1
    refine ⟨?_, by simp, h1⟩
    have h2 := hc.2.1
    unfold encode at h2
    split at h2
    · rename_i he; simp at he; omega
    · cases h2
  · rename_i hc; rw [if_neg hc] at h; cases h
theorem runI_len (s : List UInt8) : ∀ (n : Nat) (st : RSt), st.2.1.length = st.1.length → (runI s n st).1.length ≤ st.1.length + n ∧ (runI s n st).2.1.length = (runI s n st).1.length
  | 0, st, h => ⟨Nat.le_refl _, h⟩
  | n + 1, st, h => by
    simp only [runI]
    cases hs : stepI s st with
    | none => exact ⟨by simp, h⟩
    | some st' =>
      unfold stepI at hs
      split at hs
      · injection hs with hs
        have := runI_len s n st' (by rw [← hs]; simp [h])
        refine ⟨?_, this.2⟩
        have h1 := this.1
        have h2 : st'.1.length = st.1.length + 1 := by rw [← hs]; simp
        simp only; omega
      · cases hs
theorem readAll_len (s : List UInt8) : (readAll s).1.length ≤ 60 ∧ (readAll s).2.1.length = (readAll s).1.length := by
  have := runI_len s 60 ([], [], 0) rfl
  simpa [readAll] using this
/-- where records begin -/
def starts (s : List UInt8) : List Int := 0 :: (readAll s).2.1
/-- the program's check of a log -/
def recordsOk (d p : List UInt8) (n : Int) : Bool :=
  (starts (d ++ p)).any (fun x => x == (d.length : Int)) && (((starts (d ++ p))[(starts (d ++ p)).length - 1]?.getD 0 == ((d ++ p).length : Int)) && (n == ((readAll (d ++ p)).1.length : Int)))
def sz2 (a b : Nat) (left : Int) : Int := if left - (a : Int) < 0 then -1 else if left - (a : Int) - b < 0 then -1 else left - (a : Int) - b
end P
end Go.Proofs.YtmlklnimoknojaaGreatDoor
