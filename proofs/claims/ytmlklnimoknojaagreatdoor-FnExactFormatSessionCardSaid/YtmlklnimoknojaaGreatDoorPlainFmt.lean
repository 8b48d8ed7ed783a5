/- Plain: the state of a text to which atoms are applied; the text of a list of atoms. -/
import Derived.Test.YtmlklnimoknojaaGreatDoorPlainSpell
namespace Go.Proofs.YtmlklnimoknojaaGreatDoor.P
structure St where
  text : Bs
  joined : Bool
  glued : Bool
  cap : Int
  word : Nat
def prn (b : UInt8) : Bool := decide (32 ≤ (b.toNat : Int)) && decide ((b.toNat : Int) ≤ 126)
def stOk (s : St) : Bool := decide ((s.text.length : Int) ≤ 2000) && (s.text.all prn && (decide (0 ≤ s.cap ∧ s.cap ≤ 2) && decide (0 ≤ (s.word : Int) ∧ (s.word : Int) ≤ (s.text.length : Int))))
def upB (b : UInt8) : Bool := decide (65 ≤ (b.toNat : Int)) && decide ((b.toNat : Int) ≤ 90)
def upper : Bs → Bs
  | [] => []
  | b :: t => (if lower b then b - 32 else b) :: t
def lowered : Bs → Bs
  | [] => []
  | b :: t => (if upB b then b + 32 else b) :: t
theorem upper_yes {b : UInt8} {t : Bs} (h : lower b = true) : upper (b :: t) = (b - 32) :: t := by
  show (if lower b then b - 32 else b) :: t = _
  rw [if_pos h]
theorem upper_no {b : UInt8} {t : Bs} (h : lower b = false) : upper (b :: t) = b :: t := by
  show (if lower b then b - 32 else b) :: t = _
  rw [if_neg (by rw [h]; decide)]
theorem lowered_yes {b : UInt8} {t : Bs} (h : upB b = true) : lowered (b :: t) = (b + 32) :: t := by
  show (if upB b then b + 32 else b) :: t = _
  rw [if_pos h]
theorem lowered_no {b : UInt8} {t : Bs} (h : upB b = false) : lowered (b :: t) = b :: t := by
  show (if upB b then b + 32 else b) :: t = _
  rw [if_neg (by rw [h]; decide)]
def caseW (s : Bs) (how : Int) : Bs := if how = 1 then upper s else if how = 2 then lowered s else s
def base (s : St) : Bs := if s.joined then s.text else s.text ++ [32]
def put (s : St) (t : Bs) : St := { s with text := base s ++ caseW t s.cap, cap := 0, word := (base s).length }
def gluedPut (s : St) (t : Bs) : St := if s.glued then { put { s with joined := true } t with word := s.word } else put s t
def endS (s : St) (x : Bs) : Bs := if (joinS (s.text.drop s.word) x).2 then s.text.take s.word ++ (joinS (s.text.drop s.word) x).1 else s.text ++ x
def apply (s : St) (k : Int) (t : Bs) : St :=
  if k = 1 then { put s t with joined := false, glued := false }
  else if k = 2 then { s with text := endS s t, joined := false, glued := false }
  else if k = 3 then { put s t with joined := true, glued := false }
  else if k = 4 then { s with text := s.text ++ t, joined := true, glued := false }
  else if k = 5 then { gluedPut s t with joined := false, glued := true }
  else if k = 6 then { s with text := s.text ++ t, joined := false, glued := false, cap := 1 }
  else if k = 7 then { s with text := s.text ++ t, joined := false, glued := false }
  else if k = 8 then { s with cap := 1 }
  else if k = 9 then { s with cap := 2 }
  else if k = 10 then { s with text := s.text.take s.word ++ upper (s.text.drop s.word) }
  else s
def init : St := ⟨[], true, false, 0, 0⟩
/-- what every state that is reached has, but for its length -/
def stGood (s : St) : Prop := (∀ b ∈ s.text, prn b = true) ∧ (0 ≤ s.cap ∧ s.cap ≤ 2) ∧ s.word ≤ s.text.length
theorem stOk_iff {s : St} : stOk s = true ↔ stGood s ∧ s.text.length ≤ 2000 := by
  unfold stOk stGood
  simp only [Bool.and_eq_true, decide_eq_true_eq, List.all_eq_true]
  constructor
  · rintro ⟨h1, h2, h3, h4⟩
    exact ⟨⟨h2, h3, by omega⟩, by omega⟩
  · rintro ⟨⟨h2, h3, h4⟩, h1⟩
    exact ⟨by omega, h2, h3, by omega⟩
theorem init_good : stGood init := ⟨fun b hb => (by simp [init] at hb), by decide, by decide⟩
theorem lower_prn {b : UInt8} (h : lower b = true) : prn b = true := by
  unfold lower at h
  unfold prn
  simp only [Bool.and_eq_true, decide_eq_true_eq] at h ⊢
  omega
theorem upper_prn {b : UInt8} (h : lower b = true) : prn (b - 32) = true := by
  unfold lower at h
  unfold prn
  simp only [Bool.and_eq_true, decide_eq_true_eq] at h ⊢
  have h1 : 32 ≤ b := by rw [UInt8.le_iff_toNat_le]; show 32 ≤ b.toNat; omega
  rw [UInt8.toNat_sub_of_le _ _ h1]
  show _ ≤ ((b.toNat - 32 : Nat) : Int) ∧ ((b.toNat - 32 : Nat) : Int) ≤ _
  omega
theorem lowered_prn {b : UInt8} (h : upB b = true) : prn (b + 32) = true := by
  unfold upB at h
  unfold prn
  simp only [Bool.and_eq_true, decide_eq_true_eq] at h ⊢
  rw [UInt8.toNat_add]
  show _ ≤ (((b.toNat + 32) % 2 ^ 8 : Nat) : Int) ∧ (((b.toNat + 32) % 2 ^ 8 : Nat) : Int) ≤ _
  omega
theorem upper_all {t : Bs} (h : ∀ b ∈ t, prn b = true) : ∀ b ∈ upper t, prn b = true := by
  cases t with
  | nil => exact h
  | cons a t =>
    intro b hb
    unfold upper at hb
    rcases List.mem_cons.1 hb with rfl | hb
    · split
      · rename_i hl; exact upper_prn hl
      · exact h _ (by simp)
    · exact h b (by simp [hb])
theorem lowered_all {t : Bs} (h : ∀ b ∈ t, prn b = true) : ∀ b ∈ lowered t, prn b = true := by
  cases t with
  | nil => exact h
  | cons a t =>
    intro b hb
    unfold lowered at hb
    rcases List.mem_cons.1 hb with rfl | hb
    · split
      · rename_i hl; exact lowered_prn hl
      · exact h _ (by simp)
    · exact h b (by simp [hb])
theorem caseW_all {t : Bs} {k : Int} (h : ∀ b ∈ t, prn b = true) : ∀ b ∈ caseW t k, prn b = true := by
  unfold caseW
  split
  · exact upper_all h
  split
  · exact lowered_all h
  · exact h
theorem upper_len (t : Bs) : (upper t).length = t.length := by cases t <;> simp [upper]
theorem lowered_len (t : Bs) : (lowered t).length = t.length := by cases t <;> simp [lowered]
theorem caseW_len (t : Bs) (k : Int) : (caseW t k).length = t.length := by
  unfold caseW
  split
  · exact upper_len t
  split
  · exact lowered_len t
  · rfl
theorem base_all {s : St} (h : ∀ b ∈ s.text, prn b = true) : ∀ b ∈ base s, prn b = true := by
  intro b hb
  unfold base at hb
  split at hb
  · exact h b hb
  · rcases List.mem_append.1 hb with hb | hb
    · exact h b hb
    · rw [List.mem_singleton] at hb; subst hb; decide
theorem base_len (s : St) : s.text.length ≤ (base s).length ∧ (base s).length ≤ s.text.length + 1 := by
  unfold base
  split <;> simp
theorem atom_text {k : Int} {t : Bs} (h : atom k t = true) : (∀ b ∈ t, prn b = true) ∧ t.length ≤ 20 := by
  have hw : word t = true → (∀ b ∈ t, prn b = true) ∧ t.length ≤ 20 := by
    intro h
    refine ⟨fun b hb => ?_, (word_parts h).2.2⟩
    unfold word at h
    simp only [Bool.and_eq_true, List.all_eq_true] at h
    have := wordByte_parts (h.1 b hb)
    unfold prn
    simp only [Bool.and_eq_true, decide_eq_true_eq]
    omega
  unfold atom at h
  repeat' split at h
  all_goals first
    | exact hw h
    | (simp only [Bool.or_eq_true, beq_iff_eq, Bool.and_eq_true] at h
       first
         | (rcases h with rfl | rfl | rfl <;> exact ⟨by decide, by decide⟩)
         | (obtain ⟨_, rfl⟩ := h; exact ⟨by simp, by simp⟩))
theorem putS_good {s : St} {t : Bs} (h : stGood s) (ht : ∀ b ∈ t, prn b = true) : stGood (put s t) := by
  refine ⟨fun b hb => ?_, (show (0 : Int) ≤ 0 ∧ (0 : Int) ≤ 2 by decide), ?_⟩
  · unfold put at hb
    rcases List.mem_append.1 hb with hb | hb
    · exact base_all h.1 b hb
    · exact caseW_all ht b hb
  · unfold put
    simp
theorem putS_len (s : St) (t : Bs) : (put s t).text.length ≤ s.text.length + 1 + t.length := by
  unfold put
  show (base s ++ caseW t s.cap).length ≤ _
  rw [List.length_append, caseW_len]
  have := (base_len s).2
  omega
theorem endS_all {s : St} {x : Bs} (h : ∀ b ∈ s.text, prn b = true) (hx : ∀ b ∈ x, prn b = true) : ∀ b ∈ endS s x, prn b = true := by
  intro b hb
  unfold endS at hb
  split at hb
  · rename_i hj
    rcases List.mem_append.1 hb with hb | hb
    · exact h b (List.mem_of_mem_take hb)
    · exact lower_prn ((joinS_parts hj).2 b hb)
  · rcases List.mem_append.1 hb with hb | hb
    · exact h b hb
    · exact hx b hb
theorem endS_len (s : St) (x : Bs) (hw : s.word ≤ s.text.length) : (endS s x).length ≤ s.text.length + 24 + x.length ∧ s.word ≤ (endS s x).length := by
  unfold endS
  split
  · rename_i hj
    have := (joinS_parts hj).1
    rw [List.length_append, List.length_take]
    omega
  · rw [List.length_append]; omega
theorem gluedPut_good {s : St} {t : Bs} (h : stGood s) (ht : ∀ b ∈ t, prn b = true) : stGood (gluedPut s t) := by
  unfold gluedPut
  split
  · obtain ⟨h1, h2, h3⟩ := putS_good (s := { s with joined := true }) (t := t) h ht
    refine ⟨h1, h2, ?_⟩
    show s.word ≤ (put { s with joined := true } t).text.length
    unfold put base
    simp
    have := h.2.2
    omega
  · exact putS_good h ht
theorem gluedPut_len (s : St) (t : Bs) : (gluedPut s t).text.length ≤ s.text.length + 1 + t.length := by
  unfold gluedPut
  split
  · exact putS_len { s with joined := true } t
  · exact putS_len s t
theorem apply_good {s : St} {k : Int} {t : Bs} (h : stGood s) (ha : atom k t = true) : stGood (apply s k t) := by
  obtain ⟨ht, _⟩ := atom_text ha
  have happ : ∀ b ∈ s.text ++ t, prn b = true := fun b hb => (List.mem_append.1 hb).elim (h.1 b) (ht b)
  have hlen : s.word ≤ (s.text ++ t).length := by rw [List.length_append]; have := h.2.2; omega
  unfold apply
  split
  · exact putS_good h ht
  split
  · exact ⟨endS_all h.1 ht, h.2.1, (endS_len s t h.2.2).2⟩
  split
  · exact putS_good h ht
  split
  · exact ⟨happ, h.2.1, hlen⟩
  split
  · exact gluedPut_good h ht
  split
  · exact ⟨happ, (show (0 : Int) ≤ 1 ∧ (1 : Int) ≤ 2 by decide), hlen⟩
  split
  · exact ⟨happ, h.2.1, hlen⟩
  split
  · exact ⟨h.1, (show (0 : Int) ≤ 1 ∧ (1 : Int) ≤ 2 by decide), h.2.2⟩
  split
  · exact ⟨h.1, (show (0 : Int) ≤ 2 ∧ (2 : Int) ≤ 2 by decide), h.2.2⟩
  split
  · refine ⟨fun b hb => ?_, h.2.1, ?_⟩
    · rcases List.mem_append.1 hb with hb | hb
      · exact h.1 b (List.mem_of_mem_take hb)
      · exact upper_all (fun b hb => h.1 b (List.mem_of_mem_drop hb)) b hb
    · show s.word ≤ (s.text.take s.word ++ upper (s.text.drop s.word)).length
      rw [List.length_append, upper_len, List.length_take, List.length_drop]
      have := h.2.2
      omega
  · exact h
theorem apply_len {s : St} {k : Int} {t : Bs} (h : stGood s) (ha : atom k t = true) : (apply s k t).text.length ≤ s.text.length + 50 := by
  obtain ⟨_, ht⟩ := atom_text ha
  have h1 := putS_len s t
  have h2 := gluedPut_len s t
  have h3 := (endS_len s t h.2.2).1
  have h4 := h.2.2
  unfold apply
  repeat' split
  all_goals first
    | (show (put s t).text.length ≤ _; omega)
    | (show (gluedPut s t).text.length ≤ _; omega)
    | (show (endS s t).length ≤ _; omega)
    | (show (s.text ++ t).length ≤ _; rw [List.length_append]; omega)
    | (show (s.text.take s.word ++ upper (s.text.drop s.word)).length ≤ _; rw [List.length_append, upper_len, List.length_take, List.length_drop]; omega)
    | (show s.text.length ≤ _; omega)
/-- the program's run over atoms -/
def runA : St → List (Int × Bs) → Option St
  | s, [] => some s
  | s, a :: l => if stOk s && atom a.1 a.2 then (if 2000 < (apply s a.1 a.2).text.length then none else runA (apply s a.1 a.2) l) else none
/-- the reference's -/
def runS : St → List (Int × Bs) → Option St
  | s, [] => some s
  | s, a :: l => if atom a.1 a.2 && decide (s.text.length ≤ 2000) then runS (apply s a.1 a.2) l else none
def short (o : Option St) : Option St := match o with
  | none => none
  | some s => if s.text.length ≤ 2000 then some s else none
theorem runA_eq : ∀ (l : List (Int × Bs)) (s : St), stGood s → s.text.length ≤ 2000 → runA s l = short (runS s l)
  | [], s, _, hl => by
    unfold runA runS short
    simp only [if_pos hl]
  | a :: l, s, hg, hl => by
    unfold runA
    conv => rhs; unfold runS
    rw [stOk_iff.2 ⟨hg, hl⟩, decide_eq_true hl, Bool.true_and, Bool.and_true]
    cases ha : atom a.1 a.2 with
    | false => rfl
    | true =>
      simp only [if_true]
      by_cases h2 : 2000 < (apply s a.1 a.2).text.length
      · rw [if_pos h2]
        cases l with
        | nil => unfold runS short; simp only [if_neg (show ¬ (apply s a.1 a.2).text.length ≤ 2000 by omega)]
        | cons b l =>
          unfold runS
          rw [decide_eq_false (by omega), Bool.and_false]
          rfl
      · rw [if_neg h2]
        exact runA_eq l _ (apply_good hg ha) (by omega)
theorem runS_good : ∀ (l : List (Int × Bs)) (s : St), stGood s → ∀ r, runS s l = some r → stGood r
  | [], s, hg, r, h => by
    unfold runS at h
    injection h with h
    exact h ▸ hg
  | a :: l, s, hg, r, h => by
    unfold runS at h
    split at h
    · rename_i hc
      simp only [Bool.and_eq_true] at hc
      exact runS_good l _ (apply_good hg hc.1) r h
    · cases h
def outText : Option St → Bs
  | none => []
  | some s => s.text
/-- the text of a list of atoms: the program's, the reference's -/
def render (l : List (Int × Bs)) : Bs × Bool := if 600 < l.length then ([], false) else (outText (runA init l), (runA init l).isSome)
def renderS (l : List (Int × Bs)) : Bs × Bool := match runS init l with
  | none => ([], false)
  | some s => (s.text, stOk s && decide (l.length ≤ 600))
theorem render_eq (l : List (Int × Bs)) : (renderS l).2 = (render l).2 ∧ ((render l).2 = true → (renderS l).1 = (render l).1) ∧ ((render l).2 = false → (render l).1 = []) := by
  have he := runA_eq l init init_good (by decide)
  unfold render renderS
  rw [he]
  cases hr : runS init l with
  | none =>
    simp only [short, outText, Option.isSome_none]
    split <;> simp
  | some s =>
    have hg := runS_good l init init_good s hr
    simp only [short]
    by_cases h2 : s.text.length ≤ 2000
    · rw [if_pos h2, stOk_iff.2 ⟨hg, h2⟩, Bool.true_and]
      by_cases h6 : 600 < l.length
      · rw [if_pos h6, decide_eq_false (by omega)]; simp
      · rw [if_neg h6, decide_eq_true (by omega)]; simp [outText]
    · have hso : stOk s = false := by
        cases hc : stOk s with
        | false => rfl
        | true => exact absurd (stOk_iff.1 hc).2 h2
      rw [if_neg h2, hso, Bool.false_and]
      split <;> simp [outText]
theorem render_len (l : List (Int × Bs)) : (render l).1.length ≤ 2000 ∧ ∀ b ∈ (render l).1, prn b = true := by
  unfold render
  split
  · exact ⟨by simp, by simp⟩
  · have he := runA_eq l init init_good (by decide)
    rw [he]
    cases hr : runS init l with
    | none => exact ⟨by simp [short, outText], by simp [short, outText]⟩
    | some s =>
      have hg := runS_good l init init_good s hr
      simp only [short]
      split
      · rename_i h2; exact ⟨h2, hg.1⟩
      · exact ⟨by simp [outText], by simp [outText]⟩
end Go.Proofs.YtmlklnimoknojaaGreatDoor.P
