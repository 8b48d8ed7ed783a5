/- Plain: screens of strokes, edits, translators. -/
import Derived.Test.YtpkahblajgaemaaGreatDoorPlainWalk
namespace Go.Proofs.YtpkahblajgaemaaGreatDoor.P
abbrev Edit := Int × Bs
abbrev Tr := List Int × Bs
/-- the atoms of a piece -/
def pcAtoms (st : List Int) (p : Pc) : List (Int × Bs) := if p.2 = [] then [(1, raw (st.getD p.1.1.toNat 0))] else (transS p.2).1
def atomsOf (st : List Int) (l : List Pc) : List (Int × Bs) := l.flatMap (pcAtoms st)
/-- the screen of strokes, whether there is one -/
def scrA (d : Dic) (st : List Int) : Bs × Bool := render (atomsOf st (segA d st))
def scr (d : Dic) (st : List Int) : Bs × Bool := if dic d && slist st then scrA d st else ([], false)
theorem atomsOf_snoc (st : List Int) (l : List Pc) (p : Pc) : atomsOf st (l ++ [p]) = atomsOf st l ++ pcAtoms st p := by
  unfold atomsOf
  rw [List.flatMap_append]
  simp
theorem transS_len (s : Bs) : (transS s).1.length ≤ 10 := by
  unfold transS
  split
  · simp
  split
  · simp
  · split
    · rename_i h
      unfold listS at h
      simp only [Bool.and_eq_true, decide_eq_true_eq] at h
      have h1 := h.1.2
      simp only
      omega
    · simp
theorem pcAtoms_len (st : List Int) (p : Pc) : (pcAtoms st p).length ≤ 10 := by
  unfold pcAtoms
  split
  · simp
  · exact transS_len _
theorem atomsOf_len (st : List Int) : ∀ (l : List Pc), (atomsOf st l).length ≤ 10 * l.length
  | [] => by simp [atomsOf]
  | p :: l => by
    have h1 := atomsOf_len st l
    have h2 := pcAtoms_len st p
    unfold atomsOf at *
    rw [List.flatMap_cons, List.length_append, List.length_cons]
    omega
theorem scr_no {d : Dic} {st : List Int} (h : (scr d st).2 = false) : (scr d st).1 = [] := by
  unfold scr at h ⊢
  split
  · rename_i hc
    rw [if_pos hc] at h
    exact (render_eq _).2.2 h
  · rfl
def screen (s : Bs) : Bool := decide ((s.length : Int) ≤ 2000) && s.all prn
theorem scr_screen (d : Dic) (st : List Int) : screen (scr d st).1 = true := by
  unfold screen scr
  simp only [Bool.and_eq_true, decide_eq_true_eq, List.all_eq_true]
  split
  · have := render_len (atomsOf st (segA d st))
    unfold scrA
    exact ⟨by omega, this.2⟩
  · exact ⟨by simp, by simp⟩
theorem screen_len {s : Bs} (h : screen s = true) : s.length ≤ 2000 := by
  unfold screen at h
  simp only [Bool.and_eq_true, decide_eq_true_eq] at h
  omega
theorem scr_len (d : Dic) (st : List Int) : (scr d st).1.length ≤ 2000 := screen_len (scr_screen d st)
theorem slist_len {st : List Int} (h : slist st = true) : st.length ≤ 60 := by
  unfold slist at h
  simp only [Bool.and_eq_true, decide_eq_true_eq] at h
  exact h.1
/-- how many first bytes two texts have in common -/
def lcp : Bs → Bs → Nat
  | a :: x, b :: y => if a = b then lcp x y + 1 else 0
  | _, _ => 0
def least (a b : Bs) : Edit := (((a.length - lcp a b : Nat) : Int), b.drop (lcp a b))
theorem lcp_le : ∀ a b : Bs, lcp a b ≤ a.length ∧ lcp a b ≤ b.length ∧ a.take (lcp a b) = b.take (lcp a b)
  | [], _ => by simp [lcp]
  | _ :: _, [] => by simp [lcp]
  | a :: x, b :: y => by
    unfold lcp
    split
    · rename_i h
      have ih := lcp_le x y
      subst h
      simp only [List.length_cons, List.take_succ_cons]
      exact ⟨by omega, by omega, by rw [ih.2.2]⟩
    · simp
theorem lcp_of : ∀ (n : Nat) (a b : Bs), a.take n = b.take n → n ≤ a.length → n ≤ b.length → (n = a.length ∨ n = b.length ∨ ∃ (h1 : n < a.length) (h2 : n < b.length), a[n] ≠ b[n]) → lcp a b = n
  | 0, a, b, _, _, _, h => by
    cases a with
    | nil => simp [lcp]
    | cons a x =>
      cases b with
      | nil => simp [lcp]
      | cons b y =>
        rcases h with h | h | ⟨_, _, h⟩
        · simp at h
        · simp at h
        · unfold lcp
          rw [if_neg (by simpa using h)]
  | n + 1, a, b, ht, h1, h2, h => by
    cases a with
    | nil => simp at h1
    | cons a x =>
      cases b with
      | nil => simp at h2
      | cons b y =>
        simp only [List.take_succ_cons, List.cons.injEq, List.length_cons] at ht h1 h2 h
        unfold lcp
        rw [if_pos ht.1, lcp_of n x y ht.2 (by omega) (by omega) ?_]
        rcases h with h | h | ⟨h3, h4, h⟩
        · exact .inl (by omega)
        · exact .inr (.inl (by omega))
        · exact .inr (.inr ⟨by simpa using h3, by simpa using h4, by simpa using h⟩)
def editOk (e : Edit) : Bool := decide (0 ≤ e.1 ∧ e.1 ≤ 2000) && screen e.2
def applyE (s : Bs) (e : Edit) : Bs × Bool :=
  if screen s && (editOk e && decide (e.1 ≤ (s.length : Int))) then (if 2000 < (s.take (s.length - e.1.toNat) ++ e.2).length then ([], false) else (s.take (s.length - e.1.toNat) ++ e.2, true)) else ([], false)
theorem screen_drop {s : Bs} (h : screen s = true) (n : Nat) : screen (s.drop n) = true := by
  unfold screen at h ⊢
  simp only [Bool.and_eq_true, decide_eq_true_eq, List.all_eq_true] at h ⊢
  exact ⟨by rw [List.length_drop]; omega, fun x hx => h.2 x (List.mem_of_mem_drop hx)⟩
theorem least_ok {a b : Bs} (ha : screen a = true) (hb : screen b = true) : editOk (least a b) = true := by
  have := screen_len ha
  unfold editOk least
  rw [screen_drop hb, decide_eq_true (by simp only; omega)]
  rfl
theorem take_lcp (a b : Bs) : a.take (a.length - (((a.length - lcp a b : Nat) : Int)).toNat) ++ b.drop (lcp a b) = b := by
  obtain ⟨h1, h2, h3⟩ := lcp_le a b
  rw [Int.toNat_natCast, show a.length - (a.length - lcp a b) = lcp a b by omega, h3, List.take_append_drop]
/-- the least edit leads from the one screen to the other -/
theorem apply_least {a b : Bs} (ha : screen a = true) (hb : screen b = true) : applyE a (least a b) = (b, true) := by
  have h1 := least_ok ha hb
  have h2 : decide ((least a b).1 ≤ (a.length : Int)) = true := decide_eq_true (by unfold least; simp only; omega)
  unfold applyE
  rw [ha, h1, h2, if_pos (by rfl)]
  show (if 2000 < (a.take (a.length - (((a.length - lcp a b : Nat) : Int)).toNat) ++ b.drop (lcp a b)).length then _ else _) = _
  have h3 := take_lcp a b
  rw [h3, if_neg (by have := screen_len hb; omega)]
  unfold least
  simp only
  rw [h3]
def comp2 (a b : Edit) : Edit := if b.1 ≤ (a.2.length : Int) then (a.1, a.2.take (a.2.length - b.1.toNat) ++ b.2) else (a.1 + (b.1 - a.2.length), b.2)
def compE (a b : Edit) : Edit × Bool := if editOk a && editOk b then (if editOk (comp2 a b) then (comp2 a b, true) else ((0, []), false)) else ((0, []), false)
/-- an edit behind one that only writes -/
theorem comp_write {s b : Bs} (h : (compE (0, s) (least s b)).2 = true) : (compE (0, s) (least s b)).1 = (0, b) := by
  have hc : comp2 (0, s) (least s b) = (0, b) := by
    unfold comp2
    have h3 := take_lcp s b
    unfold least
    simp only
    rw [if_pos (by omega), h3]
  unfold compE at h ⊢
  split at h
  · rename_i h4
    rw [if_pos h4]
    split at h
    · rename_i h5
      rw [if_pos h5, hc]
    · cases h
  · cases h
/-- a valid translator -/
def trans (d : Dic) (t : Tr) : Bool := (scr d t.1).2 && ((scr d t.1).1 == t.2 && !t.1.contains 1024)
def next (l : List Int) (k : Int) : List Int := if k = 1024 then l.take (l.length - 1) else l ++ [k]
def tr0 : Tr := ([], [])
def pressP (d : Dic) (t : Tr) (k : Int) : (Tr × Edit) × Bool := if (scr d (next t.1 k)).2 then (((next t.1 k, (scr d (next t.1 k)).1), least t.2 (scr d (next t.1 k)).1), true) else ((tr0, (0, [])), false)
def press (d : Dic) (t : Tr) (k : Int) : (Tr × Edit) × Bool := if trans d t && stroke k then pressP d t k else ((tr0, (0, [])), false)
def replayN (d : Dic) (st : List Int) : Nat → Option (List Edit × Tr)
  | 0 => some ([], tr0)
  | j + 1 => (replayN d st j).bind fun r => if (press d r.2 (st.getD j 0)).2 then some (r.1 ++ [(press d r.2 (st.getD j 0)).1.2], (press d r.2 (st.getD j 0)).1.1) else none
def replay (d : Dic) (st : List Int) : (List Edit × Tr) × Bool := if dic d && decide (st.length ≤ 120) then (match replayN d st st.length with
  | none => (([], tr0), false)
  | some r => (r, true)) else (([], tr0), false)
theorem replayN_none {d : Dic} {st : List Int} {j : Nat} (h : replayN d st j = none) : ∀ k, j ≤ k → replayN d st k = none
  | 0, hk => by have : j = 0 := by omega
                subst this; exact h
  | k + 1, hk => by
    by_cases hj : j = k + 1
    · subst hj; exact h
    · unfold replayN
      rw [replayN_none h k (by omega)]
      rfl
def undoN (d : Dic) (t : Tr) : Nat → Option (List Edit × Bs)
  | 0 => some ([], t.2)
  | i + 1 => (undoN d t i).bind fun r => if (scr d (t.1.take (t.1.length - 1 - i))).2 then some (r.1 ++ [least r.2 (scr d (t.1.take (t.1.length - 1 - i))).1], (scr d (t.1.take (t.1.length - 1 - i))).1) else none
def undo (d : Dic) (t : Tr) : List Edit × Bool := if trans d t then (match undoN d t t.1.length with
  | none => ([], false)
  | some r => (r.1, true)) else ([], false)
theorem undoN_none {d : Dic} {t : Tr} {j : Nat} (h : undoN d t j = none) : ∀ k, j ≤ k → undoN d t k = none
  | 0, hk => by have : j = 0 := by omega
                subst this; exact h
  | k + 1, hk => by
    by_cases hj : j = k + 1
    · subst hj; exact h
    · unfold undoN
      rw [undoN_none h k (by omega)]
      rfl
theorem trans_parts {d : Dic} {t : Tr} (h : trans d t = true) : (scr d t.1).2 = true ∧ (scr d t.1).1 = t.2 ∧ t.1.contains 1024 = false := by
  unfold trans at h
  simp only [Bool.and_eq_true, beq_iff_eq, Bool.not_eq_true'] at h
  exact h
theorem trans_screen {d : Dic} {t : Tr} (h : trans d t = true) : screen t.2 = true := (trans_parts h).2.1 ▸ scr_screen d t.1
theorem trans_of {d : Dic} {l : List Int} (h : (scr d l).2 = true) (h2 : l.contains 1024 = false) : trans d (l, (scr d l).1) = true := by
  unfold trans
  simp only [h, h2, beq_self_eq_true]
  rfl
theorem next_free {l : List Int} {k : Int} (h : l.contains 1024 = false) : (next l k).contains 1024 = false := by
  unfold next
  simp only [List.contains_eq_mem, decide_eq_false_iff_not] at h ⊢
  split
  · exact fun hm => h (List.mem_of_mem_take hm)
  · rename_i hk
    rw [List.mem_append, List.mem_singleton]
    rintro (hm | hm)
    · exact h hm
    · exact hk hm.symm
theorem press_ok {d : Dic} {t : Tr} {k : Int} (h : (press d t k).2 = true) : trans d t = true ∧ stroke k = true ∧ (scr d (next t.1 k)).2 = true ∧ (press d t k).1 = ((next t.1 k, (scr d (next t.1 k)).1), least t.2 (scr d (next t.1 k)).1) := by
  unfold press at h ⊢
  split at h
  · rename_i hc
    have hc' := hc
    simp only [Bool.and_eq_true] at hc
    rw [if_pos hc']
    unfold pressP at h ⊢
    split at h
    · rename_i h2
      rw [if_pos h2]
      exact ⟨hc.1, hc.2, h2, rfl⟩
    · cases h
  · cases h
theorem press_trans {d : Dic} {t : Tr} {k : Int} (h : (press d t k).2 = true) : trans d (press d t k).1.1 = true := by
  obtain ⟨h1, _, h3, h4⟩ := press_ok h
  rw [h4]
  exact trans_of h3 (next_free (trans_parts h1).2.2)
end Go.Proofs.YtpkahblajgaemaaGreatDoor.P

namespace Go.Proofs.YtpkahblajgaemaaGreatDoor.P
theorem segs_mem {d : Dic} {st : List Int} {p : Pc} : ∀ {f a : Nat}, p ∈ segs d st f a → ∃ b, b < st.length ∧ p = matchA d st b
  | 0, _, h => by cases h
  | f + 1, a, h => by
    unfold segs at h
    split at h
    · rename_i hlt
      rcases List.mem_cons.1 h with h | h
      · exact ⟨a, hlt, h⟩
      · exact segs_mem h
    · cases h
theorem matchN_text {d : Dic} {st : List Int} (hd : dic d = true) (a : Nat) : ∀ n : Nat, (matchN d st a n).2 = [] ∨ (transS (matchN d st a n).2).2 = true
  | 0 => .inl rfl
  | n + 1 => by
    unfold matchN
    split
    · rename_i h
      right
      have hm := mem_textAt h
      unfold dic at hd
      simp only [Bool.and_eq_true, List.all_eq_true] at hd
      have he := hd.2.1 _ hm
      unfold entry at he
      simp only [Bool.and_eq_true] at he
      exact he.2
    · exact matchN_text hd a n
/-- what a piece of a segmentation is -/
theorem seg_piece {d : Dic} {st : List Int} (hd : dic d = true) {p : Pc} (h : p ∈ segA d st) : ∃ a k : Nat, a < st.length ∧ p.1 = ((a : Int), (k : Int)) ∧ (p.2 = [] ∨ (transS p.2).2 = true) := by
  obtain ⟨b, hb, rfl⟩ := segs_mem h
  obtain ⟨k, hk, _⟩ := matchN_cnt d st b (min 6 (st.length - b))
  exact ⟨b, k, hb, hk, matchN_text hd b _⟩
theorem segA_len (d : Dic) (st : List Int) : (segA d st).length ≤ st.length := segs_len
theorem stroke_nat {st : List Int} (h : slist st = true) {a : Nat} (ha : a < st.length) : ∃ m : Nat, st[a] = (m : Int) ∧ stroke (m : Int) = true ∧ st.getD a 0 = (m : Int) := by
  unfold slist at h
  simp only [Bool.and_eq_true, List.all_eq_true] at h
  have hs := h.2 _ (List.getElem_mem ha)
  have h1 := hs
  unfold stroke at h1
  simp only [decide_eq_true_eq] at h1
  obtain ⟨m, hm⟩ := Int.eq_ofNat_of_zero_le (show 0 ≤ st[a] by omega)
  refine ⟨m, hm, by rw [← hm]; exact hs, ?_⟩
  rw [List.getD_eq_getElem?_getD, List.getElem?_eq_getElem ha]
  exact hm
theorem atoms_word {st : List Int} {p : Pc} {a : Nat} (h : p.2 = []) (h1 : p.1.1 = (a : Int)) : pcAtoms st p = [(1, raw (st.getD a 0))] := by
  unfold pcAtoms
  rw [if_pos h, h1, Int.toNat_natCast]
theorem atoms_trans {st : List Int} {p : Pc} (h : p.2 ≠ []) : pcAtoms st p = (transS p.2).1 := by
  unfold pcAtoms
  rw [if_neg h]
theorem trans_len60 {s : Bs} (h : (transS s).2 = true) : s.length ≤ 60 := by
  by_cases hl : 60 < s.length
  · unfold transS at h
    rw [if_pos hl] at h
    cases h
  · omega
theorem trans_atoms {s : Bs} (h : (transS s).2 = true) : ∀ x ∈ (transS s).1, atom x.1 x.2 = true := by
  unfold transS at h ⊢
  by_cases h0 : 60 < s.length
  · rw [if_pos h0] at h; cases h
  rw [if_neg h0] at h ⊢
  cases hl : atoms (split 32 s) with
  | none => rw [hl] at h; cases h
  | some l =>
    rw [hl] at h
    simp only at h ⊢
    by_cases h2 : listS l = true
    · rw [if_pos h2]
      unfold listS at h2
      simp only [Bool.and_eq_true, List.all_eq_true] at h2
      exact h2.2.1
    · rw [if_neg h2] at h
      cases h
theorem pcAtoms_text {st : List Int} {p : Pc} (h : p.2 = [] ∨ (transS p.2).2 = true) : ∀ x ∈ pcAtoms st p, x.2.length ≤ 46 := by
  intro x hx
  by_cases hp : p.2 = []
  · unfold pcAtoms at hx
    rw [if_pos hp, List.mem_singleton] at hx
    rw [hx]
    exact raw_len _
  · rw [atoms_trans hp] at hx
    have := (atom_text (trans_atoms (h.resolve_left hp) x hx)).2
    omega
theorem atomsOf_text {st : List Int} {l : List Pc} (h : ∀ p ∈ l, ∃ a k : Nat, a < st.length ∧ p.1 = ((a : Int), (k : Int)) ∧ (p.2 = [] ∨ (transS p.2).2 = true)) : ∀ x ∈ atomsOf st l, x.2.length ≤ 2 ^ 29 := by
  intro x hx
  unfold atomsOf at hx
  rw [List.mem_flatMap] at hx
  obtain ⟨p, hp, hx⟩ := hx
  obtain ⟨_, _, _, _, h3⟩ := h p hp
  have := pcAtoms_text h3 x hx
  omega
end Go.Proofs.YtpkahblajgaemaaGreatDoor.P
