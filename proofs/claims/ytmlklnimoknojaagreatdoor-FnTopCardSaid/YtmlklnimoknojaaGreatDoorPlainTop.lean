/- Plain: what replays and undos lead through. -/
import Derived.Test.YtmlklnimoknojaaGreatDoorPlainScr
namespace Go.Proofs.YtmlklnimoknojaaGreatDoor.P
theorem scr_nil {d : Dic} (h : dic d = true) : scr d [] = ([], true) := by
  unfold scr
  rw [h]
  rfl
theorem replayN_step {d : Dic} {st : List Int} {j : Nat} {es : List Edit} {t : Tr} (h : replayN d st (j + 1) = some (es, t)) :
    ∃ es0 t0, replayN d st j = some (es0, t0) ∧ (press d t0 (st.getD j 0)).2 = true ∧ es = es0 ++ [least t0.2 t.2] ∧ t = (press d t0 (st.getD j 0)).1.1 := by
  unfold replayN at h
  cases hr : replayN d st j with
  | none => rw [hr] at h; cases h
  | some r =>
    obtain ⟨es0, t0⟩ := r
    rw [hr] at h
    simp only [Option.bind_some] at h
    split at h
    · rename_i hp
      injection h with h
      injection h with h1 h2
      obtain ⟨_, _, _, h4⟩ := press_ok hp
      refine ⟨es0, t0, rfl, hp, ?_, h2.symm⟩
      rw [← h1, ← h2, h4]
    · cases h
/-- every prefix of a translator's strokes has a screen -/
def prefOk (d : Dic) (l : List Int) : Prop := ∀ n, (scr d (l.take n)).2 = true
theorem prefOk_next {d : Dic} {l : List Int} {k : Int} (h : prefOk d l) (h2 : (scr d (next l k)).2 = true) : prefOk d (next l k) := by
  intro n
  unfold next at h2 ⊢
  split
  · rw [List.take_take]
    exact h _
  · rename_i hk
    rw [if_neg hk] at h2
    by_cases hn : n ≤ l.length
    · rw [List.take_append_of_le_length hn]
      exact h n
    · rw [List.take_of_length_le (by rw [List.length_append]; simp; omega)]
      exact h2
theorem replayN_inv {d : Dic} {st : List Int} (hd : dic d = true) : ∀ {j : Nat} {es : List Edit} {t : Tr}, replayN d st j = some (es, t) → es.length = j ∧ trans d t = true ∧ prefOk d t.1
  | 0, es, t, h => by
    unfold replayN at h
    injection h with h
    injection h with h1 h2
    subst h1 h2
    refine ⟨rfl, ?_, fun n => ?_⟩
    · unfold trans tr0
      simp only [scr_nil hd]
      rfl
    · show (scr d (([] : List Int).take n)).2 = true
      rw [List.take_nil, scr_nil hd]
  | j + 1, es, t, h => by
    obtain ⟨es0, t0, h1, h2, h3, h4⟩ := replayN_step h
    obtain ⟨h5, h6, h7⟩ := replayN_inv hd h1
    refine ⟨by rw [h3, List.length_append, h5]; rfl, by rw [h4]; exact press_trans h2, ?_⟩
    obtain ⟨_, _, h8, h9⟩ := press_ok h2
    rw [h4, h9]
    exact prefOk_next h7 h8
/-- the states that a replay goes through -/
theorem replayN_at {d : Dic} {st : List Int} : ∀ {j : Nat} {es : List Edit} {t : Tr}, replayN d st j = some (es, t) → ∀ i, i ≤ j → ∃ ti, replayN d st i = some (es.take i, ti)
  | 0, es, t, h, i, hi => by
    obtain rfl : i = 0 := by omega
    unfold replayN at h
    injection h with h
    injection h with h1 _
    subst h1
    exact ⟨tr0, rfl⟩
  | j + 1, es, t, h, i, hi => by
    obtain ⟨es0, t0, h1, h2, h3, h4⟩ := replayN_step h
    by_cases hij : i = j + 1
    · subst hij
      have hl : es.length = j + 1 := by
        have : ∀ {j : Nat} {es : List Edit} {t : Tr}, replayN d st j = some (es, t) → es.length = j := by
          intro j
          induction j with
          | zero => intro es t h; unfold replayN at h; injection h with h; injection h with h1 _; rw [← h1]; rfl
          | succ j ih =>
            intro es t h
            obtain ⟨es0, t0, h1, _, h3, _⟩ := replayN_step h
            rw [h3, List.length_append, ih h1]; rfl
        exact this h
      exact ⟨t, by rw [List.take_of_length_le (by omega)]; exact h⟩
    · obtain ⟨ti, hti⟩ := replayN_at h1 i (by omega)
      refine ⟨ti, ?_⟩
      have hl : es0.length = j := by
        have : ∀ {j : Nat} {es : List Edit} {t : Tr}, replayN d st j = some (es, t) → es.length = j := by
          intro j
          induction j with
          | zero => intro es t h; unfold replayN at h; injection h with h; injection h with h1 _; rw [← h1]; rfl
          | succ j ih =>
            intro es t h
            obtain ⟨es0, t0, h1, _, h3, _⟩ := replayN_step h
            rw [h3, List.length_append, ih h1]; rfl
        exact this h1
      rw [h3, List.take_append_of_le_length (by omega)]
      exact hti
/-- one step of a replay: the edit leads from the one screen to the next -/
theorem replay_edit {d : Dic} {st : List Int} {n : Nat} {es : List Edit} {t : Tr} (hd : dic d = true) (h : replayN d st n = some (es, t)) {i : Nat} (hi : i < n) {s : Bs} {ti : Tr} (hti : replayN d st i = some (es.take i, ti)) (hs : ti.2 = s) :
    ∃ (hl : i < es.length) (tj : Tr), replayN d st (i + 1) = some (es.take (i + 1), tj) ∧ es[i] = least s tj.2 ∧ applyE s (es[i]) = (tj.2, true) ∧ screen tj.2 = true ∧ screen s = true := by
  have hl : i < es.length := by rw [(replayN_inv hd h).1]; exact hi
  obtain ⟨tj, htj⟩ := replayN_at h (i + 1) (by omega)
  obtain ⟨es0, t0, h1, h2, h3, h4⟩ := replayN_step htj
  rw [hti] at h1
  injection h1 with h1
  injection h1 with h5 h6
  subst h6
  have he : es[i] = least ti.2 tj.2 := by
    have h7 : (es.take (i + 1))[i]? = (es0 ++ [least ti.2 tj.2])[i]? := by rw [h3]
    rw [List.getElem?_take_of_lt (by omega), List.getElem?_eq_getElem hl, ← h5] at h7
    rw [List.getElem?_append_right (by rw [List.length_take]; omega)] at h7
    have h8 : i - (es.take i).length = 0 := by rw [List.length_take]; omega
    rw [h8] at h7
    injection h7
  have ha := trans_screen (replayN_inv hd hti).2.1
  have hb := trans_screen (replayN_inv hd htj).2.1
  subst hs
  exact ⟨hl, tj, htj, he, by rw [he]; exact apply_least ha hb, hb, ha⟩
theorem undoN_all {d : Dic} {t : Tr} (hp : prefOk d t.1) (ht : (scr d t.1).1 = t.2) : ∀ i, i ≤ t.1.length → ∃ es, undoN d t i = some (es, (scr d (t.1.take (t.1.length - i))).1) ∧ es.length = i
  | 0, _ => ⟨[], by unfold undoN; rw [Nat.sub_zero, List.take_length, ht], rfl⟩
  | i + 1, hi => by
    obtain ⟨es, h1, h2⟩ := undoN_all hp ht i (by omega)
    unfold undoN
    rw [h1]
    simp only [Option.bind_some]
    rw [if_pos (hp _), show t.1.length - 1 - i = t.1.length - (i + 1) by omega]
    exact ⟨_, rfl, by rw [List.length_append, h2]; rfl⟩
theorem undoN_step {d : Dic} {t : Tr} {i : Nat} {es : List Edit} {s : Bs} (h : undoN d t (i + 1) = some (es, s)) :
    ∃ es0 s0, undoN d t i = some (es0, s0) ∧ (scr d (t.1.take (t.1.length - 1 - i))).2 = true ∧ s = (scr d (t.1.take (t.1.length - 1 - i))).1 ∧ es = es0 ++ [least s0 s] := by
  unfold undoN at h
  cases hr : undoN d t i with
  | none => rw [hr] at h; cases h
  | some r =>
    obtain ⟨es0, s0⟩ := r
    rw [hr] at h
    simp only [Option.bind_some] at h
    split at h
    · rename_i hp
      injection h with h
      injection h with h1 h2
      exact ⟨es0, s0, rfl, hp, h2.symm, by rw [← h1, ← h2]⟩
    · cases h
theorem undoN_len {d : Dic} {t : Tr} : ∀ {i : Nat} {es : List Edit} {s : Bs}, undoN d t i = some (es, s) → es.length = i
  | 0, es, s, h => by unfold undoN at h; injection h with h; injection h with h1 _; rw [← h1]; rfl
  | i + 1, es, s, h => by
    obtain ⟨es0, s0, h1, _, _, h4⟩ := undoN_step h
    rw [h4, List.length_append, undoN_len h1]; rfl
theorem undoN_at {d : Dic} {t : Tr} : ∀ {j : Nat} {es : List Edit} {s : Bs}, undoN d t j = some (es, s) → ∀ i, i ≤ j → ∃ si, undoN d t i = some (es.take i, si)
  | 0, es, s, h, i, hi => by
    obtain rfl : i = 0 := by omega
    unfold undoN at h
    injection h with h
    injection h with h1 _
    subst h1
    exact ⟨t.2, rfl⟩
  | j + 1, es, s, h, i, hi => by
    by_cases hij : i = j + 1
    · subst hij
      exact ⟨s, by rw [List.take_of_length_le (by rw [undoN_len h]; omega)]; exact h⟩
    · obtain ⟨es0, s0, h1, _, _, h4⟩ := undoN_step h
      obtain ⟨si, hsi⟩ := undoN_at h1 i (by omega)
      exact ⟨si, by rw [h4, List.take_append_of_le_length (by rw [undoN_len h1]; omega)]; exact hsi⟩
theorem undoN_screen {d : Dic} {t : Tr} (ht : screen t.2 = true) : ∀ {i : Nat} {es : List Edit} {s : Bs}, undoN d t i = some (es, s) → screen s = true
  | 0, es, s, h => by unfold undoN at h; injection h with h; injection h with _ h2; rw [← h2]; exact ht
  | i + 1, es, s, h => by
    obtain ⟨_, _, _, _, h3, _⟩ := undoN_step h
    rw [h3]; exact scr_screen _ _
theorem undo_edit {d : Dic} {t : Tr} {n : Nat} {es : List Edit} {sn : Bs} (ht : screen t.2 = true) (h : undoN d t n = some (es, sn)) {i : Nat} (hi : i < n) {s : Bs} (hs : undoN d t i = some (es.take i, s)) :
    ∃ (hl : i < es.length), undoN d t (i + 1) = some (es.take (i + 1), (scr d (t.1.take (t.1.length - 1 - i))).1) ∧ (scr d (t.1.take (t.1.length - 1 - i))).2 = true ∧ applyE s (es[i]) = ((scr d (t.1.take (t.1.length - 1 - i))).1, true) := by
  have hl : i < es.length := by rw [undoN_len h]; exact hi
  obtain ⟨sj, hsj⟩ := undoN_at h (i + 1) (by omega)
  obtain ⟨es0, s0, h1, h2, h3, h4⟩ := undoN_step hsj
  rw [hs] at h1
  injection h1 with h1
  injection h1 with h5 h6
  subst h6
  have he : es[i] = least s sj := by
    have h7 : (es.take (i + 1))[i]? = (es0 ++ [least s sj])[i]? := by rw [h4]
    rw [List.getElem?_take_of_lt (by omega), List.getElem?_eq_getElem hl, ← h5] at h7
    rw [List.getElem?_append_right (by rw [List.length_take]; omega)] at h7
    have h8 : i - (es.take i).length = 0 := by rw [List.length_take]; omega
    rw [h8] at h7
    injection h7
  have ha := undoN_screen ht hs
  have hb := undoN_screen ht hsj
  refine ⟨hl, by rw [hsj, h3], h2, ?_⟩
  rw [he, apply_least ha hb, h3]
theorem next_back {l : List Int} {k : Int} (hk : k ≠ 1024) : next (next l k) 1024 = l := by
  unfold next
  rw [if_neg hk, if_pos rfl]
  simp
/-- an undo stroke leads back -/
theorem press_back {d : Dic} {t : Tr} {k : Int} (h : (press d t k).2 = true) (hk : k ≠ 1024) :
    press d (press d t k).1.1 1024 = ((t, least (press d t k).1.1.2 t.2), true) := by
  obtain ⟨h1, h2, h3, h4⟩ := press_ok h
  have ht := press_trans h
  obtain ⟨t1, t2, _⟩ := trans_parts h1
  rw [h4] at ht ⊢
  unfold press
  rw [ht, show stroke 1024 = true by decide, if_pos (by rfl)]
  unfold pressP
  simp only
  rw [next_back hk, t1, t2, if_pos rfl]
theorem press_undo {d : Dic} {t : Tr} (h : (press d t 1024).2 = true) : (press d t 1024).1.1.1.length = t.1.length - 1 ∧ (t.1 = [] → (press d t 1024).1.1 = t) := by
  obtain ⟨h1, _, _, h4⟩ := press_ok h
  obtain ⟨_, t2, _⟩ := trans_parts h1
  rw [h4]
  refine ⟨?_, fun he => ?_⟩
  · show (next t.1 1024).length = _
    unfold next
    rw [if_pos rfl, List.length_take]
    omega
  · show (next t.1 1024, (scr d (next t.1 1024)).1) = t
    have : next t.1 1024 = t.1 := by unfold next; rw [if_pos rfl, he]; rfl
    rw [this, t2]
end Go.Proofs.YtmlklnimoknojaaGreatDoor.P
