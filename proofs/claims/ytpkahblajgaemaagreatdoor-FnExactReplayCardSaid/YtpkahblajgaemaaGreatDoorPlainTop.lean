/- Plain: what replays and undos lead through. -/
import Derived.Test.YtpkahblajgaemaaGreatDoorPlainScr2
namespace Go.Proofs.YtpkahblajgaemaaGreatDoor.P
theorem replayN_step {d : Dic} {st : List Int} {j : Nat} {es : List Edit} {t : Tr} (h : replayN d st (j + 1) = some (es, t)) :
    ∃ es0 t0, replayN d st j = some (es0, t0) ∧ (press d t0 (st.getD j 0)).2 = true ∧ es = es0 ++ [least t0.2 t.2] ∧ t = (press d t0 (st.getD j 0)).1.1 := by
  unfold replayN at h
  cases hr : replayN d st j with
  | none => rw [hr] at h; cases h
  | some r =>
    obtain ⟨es0, t0⟩ := r
    rw [hr] at h
    simp only [Option.bind_some] at h
    split at h
    · rename_i hp
      injection h with h
      injection h with h1 h2
      obtain ⟨_, _, _, h4⟩ := press_ok hp
      refine ⟨es0, t0, rfl, hp, ?_, h2.symm⟩
      rw [← h1, ← h2, h4]
    · cases h
theorem undoN_step {d : Dic} {t : Tr} {i : Nat} {es : List Edit} {s : Bs} (h : undoN d t (i + 1) = some (es, s)) :
    ∃ es0 s0, undoN d t i = some (es0, s0) ∧ (scr d (t.1.take (t.1.length - 1 - i))).2 = true ∧ s = (scr d (t.1.take (t.1.length - 1 - i))).1 ∧ es = es0 ++ [least s0 s] := by
  unfold undoN at h
  cases hr : undoN d t i with
  | none => rw [hr] at h; cases h
  | some r =>
    obtain ⟨es0, s0⟩ := r
    rw [hr] at h
    simp only [Option.bind_some] at h
    split at h
    · rename_i hp
      injection h with h
      injection h with h1 h2
      exact ⟨es0, s0, rfl, hp, h2.symm, by rw [← h1, ← h2]⟩
    · cases h
theorem undoN_len {d : Dic} {t : Tr} : ∀ {i : Nat} {es : List Edit} {s : Bs}, undoN d t i = some (es, s) → es.length = i
  | 0, es, s, h => by unfold undoN at h; injection h with h; injection h with h1 _; rw [← h1]; rfl
  | i + 1, es, s, h => by
    obtain ⟨es0, s0, h1, _, _, h4⟩ := undoN_step h
    rw [h4, List.length_append, undoN_len h1]; rfl
theorem undoN_screen {d : Dic} {t : Tr} (ht : screen t.2 = true) : ∀ {i : Nat} {es : List Edit} {s : Bs}, undoN d t i = some (es, s) → screen s = true
  | 0, es, s, h => by unfold undoN at h; injection h with h; injection h with _ h2; rw [← h2]; exact ht
  | i + 1, es, s, h => by
    obtain ⟨_, _, _, _, h3, _⟩ := undoN_step h
    rw [h3]; exact scr_screen _ _
end Go.Proofs.YtpkahblajgaemaaGreatDoor.P
