/- Plain: recovery of a log from its bytes, and what it says of appending and of crashes. -/
import Derived.Test.YtbjfpceoamiaoaaDoorApp
namespace Go.Proofs.YtbjfpceoamiaoaaDoor
namespace P
def nx (s : Bs) (st : RSt) : RSt := (st.1 ++ [(decode st.1.length (s.drop st.2.2)).1], st.2.1 ++ [((st.2.2 + (decode st.1.length (s.drop st.2.2)).2.1 : Nat) : Int)], st.2.2 + (decode st.1.length (s.drop st.2.2)).2.1)
theorem runI_yes {s : Bs} {st : RSt} (h : (decode st.1.length (s.drop st.2.2)).2.2 = true) (n : Nat) : runI s (n + 1) st = runI s n (nx s st) := runI_some (stepI_go h) n
theorem runI_no {s : Bs} {st : RSt} (h : (decode st.1.length (s.drop st.2.2)).2.2 = false) (n : Nat) : runI s n st = st := runI_none (stepI_stop h) n
theorem nx_le {s : Bs} {st : RSt} (hs : st.2.2 ≤ s.length) (h : (decode st.1.length (s.drop st.2.2)).2.2 = true) : (nx s st).2.2 ≤ s.length := by
  have h3 := (decode_ok _ _ h).2.2
  rw [List.length_drop] at h3
  show st.2.2 + (decode st.1.length (s.drop st.2.2)).2.1 ≤ s.length
  omega
theorem runI_le (s : Bs) : ∀ (n : Nat) (st : RSt), st.2.2 ≤ s.length → (runI s n st).2.2 ≤ s.length
  | 0, _, h => h
  | n + 1, st, h => by
    cases hd : (decode st.1.length (s.drop st.2.2)).2.2
    · rw [runI_no hd]; exact h
    · rw [runI_yes hd]; exact runI_le s n _ (nx_le h hd)
theorem runI_ge (s : Bs) : ∀ (n : Nat) (st : RSt), (∃ l, (runI s n st).1 = st.1 ++ l) ∧ st.2.2 ≤ (runI s n st).2.2
  | 0, _ => ⟨⟨[], (List.append_nil _).symm⟩, Nat.le_refl _⟩
  | n + 1, st => by
    cases hd : (decode st.1.length (s.drop st.2.2)).2.2
    · rw [runI_no hd]; exact ⟨⟨[], (List.append_nil _).symm⟩, Nat.le_refl _⟩
    · rw [runI_yes hd]
      obtain ⟨⟨l, h1⟩, h2⟩ := runI_ge s n (nx s st)
      refine ⟨⟨(decode st.1.length (s.drop st.2.2)).1 :: l, by rw [h1]; simp [nx]⟩, Nat.le_trans ?_ h2⟩
      show st.2.2 ≤ st.2.2 + (decode st.1.length (s.drop st.2.2)).2.1
      omega
theorem nx_app {t x : Bs} {st : RSt} (hs : st.2.2 ≤ t.length) (h : (decode st.1.length (t.drop st.2.2)).2.2 = true) : (decode st.1.length ((t ++ x).drop st.2.2)).2.2 = true ∧ nx (t ++ x) st = nx t st := by
  have h1 := (decode_prefix (k := st.1.length) (p := x) hs).1 h
  exact ⟨by rw [h1]; exact h, by unfold nx; rw [h1]⟩
theorem runI_grow (t x : Bs) : ∀ (n : Nat) (st : RSt), st.2.2 ≤ t.length → (∃ l, (runI (t ++ x) n st).1 = (runI t n st).1 ++ l) ∧ (runI t n st).2.2 ≤ (runI (t ++ x) n st).2.2
  | 0, _, _ => ⟨⟨[], (List.append_nil _).symm⟩, Nat.le_refl _⟩
  | n + 1, st, hs => by
    cases hd : (decode st.1.length (t.drop st.2.2)).2.2
    · rw [runI_no hd]; exact runI_ge (t ++ x) (n + 1) st
    · obtain ⟨h1, h2⟩ := nx_app (x := x) hs hd
      rw [runI_yes hd, runI_yes h1, h2]
      exact runI_grow t x n _ (nx_le hs hd)
theorem runI_cut (d p : Bs) : ∀ (n : Nat) (st : RSt), st.2.2 ≤ d.length → (runI (d ++ p) n st).2.2 ≤ d.length → runI d n st = runI (d ++ p) n st
  | 0, _, _, _ => rfl
  | n + 1, st, hs, he => by
    obtain ⟨p1, p2⟩ := decode_prefix (k := st.1.length) (p := p) hs
    cases hd : (decode st.1.length ((d ++ p).drop st.2.2)).2.2
    · have hd' : (decode st.1.length (d.drop st.2.2)).2.2 = false := by
        cases h : (decode st.1.length (d.drop st.2.2)).2.2
        · rfl
        · rw [p1 h, h] at hd; cases hd
      rw [runI_no hd, runI_no hd']
    · rw [runI_yes hd] at he ⊢
      have h1 := (runI_ge (d ++ p) n (nx (d ++ p) st)).2
      have h2 := p2 hd (Nat.le_trans h1 he)
      obtain ⟨_, h3⟩ := nx_app (x := p) hs h2
      rw [runI_yes h2]
      rw [h3] at he ⊢
      exact runI_cut d p n _ (nx_le hs h2) he
theorem runI_ext (t x : Bs) : ∀ (n : Nat) (st : RSt), st.2.2 ≤ t.length → (runI t n st).1.length < st.1.length + n → runI (t ++ x) n st = runI (t ++ x) (st.1.length + n - (runI t n st).1.length) (runI t n st)
  | 0, st, _, h => by exact absurd h (Nat.lt_irrefl _)
  | n + 1, st, hs, h => by
    cases hd : (decode st.1.length (t.drop st.2.2)).2.2
    · rw [runI_no hd, show st.1.length + (n + 1) - st.1.length = n + 1 by omega]
    · obtain ⟨h1, h2⟩ := nx_app (x := x) hs hd
      rw [runI_yes hd] at h ⊢
      rw [runI_yes h1, h2]
      have e : (nx t st).1.length = st.1.length + 1 := by simp [nx]
      rw [runI_ext t x n _ (nx_le hs hd) (by rw [e]; omega), e, show st.1.length + 1 + n = st.1.length + (n + 1) by omega]
theorem decode_nil (k : Nat) : (decode k []).2.2 = false := by
  cases h : (decode k []).2.2
  · rfl
  · have := decode_ok _ _ h
    simp at this
    omega
theorem app_read {t c r : Bs} {old : List (Bs × Bs)} {ends : List Int} (h : readAll t = (old, ends, t.length)) (hn : old.length ≤ 59) (hg : good c r = true) :
    ∃ ends', readAll (t ++ line old.length c r) = (old ++ [(c, r)], ends', (t ++ line old.length c r).length) := by
  have h1 := runI_ext t (line old.length c r) 60 ([], [], 0) (Nat.zero_le _) (by
    show (readAll t).1.length < _
    rw [h]; show old.length < 0 + 60; omega)
  rw [show runI t 60 ([], [], 0) = (old, ends, t.length) from h] at h1
  have h2 : readAll (t ++ line old.length c r) = runI (t ++ line old.length c r) (60 - old.length) (old, ends, t.length) := by
    unfold readAll
    rw [h1]
    rw [show (([], [], 0) : RSt).1.length + 60 - ((old, ends, t.length) : RSt).1.length = 60 - old.length by show 0 + 60 - old.length = _; omega]
  obtain ⟨m, hm⟩ : ∃ m, 60 - old.length = m + 1 := ⟨59 - old.length, by omega⟩
  have hd := decode_of [] hn hg
  rw [List.append_nil] at hd
  have h3 : decode old.length ((t ++ line old.length c r).drop t.length) = ((c, r), (line old.length c r).length, true) := by rw [List.drop_left, hd]
  rw [h2, hm, runI_yes (by show (decode old.length ((t ++ line old.length c r).drop t.length)).2.2 = true; rw [h3])]
  have hnx : nx (t ++ line old.length c r) (old, ends, t.length) = (old ++ [(c, r)], ends ++ [((t.length + (line old.length c r).length : Nat) : Int)], t.length + (line old.length c r).length) := by
    unfold nx
    simp only [h3]
  rw [hnx, runI_no (by
    show (decode (old ++ [(c, r)]).length ((t ++ line old.length c r).drop (t.length + (line old.length c r).length))).2.2 = false
    rw [← List.length_append, List.drop_length]
    exact decode_nil _)]
  exact ⟨_, by rw [List.length_append]⟩
theorem runI_nonl (u : Bs) (z : UInt8) (hz : z ≠ 10) : ∀ (n : Nat) (st : RSt), st.2.2 ≤ u.length → runI (u ++ [z]) n st = runI u n st
  | 0, _, _ => rfl
  | n + 1, st, hs => by
    obtain ⟨p1, p2⟩ := decode_prefix (k := st.1.length) (p := [z]) hs
    cases hd : (decode st.1.length (u.drop st.2.2)).2.2
    · have hd' : (decode st.1.length ((u ++ [z]).drop st.2.2)).2.2 = false := by
        cases h : (decode st.1.length ((u ++ [z]).drop st.2.2)).2.2
        · rfl
        · exfalso
          by_cases hle : st.2.2 + (decode st.1.length ((u ++ [z]).drop st.2.2)).2.1 ≤ u.length
          · rw [p2 h hle] at hd; cases hd
          · obtain ⟨hk, g, tail, e1⟩ := decode_inv h
            have hdo := decode_of tail hk g
            rw [← e1] at hdo
            have hn : (decode st.1.length ((u ++ [z]).drop st.2.2)).2.1 = (line st.1.length (decode st.1.length ((u ++ [z]).drop st.2.2)).1.1 (decode st.1.length ((u ++ [z]).drop st.2.2)).1.2).length := congrArg (fun z => z.2.1) hdo
            generalize hL : line st.1.length (decode st.1.length ((u ++ [z]).drop st.2.2)).1.1 (decode st.1.length ((u ++ [z]).drop st.2.2)).1.2 = L at *
            have e2 : (u ++ [z]).drop st.2.2 = u.drop st.2.2 ++ [z] := by rw [List.drop_append_of_le_length hs]
            rw [e2] at e1
            have hlen := congrArg List.length e1
            simp only [List.length_append, List.length_drop, List.length_cons, List.length_nil] at hlen
            have ht : tail = [] := List.eq_nil_of_length_eq_zero (by omega)
            rw [ht, List.append_nil, ← hL, line_body] at e1
            have := (List.append_inj' e1 rfl).2
            injection this with this
            exact hz this
      rw [runI_no hd, runI_no hd']
    · obtain ⟨h1, h2⟩ := nx_app (x := [z]) hs hd
      rw [runI_yes hd, runI_yes h1, h2]
      exact runI_nonl u z hz n _ (nx_le hs hd)
theorem line_byte {k : Nat} {c r : Bs} (h : good c r = true) : ∀ b ∈ line k c r, b.toNat ≤ 126 := by
  obtain ⟨_, _, _, hc, hr⟩ := good_parts h
  intro b hb
  rw [line_body] at hb
  unfold body at hb
  simp only [List.mem_append, List.mem_cons, List.not_mem_nil, or_false] at hb
  rcases hb with ((hb | rfl | hb | rfl | hb) | rfl | hb) | rfl
  · have := num_digits _ b hb; omega
  · decide
  · exact (hc b hb).2.1
  · decide
  · exact (hr b hb).2.1
  · decide
  · have := num_digits _ b hb; omega
  · decide
theorem runI_bytes (s : Bs) : ∀ (n : Nat) (st : RSt), st.2.2 ≤ s.length → (∀ b ∈ s.take st.2.2, b.toNat ≤ 126) → ∀ b ∈ s.take (runI s n st).2.2, b.toNat ≤ 126
  | 0, _, _, h => h
  | n + 1, st, hs, h => by
    cases hd : (decode st.1.length (s.drop st.2.2)).2.2
    · rw [runI_no hd]; exact h
    · rw [runI_yes hd]
      refine runI_bytes s n _ (nx_le hs hd) ?_
      obtain ⟨hk, g, tail, e1⟩ := decode_inv hd
      have hdo := decode_of tail hk g
      rw [← e1] at hdo
      have hn : (decode st.1.length (s.drop st.2.2)).2.1 = (line st.1.length (decode st.1.length (s.drop st.2.2)).1.1 (decode st.1.length (s.drop st.2.2)).1.2).length := congrArg (fun z => z.2.1) hdo
      show ∀ b ∈ s.take (st.2.2 + (decode st.1.length (s.drop st.2.2)).2.1), b.toNat ≤ 126
      rw [List.take_add, hn]
      have e2 : (s.drop st.2.2).take (line st.1.length (decode st.1.length (s.drop st.2.2)).1.1 (decode st.1.length (s.drop st.2.2)).1.2).length = line st.1.length (decode st.1.length (s.drop st.2.2)).1.1 (decode st.1.length (s.drop st.2.2)).1.2 := by
        have : ∀ L : Bs, s.drop st.2.2 = L ++ tail → (s.drop st.2.2).take L.length = L := by
          intro L h
          rw [h, List.take_left]
        exact this _ e1
      rw [e2]
      intro b hb
      rcases List.mem_append.1 hb with hb | hb
      · exact h b hb
      · exact line_byte g b hb
theorem openLog_le (s : Bs) : (openLog s).2 ≤ s.length ∧ (openLog s).1.length ≤ 60 := by
  rw [openLog_eq]
  exact ⟨runI_le s 60 ([], [], 0) (Nat.zero_le _), (readAll_len s).1⟩
def recover (s : Bs) : Bs × Int × Int × Bool :=
  if s.length ≤ 30000 then (s.take (openLog s).2, ((openLog s).1.length : Int), ((openLog s).2 : Int), true) else ([], 0, 0, false)
theorem recover_le (s : Bs) : (recover s).1.length ≤ 30000 := by
  unfold recover
  split
  · show (s.take (openLog s).2).length ≤ 30000
    rw [List.length_take]; omega
  · exact Nat.zero_le _
/-- what was read is read again -/
theorem read_take (s : Bs) : readAll (s.take (readAll s).2.2) = readAll s := by
  have hle : (readAll s).2.2 ≤ s.length := runI_le s 60 ([], [], 0) (Nat.zero_le _)
  have h := runI_cut (s.take (readAll s).2.2) (s.drop (readAll s).2.2) 60 ([], [], 0) (Nat.zero_le _) (by
    rw [List.take_append_drop, List.length_take]
    show (readAll s).2.2 ≤ _
    omega)
  rw [List.take_append_drop] at h
  exact h
theorem take_valid (s : Bs) (hs : s.length ≤ 30000) : validLog (s.take (openLog s).2) [] ((openLog s).1.length : Int) = true := by
  have h1 := read_take s
  have hle : (readAll s).2.2 ≤ s.length := runI_le s 60 ([], [], 0) (Nat.zero_le _)
  unfold validLog
  rw [openLog_eq s]
  simp only [List.append_nil]
  rw [openLog_eq, h1]
  have hm : (s.take (readAll s).2.2).length = (readAll s).2.2 := by rw [List.length_take]; omega
  simp only [hm, List.length_nil, Bool.and_eq_true, decide_eq_true_eq, beq_iff_eq]
  refine ⟨by omega, by omega, trivial, trivial⟩
/-- recovery's log is a fixed point -/
theorem recover_fix (s : Bs) (h : (recover s).2.2.2 = true) : validLog (recover s).1 [] (recover s).2.1 = true ∧ syncI (recover s).1 [] (recover s).2.1 = ((recover s).1, (recover s).2.1, true) := by
  have hv : validLog (recover s).1 [] (recover s).2.1 = true := by
    unfold recover at h ⊢
    split at h
    · rename_i hs; rw [if_pos hs]; exact take_valid s hs
    · cases h
  refine ⟨hv, ?_⟩
  rw [sync_eq]; unfold syncLog; rw [if_pos hv, List.append_nil]
/-- the reference's encoding of a record -/
def encS (k : Int) (c r : Bs) : Bs × Bool := if decide (0 ≤ k ∧ k ≤ 59) && good c r then (line k.toNat c r, true) else ([], false)
theorem enc_eq (k : Int) (c r : Bs) : encode k c r = encS k c r := by
  unfold encS
  cases h : decide (0 ≤ k ∧ k ≤ 59) && good c r
  · unfold encode; rw [vrec_good, h]; rfl
  · rw [Bool.and_eq_true, decide_eq_true_eq] at h
    obtain ⟨⟨h0, h1⟩, h2⟩ := h
    obtain ⟨m, rfl⟩ := Int.eq_ofNat_of_zero_le h0
    exact encode_good (by omega) h2
theorem enc_bad {k : Int} {c r : Bs} (h : (encS k c r).2 = false) : (encS k c r).1 = [] := by
  unfold encS at h ⊢
  split at h
  · cases h
  · rename_i hn; rw [if_neg hn]
theorem num_zero {k : Nat} (hk : k ≤ 59) (h : num k = num 0) : k = 0 := by
  unfold num at h
  rw [Go.Lib.decDigits_one (show 0 < 10 by decide)] at h
  by_cases h10 : k < 10
  · rw [Go.Lib.decDigits_one h10] at h
    injection h with h
    have h1 : ∀ k : Fin 10, UInt8.ofNat (48 + k) = UInt8.ofNat (48 + 0) → k = 0 := by decide
    exact congrArg Fin.val (h1 ⟨k, h10⟩ h)
  · exfalso
    rw [Go.Lib.decDigits, dif_neg h10, Go.Lib.decDigits_one (by omega)] at h
    have := congrArg List.length h
    simp at this
/-- a line is read at its own number alone -/
theorem line_first {k : Nat} {c r : Bs} (hk : k ≤ 59) (hg : good c r = true) : (recover (line k c r)).2.2.2 = true ∧ (0 < (recover (line k c r)).2.2.1 ↔ k = 0) ∧ (k = 0 → (recover (line k c r)).2.1 = 1) := by
  have hl := line_len hk hg
  have hs : (line k c r).length ≤ 30000 := by omega
  unfold recover
  rw [if_pos hs]
  refine ⟨rfl, ?_⟩
  rw [openLog_eq]
  by_cases h0 : k = 0
  · subst h0
    obtain ⟨ends, h1⟩ := app_read (t := []) (old := []) (ends := []) (c := c) (r := r) (by unfold readAll; rw [runI_no (decode_nil _)]; rfl) (by decide) hg
    rw [List.nil_append] at h1
    rw [show ([] : List (Bs × Bs)).length = 0 from rfl] at h1
    rw [h1]
    exact ⟨⟨fun _ => rfl, fun _ => by show (0 : Int) < ((line 0 c r).length : Int); omega⟩, fun _ => rfl⟩
  · have hd : (decode 0 (line k c r)).2.2 = false := by
      cases h : (decode 0 (line k c r)).2.2
      · rfl
      · exfalso
        obtain ⟨_, g, tail, e⟩ := decode_inv h
        have c1 : Go.Lib.cut (line k c r) [32] = (num k, (c ++ 62 :: r) ++ (35 :: num (sum (body k c r)) ++ [10]), true) := by
          rw [line_body]
          unfold body
          rw [show (num k ++ 32 :: (c ++ 62 :: r) ++ 35 :: num (sum (num k ++ 32 :: (c ++ 62 :: r)))) ++ [10] = num k ++ 32 :: ((c ++ 62 :: r) ++ (35 :: num (sum (num k ++ 32 :: (c ++ 62 :: r))) ++ [10])) by simp]
          exact cut_app 32 _ _ (num_no k 32 (by decide))
        rw [e] at c1
        generalize (decode 0 (line k c r)).1.1 = c' at *
        generalize (decode 0 (line k c r)).1.2 = r' at *
        have c2 : (Go.Lib.cut (line 0 c' r' ++ tail) [32]).1 = num 0 := by
          rw [line_body]
          unfold body
          rw [show (num 0 ++ 32 :: (c' ++ 62 :: r') ++ 35 :: num (sum (num 0 ++ 32 :: (c' ++ 62 :: r')))) ++ [10] ++ tail = num 0 ++ 32 :: ((c' ++ 62 :: r') ++ (35 :: num (sum (num 0 ++ 32 :: (c' ++ 62 :: r'))) ++ [10] ++ tail)) by simp]
          rw [cut_app 32 _ _ (num_no 0 32 (by decide))]
        rw [c1] at c2
        exact h0 (num_zero hk c2)
    have hr : readAll (line k c r) = ([], [], 0) := by unfold readAll; rw [runI_no (by exact hd)]
    rw [hr]
    exact ⟨⟨fun h => absurd (show (0 : Int) < ((0 : Nat) : Int) from h) (by decide), fun h => absurd h h0⟩, fun h => absurd h h0⟩
theorem enc_first {k : Int} {c r : Bs} (h : (encS k c r).2 = true) : (0 < (recover (encS k c r).1).2.2.1 ↔ k = 0) ∧ (k = 0 → (recover (encS k c r).1).2.1 = 1) := by
  unfold encS at h ⊢
  split at h
  · rename_i hc
    rw [if_pos hc]
    rw [Bool.and_eq_true, decide_eq_true_eq] at hc
    obtain ⟨⟨h0, h1⟩, h2⟩ := hc
    obtain ⟨m, rfl⟩ := Int.eq_ofNat_of_zero_le h0
    have := line_first (k := m) (by omega) h2
    simp only [Int.toNat_natCast]
    refine ⟨this.2.1.trans ?_, fun e => this.2.2 (by omega)⟩
    omega
  · cases h
theorem enc_len (k : Int) (c r : Bs) : (encS k c r).1.length ≤ 400 := by
  unfold encS
  split
  · rename_i hc
    rw [Bool.and_eq_true, decide_eq_true_eq] at hc
    have := (line_len (k := k.toNat) (by omega) hc.2).1
    show (line k.toNat c r).length ≤ 400
    omega
  · exact Nat.zero_le _
end P
end Go.Proofs.YtbjfpceoamiaoaaDoor
