/- Plain: what appending and a crash leave behind. -/
import Derived.Test.YtbjfpceoamiaoaaDoorPlainRvr
import Derived.Test.YtbjfpceoamiaoaaDoorRecs
namespace Go.Proofs.YtbjfpceoamiaoaaDoor
namespace P
theorem app_not {d p : Bs} {n : Int} {c r : Bs} (h : (appS d p n c r).2.2 ≠ 0) : (appS d p n c r).1 = p ∧ (appS d p n c r).2.1 = n := by
  unfold appS at h ⊢
  split
  · exact ⟨rfl, rfl⟩
  · rename_i h1
    rw [if_neg h1] at h
    split
    · exact ⟨rfl, rfl⟩
    · rename_i h2
      rw [if_neg h2] at h
      exact absurd rfl h
theorem app_co (d p : Bs) (n : Int) (c r : Bs) : 0 ≤ (appS d p n c r).2.2 ∧ (appS d p n c r).2.2 ≤ 2 := by
  unfold appS
  split
  · exact (by decide : (0 : Int) ≤ 1 ∧ (1 : Int) ≤ 2)
  · split
    · exact (by decide : (0 : Int) ≤ 2 ∧ (2 : Int) ≤ 2)
    · exact (by decide : (0 : Int) ≤ 0 ∧ (0 : Int) ≤ 2)
theorem pos_short (s : Bs) : ∀ (n : Nat) (st : RSt), st.2.2 ≤ s.length → (runI s n st).2.2 ≤ st.2.2 + ((runI s n st).1.length - st.1.length) * 334
  | 0, st, _ => by simp [runI]
  | n + 1, st, hs => by
    cases hd : (decode st.1.length (s.drop st.2.2)).2.2
    · rw [runI_no hd]; omega
    · rw [runI_yes hd]
      have ih := pos_short s n (nx s st) (nx_le hs hd)
      obtain ⟨⟨l, hl⟩, _⟩ := runI_ge s n (nx s st)
      have e1 : (nx s st).1.length = st.1.length + 1 := by simp [nx]
      have e2 : (runI s n (nx s st)).1.length = st.1.length + 1 + l.length := by rw [hl, List.length_append, e1]
      obtain ⟨hk, g, tail, e⟩ := decode_inv hd
      have hdo := decode_of tail hk g
      rw [← e] at hdo
      have hn : (decode st.1.length (s.drop st.2.2)).2.1 = (line st.1.length (decode st.1.length (s.drop st.2.2)).1.1 (decode st.1.length (s.drop st.2.2)).1.2).length := congrArg (fun z => z.2.1) hdo
      have hle := (line_len hk g).1
      have e3 : (nx s st).2.2 = st.2.2 + (decode st.1.length (s.drop st.2.2)).2.1 := rfl
      rw [e1] at ih
      omega
/-- an appended record follows the others, and the log is recovered whole -/
theorem app_law {d p : Bs} {n : Int} {c r : Bs} (h : (appS d p n c r).2.2 = 0) :
    validLog d p n = true ∧ validLog d (appS d p n c r).1 (appS d p n c r).2.1 = true ∧ recsI d (appS d p n c r).1 (appS d p n c r).2.1 = recsI d p n ++ [(c, r)] ∧
    (appS d p n c r).2.1 = ((recsI d p n).length : Int) + 1 ∧
    recover (d ++ (appS d p n c r).1) = (d ++ (appS d p n c r).1, (appS d p n c r).2.1, ((d ++ (appS d p n c r).1).length : Int), true) ∧
    syncI d (appS d p n c r).1 (appS d p n c r).2.1 = (d ++ (appS d p n c r).1, (appS d p n c r).2.1, true) := by
  unfold appS at h ⊢
  split at h
  · exact absurd (show (1 : Int) = 0 from h) (by decide)
  · rename_i h1
    rw [if_neg h1]
    split at h
    · exact absurd (show (2 : Int) = 0 from h) (by decide)
    · rename_i h2
      rw [if_neg h2]
      clear h
      have hv : validLog d p n = true := by
        cases hv : validLog d p n
        · rw [hv] at h1; exact absurd rfl h1
        · rfl
      have hg : good c r = true := by
        cases hg : good c r
        · rw [hv, hg] at h1; exact absurd rfl h1
        · rfl
      have hn60 : n ≠ 60 := by simpa using h2
      clear h1 h2
      obtain ⟨hn0, hn1, hlen⟩ := valid_n hv
      have hv' := hv
      unfold validLog at hv'
      simp only [Bool.and_eq_true, decide_eq_true_eq, beq_iff_eq] at hv'
      obtain ⟨_, hend, hdend, hcnt⟩ := hv'
      have ho := openLog_eq (d ++ p)
      obtain ⟨k, rfl⟩ := Int.eq_ofNat_of_zero_le hn0
      generalize hR : readAll (d ++ p) = R at *
      obtain ⟨old, ends, e⟩ := R
      rw [ho] at hend hcnt
      simp only at hend hcnt
      have hek : old.length = k := by omega
      have hee : e = (d ++ p).length := by rw [List.length_append]; omega
      rw [hee] at hR
      obtain ⟨ends', h3⟩ := app_read hR (by omega) hg
      rw [hek] at h3
      have hps := pos_short (d ++ p) 60 ([], [], 0) (Nat.zero_le _)
      rw [show runI (d ++ p) 60 ([], [], 0) = (old, ends, (d ++ p).length) from hR] at hps
      simp only [List.length_nil] at hps
      have hl := (line_len (k := k) (by omega) hg).1
      simp only [Int.toNat_natCast]
      have ha : d ++ (p ++ line k c r) = d ++ p ++ line k c r := (List.append_assoc _ _ _).symm
      have hsz : (d ++ p ++ line k c r).length ≤ 30000 := by rw [List.length_append]; omega
      have ho2 := openLog_eq (d ++ p ++ line k c r)
      rw [h3] at ho2
      have hvd : validLog d (p ++ line k c r) ((k : Int) + 1) = true := by
        unfold validLog
        rw [ha, ho2]
        simp only [Bool.and_eq_true, decide_eq_true_eq, beq_iff_eq, List.length_append, List.length_cons, List.length_nil]
        simp only [List.length_append] at hsz
        refine ⟨by omega, by omega, by omega, by omega⟩
      refine ⟨hv, hvd, ?_, ?_, ?_, ?_⟩
      · unfold recsI
        rw [records_valid, hvd, records_valid, hv, ha, h3, hR]; rfl
      · unfold recsI
        rw [records_valid, hv, hR]
        show (k : Int) + 1 = (old.length : Int) + 1
        omega
      · rw [ha]
        unfold recover
        rw [if_pos hsz, ho2]
        show (List.take (d ++ p ++ line k c r).length (d ++ p ++ line k c r), (((old ++ [(c, r)]).length : Nat) : Int), (((d ++ p ++ line k c r).length : Nat) : Int), true) = _
        rw [List.take_length, show (old ++ [(c, r)]).length = k + 1 by rw [List.length_append, hek]; rfl]
        rfl
      · rw [sync_eq]; unfold syncLog; rw [if_pos hvd]
theorem crash_not {d p : Bs} {n keep : Int} {t : Bool} (h : (crashLog d p n keep t).2 = false) : (crashLog d p n keep t).1 = [] := by
  unfold crashLog at h ⊢
  split at h
  · cases h
  · rename_i h1; rw [if_neg h1]
theorem torn_shape (l : Bs) (t : Bool) : torn l t = l ∨ ∃ q b, l = q ++ [b] ∧ torn l t = q ++ [255 - b] := by
  unfold torn
  split
  · rename_i h
    rw [Bool.and_eq_true] at h
    have hne : l ≠ [] := by intro e; rw [e] at h; exact absurd h.2 (by decide)
    right
    obtain ⟨q, b, rfl⟩ : ∃ q b, l = q ++ [b] := ⟨l.dropLast, l.getLast hne, (List.dropLast_concat_getLast hne).symm⟩
    refine ⟨q, b, rfl, ?_⟩
    simp
  · exact .inl rfl
/-- what recovery finds behind a crash -/
theorem crash_law {d p : Bs} {n keep : Int} {t : Bool} (h : (crashLog d p n keep t).2 = true) :
    validLog d p n = true ∧ (crashLog d p n keep t).1.length ≤ 30000 ∧ d.length ≤ (openLog (crashLog d p n keep t).1).2 ∧ ∃ l, recsS d p n = (openLog (crashLog d p n keep t).1).1 ++ l := by
  unfold crashLog at h ⊢
  split at h
  · rename_i hc
    rw [if_pos hc]
    rw [Bool.and_eq_true, decide_eq_true_eq] at hc
    obtain ⟨hv, hk0, hk1⟩ := hc
    have hv' := hv
    unfold validLog at hv'
    simp only [Bool.and_eq_true, decide_eq_true_eq, beq_iff_eq] at hv'
    obtain ⟨hlen, hend, hdend, hcnt⟩ := hv'
    have hrec : recsS d p n = (readAll (d ++ p)).1 := by unfold recsS; rw [hv, openLog_eq]; rfl
    rw [openLog_eq] at hdend hend
    simp only at hdend hend
    have hde : (readAll d).2.2 = d.length := by omega
    have hpe : (readAll (d ++ p)).2.2 = (d ++ p).length := by rw [List.length_append]; omega
    have hbytes : ∀ b ∈ d ++ p, b.toNat ≤ 126 := by
      have := runI_bytes (d ++ p) 60 ([], [], 0) (Nat.zero_le _) (by intro b hb; simp at hb)
      rw [show (runI (d ++ p) 60 ([], [], 0)).2.2 = (d ++ p).length from hpe, List.take_length] at this
      exact this
    -- a prefix of the log, without the torn byte
    have key : ∀ q x : Bs, p = q ++ x → d.length ≤ (openLog (d ++ q)).2 ∧ ∃ l, recsS d p n = (openLog (d ++ q)).1 ++ l := by
      intro q x hq
      have g1 := (runI_grow d q 60 ([], [], 0) (Nat.zero_le _)).2
      have g2 := (runI_grow (d ++ q) x 60 ([], [], 0) (Nat.zero_le _)).1
      rw [openLog_eq, hrec, hq]
      rw [List.append_assoc] at g2
      refine ⟨?_, g2⟩
      show d.length ≤ (readAll (d ++ q)).2.2
      rw [← hde]; exact g1
    obtain ⟨l, hl⟩ : ∃ l, l = p.take keep.toNat := ⟨_, rfl⟩
    have hp : p = l ++ p.drop keep.toNat := by rw [hl, List.take_append_drop]
    have hll : l.length ≤ p.length := by rw [hl, List.length_take]; omega
    rw [← hl]
    simp only
    rcases torn_shape l t with h1 | ⟨q, b, h1, h2⟩
    · rw [h1]
      obtain ⟨k1, k2⟩ := key l _ hp
      exact ⟨hv, by rw [List.length_append]; omega, k1, k2⟩
    · rw [h2]
      have hb : b.toNat ≤ 126 := hbytes b (by rw [hp, h1]; simp)
      have hz : (255 - b) ≠ 10 := by
        intro e
        have e2 := congrArg UInt8.toNat e
        rw [UInt8.toNat_sub] at e2
        rw [show (255 : UInt8).toNat = 255 from rfl, show (10 : UInt8).toNat = 10 from rfl] at e2
        omega
      have hr : readAll (d ++ (q ++ [255 - b])) = readAll (d ++ q) := by
        rw [← List.append_assoc]
        exact runI_nonl (d ++ q) (255 - b) hz 60 ([], [], 0) (Nat.zero_le _)
      have ho : openLog (d ++ (q ++ [255 - b])) = openLog (d ++ q) := by rw [openLog_eq, openLog_eq, hr]
      obtain ⟨k1, k2⟩ := key q ([b] ++ p.drop keep.toNat) (by rw [← List.append_assoc, ← h1]; exact hp)
      rw [ho]
      refine ⟨hv, ?_, k1, k2⟩
      have e1 : l.length = q.length + 1 := by rw [h1, List.length_append]; rfl
      have e2 : (d ++ (q ++ [255 - b])).length = d.length + (q.length + 1) := by rw [List.length_append, List.length_append]; rfl
      show (d ++ (q ++ [255 - b])).length ≤ 30000
      omega
  · cases h
end P
end Go.Proofs.YtbjfpceoamiaoaaDoor
