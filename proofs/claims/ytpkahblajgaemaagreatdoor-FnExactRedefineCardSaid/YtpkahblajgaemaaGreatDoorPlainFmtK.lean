/- Plain: the notation of a stroke; the word that stands for a stroke without a translation. -/
import Derived.Test.YtpkahblajgaemaaGreatDoorPlainSpell
import Derived.Test.YtpkahblajgaemaaGreatDoorPlainFmt
namespace Go.Proofs.YtpkahblajgaemaaGreatDoor.P
def labels : Bs := [35, 83, 84, 75, 80, 87, 72, 82, 65, 79, 42, 69, 85, 70, 82, 80, 66, 76, 71, 84, 83, 68, 90]
def lab (k : Nat) : UInt8 := labels.getD k 0
def keysN (s : Int) (n : Nat) : List Nat := (List.range n).filter (fun k => hasK s (k : Int))
def keys (s : Int) : List Nat := keysN s 23
def isMid (k : Nat) : Bool := decide (8 ≤ k ∧ k ≤ 12)
def midK (s : Int) : Bool := (keys s).any isMid
def fmtL : Bool → List Nat → Bs
  | _, [] => []
  | m, k :: l => if decide (13 ≤ k) && !m then 45 :: lab k :: fmtL true l else lab k :: fmtL m l
def fmtM : Bool → Bool → List Nat → Bs
  | _, _, [] => []
  | m, h, k :: l => if decide (12 < k) && (!(m || isMid k) && !h) then 45 :: lab k :: fmtM (m || isMid k) true l else lab k :: fmtM (m || isMid k) h l
def fmt (s : Int) : Bs := fmtL (midK s) (keys s)
theorem fmtM_high : ∀ (l : List Nat) (m h : Bool), (∀ k ∈ l, 13 ≤ k) → fmtM m h l = fmtL (m || h) l
  | [], _, _, _ => rfl
  | k :: l, m, h, hk => by
    have h1 : isMid k = false := by unfold isMid; have := hk k (by simp); exact decide_eq_false (by omega)
    have h2 : decide (12 < k) = true := by have := hk k (by simp); exact decide_eq_true (by omega)
    have h3 : decide (13 ≤ k) = true := by have := hk k (by simp); exact decide_eq_true (by omega)
    have ih := fmtM_high l
    unfold fmtM fmtL
    rw [h1, h2, h3, Bool.or_false, Bool.true_and, Bool.true_and]
    cases m <;> cases h <;> simp [ih _ _ (fun k hk' => hk k (by simp [hk']))]
theorem fmtM_low : ∀ (l r : List Nat) (m h : Bool), (∀ k ∈ l, k ≤ 12) → fmtM m h (l ++ r) = l.map lab ++ fmtM (m || l.any isMid) h r
  | [], r, m, h, _ => by simp
  | k :: l, r, m, h, hk => by
    have h2 : decide (12 < k) = false := by have := hk k (by simp); exact decide_eq_false (by omega)
    rw [List.cons_append]
    conv => lhs; unfold fmtM
    rw [h2, Bool.false_and, if_neg (by decide), fmtM_low l r _ h (fun k hk' => hk k (by simp [hk']))]
    simp [Bool.or_assoc]
theorem fmtL_low : ∀ (l r : List Nat) (m : Bool), (∀ k ∈ l, k ≤ 12) → fmtL m (l ++ r) = l.map lab ++ fmtL m r
  | [], r, m, _ => by simp
  | k :: l, r, m, hk => by
    have h2 : decide (13 ≤ k) = false := by have := hk k (by simp); exact decide_eq_false (by omega)
    rw [List.cons_append]
    conv => lhs; unfold fmtL
    rw [h2, Bool.false_and, if_neg (by decide), fmtL_low l r _ (fun k hk' => hk k (by simp [hk']))]
    rfl
def keysHi (s : Int) : List Nat := ((List.range 10).map (13 + ·)).filter (fun k => hasK s (k : Int))
theorem keys_split (s : Int) : keys s = keysN s 13 ++ keysHi s := by
  unfold keys keysN keysHi
  rw [← List.filter_append]
  congr 1
theorem keysN_lt {s : Int} {n k : Nat} (h : k ∈ keysN s n) : k < n := by
  unfold keysN at h
  rw [List.mem_filter, List.mem_range] at h
  exact h.1
theorem keysHi_ge {s : Int} {k : Nat} (h : k ∈ keysHi s) : 13 ≤ k := by
  unfold keysHi at h
  rw [List.mem_filter, List.mem_map] at h
  obtain ⟨⟨j, _, rfl⟩, _⟩ := h
  omega
theorem mid_split (s : Int) : midK s = (keysN s 13).any isMid := by
  unfold midK
  rw [keys_split, List.any_append]
  have : (keysHi s).any isMid = false := List.any_eq_false.2 fun k hk => by
    have := keysHi_ge hk
    unfold isMid
    simp
    omega
  rw [this, Bool.or_false]
theorem fmt_eq (s : Int) : fmtM false false (keys s) = fmt s := by
  unfold fmt
  rw [mid_split, keys_split, fmtM_low _ _ _ _ (fun k hk => by have := keysN_lt hk; omega), fmtL_low _ _ _ (fun k hk => by have := keysN_lt hk; omega), fmtM_high _ _ _ (fun k hk => keysHi_ge hk)]
  simp
theorem lab_hash {k : Nat} (h1 : 1 ≤ k) : lab k ≠ 35 := by
  by_cases hk : k < 23
  · have : ∀ j < 23, 1 ≤ j → lab j ≠ 35 := by decide
    exact this k hk h1
  · unfold lab
    rw [List.getD_eq_getElem?_getD, List.getElem?_eq_none (by simp [labels]; omega)]
    decide
theorem fmtL_hash : ∀ (l : List Nat) (m : Bool), (∀ k ∈ l, 1 ≤ k) → ∀ b ∈ fmtL m l, b ≠ 35
  | [], _, _ => by simp [fmtL]
  | k :: l, m, h => by
    have ih := fun m => fmtL_hash l m (fun k hk => h k (by simp [hk]))
    have h1 := lab_hash (h k (by simp))
    intro b hb
    unfold fmtL at hb
    split at hb
    · rcases List.mem_cons.1 hb with rfl | hb
      · decide
      rcases List.mem_cons.1 hb with rfl | hb
      · exact h1
      · exact ih _ b hb
    · rcases List.mem_cons.1 hb with rfl | hb
      · exact h1
      · exact ih _ b hb
theorem range_cons (n : Nat) : List.range (n + 1) = 0 :: (List.range n).map (1 + ·) := by
  rw [List.range_succ_eq_map]
  congr 1
  exact List.map_congr_left fun k _ => by omega
theorem keys_head (s : Int) : ∃ t : List Nat, (∀ k ∈ t, 1 ≤ k) ∧ (keys s = t ∨ keys s = 0 :: t) := by
  refine ⟨((List.range 22).map (1 + ·)).filter (fun k => hasK s (k : Int)), fun k hk => ?_, ?_⟩
  · rw [List.mem_filter, List.mem_map] at hk
    obtain ⟨⟨j, _, rfl⟩, _⟩ := hk
    omega
  · unfold keys keysN
    rw [range_cons 22, List.filter_cons]
    split
    · exact .inr rfl
    · exact .inl rfl
def hash (b : UInt8) : UInt8 := if b = 35 then 61 else b
def raw (s : Int) : Bs := (fmt s).map hash
theorem map_hash {l : Bs} (h : ∀ b ∈ l, b ≠ 35) : l.map hash = l := by
  conv => rhs; rw [← List.map_id l]
  exact List.map_congr_left fun b hb => by unfold hash; rw [if_neg (h b hb)]; rfl
theorem raw_head (s : Int) : (∀ t, fmt s = 35 :: t → raw s = 61 :: t) ∧ ((∀ t, fmt s ≠ 35 :: t) → raw s = fmt s) := by
  obtain ⟨t, ht, h⟩ := keys_head s
  have hl := fun m => fmtL_hash t m ht
  rcases h with h | h
  · have hf : fmt s = fmtL (midK s) t := by unfold fmt; rw [h]
    constructor
    · intro u hu
      exact absurd rfl (hl (midK s) 35 (by rw [← hf, hu]; simp))
    · intro _
      unfold raw
      rw [hf, map_hash (hl _)]
  · have hf : fmt s = 35 :: fmtL (midK s) t := by
      unfold fmt
      rw [h]
      conv => lhs; unfold fmtL
      rfl
    constructor
    · intro u hu
      rw [hf] at hu
      injection hu with _ hu
      subst hu
      unfold raw
      rw [hf, List.map_cons, map_hash (hl _)]
      rfl
    · intro hn
      exact absurd hf (hn _)
theorem fmtL_len : ∀ (l : List Nat) (m : Bool), (fmtL m l).length ≤ 2 * l.length ∧ (l ≠ [] → fmtL m l ≠ [])
  | [], _ => by simp [fmtL]
  | k :: l, m => by
    have ih := fun m => (fmtL_len l m).1
    unfold fmtL
    split
    · refine ⟨?_, by simp⟩
      have := ih true
      simp only [List.length_cons]; omega
    · refine ⟨?_, by simp⟩
      have := ih m
      simp only [List.length_cons]; omega
theorem keys_len (s : Int) : (keys s).length ≤ 23 := by
  unfold keys keysN
  exact Nat.le_trans (List.length_filter_le _ _) (by simp)
theorem fmt_len (s : Int) : (fmt s).length ≤ 46 := by
  have h1 := (fmtL_len (keys s) (midK s)).1
  have h2 := keys_len s
  unfold fmt
  omega
theorem raw_len (s : Int) : (raw s).length ≤ 46 := by unfold raw; rw [List.length_map]; exact fmt_len s
theorem keys_ne {s : Int} (h : stroke s = true) : keys s ≠ [] := by
  unfold stroke at h
  simp only [decide_eq_true_eq] at h
  obtain ⟨n, rfl⟩ := Int.eq_ofNat_of_zero_le (show 0 ≤ s by omega)
  intro hk
  have hz : ∀ j, j < 23 → n.testBit j = false := fun j hj => by
    cases hb : n.testBit j with
    | false => rfl
    | true =>
      have : j ∈ keys (n : Int) := by
        unfold keys keysN
        rw [List.mem_filter, List.mem_range]
        exact ⟨hj, by unfold hasK; simpa using hb⟩
      rw [hk] at this
      cases this
  have : n = 0 := Nat.eq_of_testBit_eq fun j => by
    rw [Nat.zero_testBit]
    by_cases hj : j < 23
    · exact hz j hj
    · exact Nat.testBit_lt_two_pow (Nat.lt_of_lt_of_le (show n < 2 ^ 23 by omega) (Nat.pow_le_pow_right (by decide) (by omega)))
  omega
theorem fmt_ne {s : Int} (h : stroke s = true) : fmt s ≠ [] := (fmtL_len (keys s) (midK s)).2 (keys_ne h)
theorem mid_bits (n : Nat) : midK (n : Int) = decide (n / 256 % 32 ≠ 0) := by
  rw [mid_split]
  have hb : ∀ j : Nat, hasK (n : Int) (j : Int) = decide (n / 2 ^ j % 2 = 1) := fun j => by
    unfold hasK
    rw [Int.toNat_natCast, Int.toNat_natCast, Nat.testBit_eq_decide_div_mod_eq]
  unfold keysN
  rw [List.any_filter]
  have he : (List.range 13).any (fun k => hasK (n : Int) (k : Int) && isMid k) = (hasK (n : Int) (8 : Nat) || (hasK (n : Int) (9 : Nat) || (hasK (n : Int) (10 : Nat) || (hasK (n : Int) (11 : Nat) || hasK (n : Int) (12 : Nat))))) := by
    simp only [List.range, List.range.loop, List.any_cons, List.any_nil, show isMid 0 = false from rfl, show isMid 1 = false from rfl, show isMid 2 = false from rfl, show isMid 3 = false from rfl, show isMid 4 = false from rfl, show isMid 5 = false from rfl, show isMid 6 = false from rfl, show isMid 7 = false from rfl, show isMid 8 = true from rfl, show isMid 9 = true from rfl, show isMid 10 = true from rfl, show isMid 11 = true from rfl, show isMid 12 = true from rfl, Bool.and_false, Bool.and_true, Bool.false_or, Bool.or_false]
  rw [he, hb, hb, hb, hb, hb, Bool.eq_iff_iff]
  simp only [Bool.or_eq_true, decide_eq_true_eq]
  omega
end Go.Proofs.YtpkahblajgaemaaGreatDoor.P
