/- Plain: the notation of a stroke; the word that stands for a stroke without a translation. -/
import Derived.Test.YtmlklnimoknojaaGreatDoorPlainFmt
import Derived.Test.YtmlklnimoknojaaGreatDoorLayB
namespace Go.Proofs.YtmlklnimoknojaaGreatDoor.P
def labels : Bs := [35, 83, 84, 75, 80, 87, 72, 82, 65, 79, 42, 69, 85, 70, 82, 80, 66, 76, 71, 84, 83, 68, 90]
def lab (k : Nat) : UInt8 := labels.getD k 0
def keysN (s : Int) (n : Nat) : List Nat := (List.range n).filter (fun k => hasK s (k : Int))
def keys (s : Int) : List Nat := keysN s 23
def isMid (k : Nat) : Bool := decide (8 ≤ k ∧ k ≤ 12)
def midK (s : Int) : Bool := (keys s).any isMid
/-- the program's: the hyphen stands ahead of the first right key if there is no middle key -/
def fmtL : Bool → List Nat → Bs
  | _, [] => []
  | m, k :: l => if decide (13 ≤ k) && !m then 45 :: lab k :: fmtL true l else lab k :: fmtL m l
/-- the reference's -/
def fmtM : Bool → Bool → List Nat → Bs
  | _, _, [] => []
  | m, h, k :: l => if decide (12 < k) && (!(m || isMid k) && !h) then 45 :: lab k :: fmtM (m || isMid k) true l else lab k :: fmtM (m || isMid k) h l
def fmt (s : Int) : Bs := fmtL (midK s) (keys s)
theorem fmtM_high : ∀ (l : List Nat) (m h : Bool), (∀ k ∈ l, 13 ≤ k) → fmtM m h l = fmtL (m || h) l
  | [], _, _, _ => rfl
  | k :: l, m, h, hk => by
    have h1 : isMid k = false := by unfold isMid; have := hk k (by simp); exact decide_eq_false (by omega)
    have h2 : decide (12 < k) = true := by have := hk k (by simp); exact decide_eq_true (by omega)
    have h3 : decide (13 ≤ k) = true := by have := hk k (by simp); exact decide_eq_true (by omega)
    have ih := fmtM_high l
    unfold fmtM fmtL
    rw [h1, h2, h3, Bool.or_false, Bool.true_and, Bool.true_and]
    cases m <;> cases h <;> simp [ih _ _ (fun k hk' => hk k (by simp [hk']))]
theorem fmtM_low : ∀ (l r : List Nat) (m h : Bool), (∀ k ∈ l, k ≤ 12) → fmtM m h (l ++ r) = l.map lab ++ fmtM (m || l.any isMid) h r
  | [], r, m, h, _ => by simp
  | k :: l, r, m, h, hk => by
    have h2 : decide (12 < k) = false := by have := hk k (by simp); exact decide_eq_false (by omega)
    rw [List.cons_append]
    conv => lhs; unfold fmtM
    rw [h2, Bool.false_and, if_neg (by decide), fmtM_low l r _ h (fun k hk' => hk k (by simp [hk']))]
    simp [Bool.or_assoc]
theorem fmtL_low : ∀ (l r : List Nat) (m : Bool), (∀ k ∈ l, k ≤ 12) → fmtL m (l ++ r) = l.map lab ++ fmtL m r
  | [], r, m, _ => by simp
  | k :: l, r, m, hk => by
    have h2 : decide (13 ≤ k) = false := by have := hk k (by simp); exact decide_eq_false (by omega)
    rw [List.cons_append]
    conv => lhs; unfold fmtL
    rw [h2, Bool.false_and, if_neg (by decide), fmtL_low l r _ (fun k hk' => hk k (by simp [hk']))]
    rfl
def keysHi (s : Int) : List Nat := ((List.range 10).map (13 + ·)).filter (fun k => hasK s (k : Int))
theorem keys_split (s : Int) : keys s = keysN s 13 ++ keysHi s := by
  unfold keys keysN keysHi
  rw [← List.filter_append]
  congr 1
theorem keysN_lt {s : Int} {n k : Nat} (h : k ∈ keysN s n) : k < n := by
  unfold keysN at h
  rw [List.mem_filter, List.mem_range] at h
  exact h.1
theorem keysHi_ge {s : Int} {k : Nat} (h : k ∈ keysHi s) : 13 ≤ k := by
  unfold keysHi at h
  rw [List.mem_filter, List.mem_map] at h
  obtain ⟨⟨j, _, rfl⟩, _⟩ := h
  omega
theorem mid_split (s : Int) : midK s = (keysN s 13).any isMid := by
  unfold midK
  rw [keys_split, List.any_append]
  have : (keysHi s).any isMid = false := List.any_eq_false.2 fun k hk => by
    have := keysHi_ge hk
    unfold isMid
    simp
    omega
  rw [this, Bool.or_false]
/-- the reference's notation is the program's -/
theorem fmt_eq (s : Int) : fmtM false false (keys s) = fmt s := by
  unfold fmt
  rw [mid_split, keys_split, fmtM_low _ _ _ _ (fun k hk => by have := keysN_lt hk; omega), fmtL_low _ _ _ (fun k hk => by have := keysN_lt hk; omega), fmtM_high _ _ _ (fun k hk => keysHi_ge hk)]
  simp
theorem lab_hash {k : Nat} (h1 : 1 ≤ k) : lab k ≠ 35 := by
  by_cases hk : k < 23
  · have : ∀ j < 23, 1 ≤ j → lab j ≠ 35 := by decide
    exact this k hk h1
  · unfold lab
    rw [List.getD_eq_getElem?_getD, List.getElem?_eq_none (by simp [labels]; omega)]
    decide
theorem fmtL_hash : ∀ (l : List Nat) (m : Bool), (∀ k ∈ l, 1 ≤ k) → ∀ b ∈ fmtL m l, b ≠ 35
  | [], _, _ => by simp [fmtL]
  | k :: l, m, h => by
    have ih := fun m => fmtL_hash l m (fun k hk => h k (by simp [hk]))
    have h1 := lab_hash (h k (by simp))
    intro b hb
    unfold fmtL at hb
    split at hb
    · rcases List.mem_cons.1 hb with rfl | hb
      · decide
      rcases List.mem_cons.1 hb with rfl | hb
      · exact h1
      · exact ih _ b hb
    · rcases List.mem_cons.1 hb with rfl | hb
      · exact h1
      · exact ih _ b hb
theorem range_cons (n : Nat) : List.range (n + 1) = 0 :: (List.range n).map (1 + ·) := by
  rw [List.range_succ_eq_map]
  congr 1
  exact List.map_congr_left fun k _ => by omega
theorem keys_head (s : Int) : ∃ t : List Nat, (∀ k ∈ t, 1 ≤ k) ∧ (keys s = t ∨ keys s = 0 :: t) := by
  refine ⟨((List.range 22).map (1 + ·)).filter (fun k => hasK s (k : Int)), fun k hk => ?_, ?_⟩
  · rw [List.mem_filter, List.mem_map] at hk
    obtain ⟨⟨j, _, rfl⟩, _⟩ := hk
    omega
  · unfold keys keysN
    rw [range_cons 22, List.filter_cons]
    split
    · exact .inr rfl
    · exact .inl rfl
def hash (b : UInt8) : UInt8 := if b = 35 then 61 else b
/-- the word that stands for a stroke without a translation -/
def raw (s : Int) : Bs := (fmt s).map hash
theorem map_hash {l : Bs} (h : ∀ b ∈ l, b ≠ 35) : l.map hash = l := by
  conv => rhs; rw [← List.map_id l]
  exact List.map_congr_left fun b hb => by unfold hash; rw [if_neg (h b hb)]; rfl
/-- the reference turns the first sign alone -/
theorem raw_head (s : Int) : (∀ t, fmt s = 35 :: t → raw s = 61 :: t) ∧ ((∀ t, fmt s ≠ 35 :: t) → raw s = fmt s) := by
  obtain ⟨t, ht, h⟩ := keys_head s
  have hl := fun m => fmtL_hash t m ht
  rcases h with h | h
  · have hf : fmt s = fmtL (midK s) t := by unfold fmt; rw [h]
    constructor
    · intro u hu
      exact absurd rfl (hl (midK s) 35 (by rw [← hf, hu]; simp))
    · intro _
      unfold raw
      rw [hf, map_hash (hl _)]
  · have hf : fmt s = 35 :: fmtL (midK s) t := by
      unfold fmt
      rw [h]
      conv => lhs; unfold fmtL
      rfl
    constructor
    · intro u hu
      rw [hf] at hu
      injection hu with _ hu
      subst hu
      unfold raw
      rw [hf, List.map_cons, map_hash (hl _)]
      rfl
    · intro hn
      exact absurd hf (hn _)
theorem fmtL_len : ∀ (l : List Nat) (m : Bool), (fmtL m l).length ≤ 2 * l.length ∧ (l ≠ [] → fmtL m l ≠ [])
  | [], _ => by simp [fmtL]
  | k :: l, m => by
    have ih := fun m => (fmtL_len l m).1
    unfold fmtL
    split
    · refine ⟨?_, by simp⟩
      have := ih true
      simp only [List.length_cons]; omega
    · refine ⟨?_, by simp⟩
      have := ih m
      simp only [List.length_cons]; omega
theorem keys_len (s : Int) : (keys s).length ≤ 23 := by
  unfold keys keysN
  exact Nat.le_trans (List.length_filter_le _ _) (by simp)
theorem fmt_len (s : Int) : (fmt s).length ≤ 46 := by
  have h1 := (fmtL_len (keys s) (midK s)).1
  have h2 := keys_len s
  unfold fmt
  omega
theorem raw_len (s : Int) : (raw s).length ≤ 46 := by unfold raw; rw [List.length_map]; exact fmt_len s
theorem keys_ne {s : Int} (h : stroke s = true) : keys s ≠ [] := by
  unfold stroke at h
  simp only [decide_eq_true_eq] at h
  obtain ⟨n, rfl⟩ := Int.eq_ofNat_of_zero_le (show 0 ≤ s by omega)
  intro hk
  have hz : ∀ j, j < 23 → n.testBit j = false := fun j hj => by
    cases hb : n.testBit j with
    | false => rfl
    | true =>
      have : j ∈ keys (n : Int) := by
        unfold keys keysN
        rw [List.mem_filter, List.mem_range]
        exact ⟨hj, by unfold hasK; simpa using hb⟩
      rw [hk] at this
      cases this
  have : n = 0 := Nat.eq_of_testBit_eq fun j => by
    rw [Nat.zero_testBit]
    by_cases hj : j < 23
    · exact hz j hj
    · exact Nat.testBit_lt_two_pow (Nat.lt_of_lt_of_le (show n < 2 ^ 23 by omega) (Nat.pow_le_pow_right (by decide) (by omega)))
  omega
theorem fmt_ne {s : Int} (h : stroke s = true) : fmt s ≠ [] := (fmtL_len (keys s) (midK s)).2 (keys_ne h)
/-- the middle keys of a stroke are the bits 8 to 12 -/
theorem mid_bits (n : Nat) : midK (n : Int) = decide (n / 256 % 32 ≠ 0) := by
  rw [mid_split]
  have hb : ∀ j : Nat, hasK (n : Int) (j : Int) = decide (n / 2 ^ j % 2 = 1) := fun j => by
    unfold hasK
    rw [Int.toNat_natCast, Int.toNat_natCast, Nat.testBit_eq_decide_div_mod_eq]
  unfold keysN
  rw [List.any_filter]
  have he : (List.range 13).any (fun k => hasK (n : Int) (k : Int) && isMid k) = (hasK (n : Int) (8 : Nat) || (hasK (n : Int) (9 : Nat) || (hasK (n : Int) (10 : Nat) || (hasK (n : Int) (11 : Nat) || hasK (n : Int) (12 : Nat))))) := by
    simp only [List.range, List.range.loop, List.any_cons, List.any_nil, show isMid 0 = false from rfl, show isMid 1 = false from rfl, show isMid 2 = false from rfl, show isMid 3 = false from rfl, show isMid 4 = false from rfl, show isMid 5 = false from rfl, show isMid 6 = false from rfl, show isMid 7 = false from rfl, show isMid 8 = true from rfl, show isMid 9 = true from rfl, show isMid 10 = true from rfl, show isMid 11 = true from rfl, show isMid 12 = true from rfl, Bool.and_false, Bool.and_true, Bool.false_or, Bool.or_false]
  rw [he, hb, hb, hb, hb, hb, Bool.eq_iff_iff]
  simp only [Bool.or_eq_true, decide_eq_true_eq]
  omega
end Go.Proofs.YtmlklnimoknojaaGreatDoor.P

namespace Go.Proofs.YtmlklnimoknojaaGreatDoor
namespace P
/-- a list of strokes -/
def slist (o : List Int) : Bool := decide (o.length ≤ 60) && o.all stroke
end P
end Go.Proofs.YtmlklnimoknojaaGreatDoor

namespace Go.Proofs.YtmlklnimoknojaaGreatDoor.P
abbrev Edit := Int × Bs
abbrev Tr := List Int × Bs
/-- the atoms of a piece -/
def pcAtoms (st : List Int) (p : Pc) : List (Int × Bs) := if p.2 = [] then [(1, raw (st.getD p.1.1.toNat 0))] else (transS p.2).1
def atomsOf (st : List Int) (l : List Pc) : List (Int × Bs) := l.flatMap (pcAtoms st)
/-- the screen of strokes, whether there is one -/
def scrA (d : Dic) (st : List Int) : Bs × Bool := render (atomsOf st (segA d st))
def scr (d : Dic) (st : List Int) : Bs × Bool := if dic d && slist st then scrA d st else ([], false)
theorem atomsOf_snoc (st : List Int) (l : List Pc) (p : Pc) : atomsOf st (l ++ [p]) = atomsOf st l ++ pcAtoms st p := by
  unfold atomsOf
  rw [List.flatMap_append]
  simp
theorem transS_len (s : Bs) : (transS s).1.length ≤ 10 := by
  unfold transS
  split
  · simp
  split
  · simp
  · split
    · rename_i h
      unfold listS at h
      simp only [Bool.and_eq_true, decide_eq_true_eq] at h
      have h1 := h.1.2
      simp only
      omega
    · simp
theorem pcAtoms_len (st : List Int) (p : Pc) : (pcAtoms st p).length ≤ 10 := by
  unfold pcAtoms
  split
  · simp
  · exact transS_len _
theorem atomsOf_len (st : List Int) : ∀ (l : List Pc), (atomsOf st l).length ≤ 10 * l.length
  | [] => by simp [atomsOf]
  | p :: l => by
    have h1 := atomsOf_len st l
    have h2 := pcAtoms_len st p
    unfold atomsOf at *
    rw [List.flatMap_cons, List.length_append, List.length_cons]
    omega
theorem scr_no {d : Dic} {st : List Int} (h : (scr d st).2 = false) : (scr d st).1 = [] := by
  unfold scr at h ⊢
  split
  · rename_i hc
    rw [if_pos hc] at h
    exact (render_eq _).2.2 h
  · rfl
def screen (s : Bs) : Bool := decide ((s.length : Int) ≤ 2000) && s.all prn
theorem scr_screen (d : Dic) (st : List Int) : screen (scr d st).1 = true := by
  unfold screen scr
  simp only [Bool.and_eq_true, decide_eq_true_eq, List.all_eq_true]
  split
  · have := render_len (atomsOf st (segA d st))
    unfold scrA
    exact ⟨by omega, this.2⟩
  · exact ⟨by simp, by simp⟩
theorem screen_len {s : Bs} (h : screen s = true) : s.length ≤ 2000 := by
  unfold screen at h
  simp only [Bool.and_eq_true, decide_eq_true_eq] at h
  omega
theorem scr_len (d : Dic) (st : List Int) : (scr d st).1.length ≤ 2000 := screen_len (scr_screen d st)
theorem slist_len {st : List Int} (h : slist st = true) : st.length ≤ 60 := by
  unfold slist at h
  simp only [Bool.and_eq_true, decide_eq_true_eq] at h
  exact h.1
theorem slist_take {st : List Int} (h : slist st = true) (n : Nat) : slist (st.take n) = true := by
  unfold slist at h ⊢
  simp only [Bool.and_eq_true, decide_eq_true_eq, List.all_eq_true] at h ⊢
  exact ⟨by rw [List.length_take]; omega, fun x hx => h.2 x (List.mem_of_mem_take hx)⟩
/-- how many first bytes two texts have in common -/
def lcp : Bs → Bs → Nat
  | a :: x, b :: y => if a = b then lcp x y + 1 else 0
  | _, _ => 0
def least (a b : Bs) : Edit := (((a.length - lcp a b : Nat) : Int), b.drop (lcp a b))
theorem lcp_le : ∀ a b : Bs, lcp a b ≤ a.length ∧ lcp a b ≤ b.length ∧ a.take (lcp a b) = b.take (lcp a b)
  | [], _ => by simp [lcp]
  | _ :: _, [] => by simp [lcp]
  | a :: x, b :: y => by
    unfold lcp
    split
    · rename_i h
      have ih := lcp_le x y
      subst h
      simp only [List.length_cons, List.take_succ_cons]
      exact ⟨by omega, by omega, by rw [ih.2.2]⟩
    · simp
theorem lcp_of : ∀ (n : Nat) (a b : Bs), a.take n = b.take n → n ≤ a.length → n ≤ b.length → (n = a.length ∨ n = b.length ∨ ∃ (h1 : n < a.length) (h2 : n < b.length), a[n] ≠ b[n]) → lcp a b = n
  | 0, a, b, _, _, _, h => by
    cases a with
    | nil => simp [lcp]
    | cons a x =>
      cases b with
      | nil => simp [lcp]
      | cons b y =>
        rcases h with h | h | ⟨_, _, h⟩
        · simp at h
        · simp at h
        · unfold lcp
          rw [if_neg (by simpa using h)]
  | n + 1, a, b, ht, h1, h2, h => by
    cases a with
    | nil => simp at h1
    | cons a x =>
      cases b with
      | nil => simp at h2
      | cons b y =>
        simp only [List.take_succ_cons, List.cons.injEq, List.length_cons] at ht h1 h2 h
        unfold lcp
        rw [if_pos ht.1, lcp_of n x y ht.2 (by omega) (by omega) ?_]
        rcases h with h | h | ⟨h3, h4, h⟩
        · exact .inl (by omega)
        · exact .inr (.inl (by omega))
        · exact .inr (.inr ⟨by simpa using h3, by simpa using h4, by simpa using h⟩)
theorem lcp_comm : ∀ a b : Bs, lcp a b = lcp b a
  | [], [] => rfl
  | [], _ :: _ => rfl
  | _ :: _, [] => rfl
  | a :: x, b :: y => by
    unfold lcp
    by_cases h : a = b
    · rw [if_pos h, if_pos h.symm, lcp_comm x y]
    · rw [if_neg h, if_neg (fun e => h e.symm)]
def editOk (e : Edit) : Bool := decide (0 ≤ e.1 ∧ e.1 ≤ 2000) && screen e.2
def applyE (s : Bs) (e : Edit) : Bs × Bool :=
  if screen s && (editOk e && decide (e.1 ≤ (s.length : Int))) then (if 2000 < (s.take (s.length - e.1.toNat) ++ e.2).length then ([], false) else (s.take (s.length - e.1.toNat) ++ e.2, true)) else ([], false)
theorem screen_drop {s : Bs} (h : screen s = true) (n : Nat) : screen (s.drop n) = true := by
  unfold screen at h ⊢
  simp only [Bool.and_eq_true, decide_eq_true_eq, List.all_eq_true] at h ⊢
  exact ⟨by rw [List.length_drop]; omega, fun x hx => h.2 x (List.mem_of_mem_drop hx)⟩
theorem least_ok {a b : Bs} (ha : screen a = true) (hb : screen b = true) : editOk (least a b) = true := by
  have := screen_len ha
  unfold editOk least
  rw [screen_drop hb, decide_eq_true (by simp only; omega)]
  rfl
theorem take_lcp (a b : Bs) : a.take (a.length - (((a.length - lcp a b : Nat) : Int)).toNat) ++ b.drop (lcp a b) = b := by
  obtain ⟨h1, h2, h3⟩ := lcp_le a b
  rw [Int.toNat_natCast, show a.length - (a.length - lcp a b) = lcp a b by omega, h3, List.take_append_drop]
/-- the least edit leads from the one screen to the other -/
theorem apply_least {a b : Bs} (ha : screen a = true) (hb : screen b = true) : applyE a (least a b) = (b, true) := by
  have h1 := least_ok ha hb
  have h2 : decide ((least a b).1 ≤ (a.length : Int)) = true := decide_eq_true (by unfold least; simp only; omega)
  unfold applyE
  rw [ha, h1, h2, if_pos (by rfl)]
  show (if 2000 < (a.take (a.length - (((a.length - lcp a b : Nat) : Int)).toNat) ++ b.drop (lcp a b)).length then _ else _) = _
  have h3 := take_lcp a b
  rw [h3, if_neg (by have := screen_len hb; omega)]
  unfold least
  simp only
  rw [h3]
def comp2 (a b : Edit) : Edit := if b.1 ≤ (a.2.length : Int) then (a.1, a.2.take (a.2.length - b.1.toNat) ++ b.2) else (a.1 + (b.1 - a.2.length), b.2)
def compE (a b : Edit) : Edit × Bool := if editOk a && editOk b then (if editOk (comp2 a b) then (comp2 a b, true) else ((0, []), false)) else ((0, []), false)
/-- an edit and the one that leads back -/
theorem comp_back {a b : Bs} (ha : screen a = true) (_hb : screen b = true) (h : (compE (least a b) (least b a)).2 = true) : applyE a (compE (least a b) (least b a)).1 = (a, true) := by
  obtain ⟨h1, h2, h3⟩ := lcp_le a b
  have hc : comp2 (least a b) (least b a) = (((a.length - lcp a b : Nat) : Int), a.drop (lcp a b)) := by
    unfold comp2 least
    rw [lcp_comm b a]
    simp only [List.length_drop]
    rw [if_pos (by omega), Int.toNat_natCast, Nat.sub_self]
    rfl
  unfold compE at h ⊢
  split at h
  · rename_i h4
    rw [if_pos h4]
    split at h
    · rename_i h5
      rw [if_pos h5]
      rw [hc] at h5 ⊢
      unfold applyE
      have h6 : decide ((((a.length - lcp a b : Nat) : Int)) ≤ (a.length : Int)) = true := decide_eq_true (by omega)
      rw [ha, h5]
      simp only [h6]
      rw [if_pos (by rfl)]
      have h7 : a.take (a.length - (((a.length - lcp a b : Nat) : Int)).toNat) ++ a.drop (lcp a b) = a := by
        rw [Int.toNat_natCast, show a.length - (a.length - lcp a b) = lcp a b by omega, List.take_append_drop]
      rw [h7, if_neg (by have := screen_len ha; omega)]
    · cases h
  · cases h
/-- an edit behind one that only writes -/
theorem comp_write {s b : Bs} (h : (compE (0, s) (least s b)).2 = true) : (compE (0, s) (least s b)).1 = (0, b) := by
  have hc : comp2 (0, s) (least s b) = (0, b) := by
    unfold comp2
    have h3 := take_lcp s b
    unfold least
    simp only
    rw [if_pos (by omega), h3]
  unfold compE at h ⊢
  split at h
  · rename_i h4
    rw [if_pos h4]
    split at h
    · rename_i h5
      rw [if_pos h5, hc]
    · cases h
  · cases h
/-- a valid translator -/
def trans (d : Dic) (t : Tr) : Bool := (scr d t.1).2 && ((scr d t.1).1 == t.2 && !t.1.contains 1024)
def next (l : List Int) (k : Int) : List Int := if k = 1024 then l.take (l.length - 1) else l ++ [k]
def tr0 : Tr := ([], [])
def pressP (d : Dic) (t : Tr) (k : Int) : (Tr × Edit) × Bool := if (scr d (next t.1 k)).2 then (((next t.1 k, (scr d (next t.1 k)).1), least t.2 (scr d (next t.1 k)).1), true) else ((tr0, (0, [])), false)
def press (d : Dic) (t : Tr) (k : Int) : (Tr × Edit) × Bool := if trans d t && stroke k then pressP d t k else ((tr0, (0, [])), false)
def replayN (d : Dic) (st : List Int) : Nat → Option (List Edit × Tr)
  | 0 => some ([], tr0)
  | j + 1 => (replayN d st j).bind fun r => if (press d r.2 (st.getD j 0)).2 then some (r.1 ++ [(press d r.2 (st.getD j 0)).1.2], (press d r.2 (st.getD j 0)).1.1) else none
def replay (d : Dic) (st : List Int) : (List Edit × Tr) × Bool := if dic d && decide (st.length ≤ 120) then (match replayN d st st.length with
  | none => (([], tr0), false)
  | some r => (r, true)) else (([], tr0), false)
theorem replayN_none {d : Dic} {st : List Int} {j : Nat} (h : replayN d st j = none) : ∀ k, j ≤ k → replayN d st k = none
  | 0, hk => by have : j = 0 := by omega
                subst this; exact h
  | k + 1, hk => by
    by_cases hj : j = k + 1
    · subst hj; exact h
    · unfold replayN
      rw [replayN_none h k (by omega)]
      rfl
def undoN (d : Dic) (t : Tr) : Nat → Option (List Edit × Bs)
  | 0 => some ([], t.2)
  | i + 1 => (undoN d t i).bind fun r => if (scr d (t.1.take (t.1.length - 1 - i))).2 then some (r.1 ++ [least r.2 (scr d (t.1.take (t.1.length - 1 - i))).1], (scr d (t.1.take (t.1.length - 1 - i))).1) else none
def undo (d : Dic) (t : Tr) : List Edit × Bool := if trans d t then (match undoN d t t.1.length with
  | none => ([], false)
  | some r => (r.1, true)) else ([], false)
theorem undoN_none {d : Dic} {t : Tr} {j : Nat} (h : undoN d t j = none) : ∀ k, j ≤ k → undoN d t k = none
  | 0, hk => by have : j = 0 := by omega
                subst this; exact h
  | k + 1, hk => by
    by_cases hj : j = k + 1
    · subst hj; exact h
    · unfold undoN
      rw [undoN_none h k (by omega)]
      rfl
theorem trans_parts {d : Dic} {t : Tr} (h : trans d t = true) : (scr d t.1).2 = true ∧ (scr d t.1).1 = t.2 ∧ t.1.contains 1024 = false := by
  unfold trans at h
  simp only [Bool.and_eq_true, beq_iff_eq, Bool.not_eq_true'] at h
  exact h
theorem trans_screen {d : Dic} {t : Tr} (h : trans d t = true) : screen t.2 = true := (trans_parts h).2.1 ▸ scr_screen d t.1
theorem trans_of {d : Dic} {l : List Int} (h : (scr d l).2 = true) (h2 : l.contains 1024 = false) : trans d (l, (scr d l).1) = true := by
  unfold trans
  simp only [h, h2, beq_self_eq_true]
  rfl
theorem next_free {l : List Int} {k : Int} (h : l.contains 1024 = false) : (next l k).contains 1024 = false := by
  unfold next
  simp only [List.contains_eq_mem, decide_eq_false_iff_not] at h ⊢
  split
  · exact fun hm => h (List.mem_of_mem_take hm)
  · rename_i hk
    rw [List.mem_append, List.mem_singleton]
    rintro (hm | hm)
    · exact h hm
    · exact hk hm.symm
theorem press_ok {d : Dic} {t : Tr} {k : Int} (h : (press d t k).2 = true) : trans d t = true ∧ stroke k = true ∧ (scr d (next t.1 k)).2 = true ∧ (press d t k).1 = ((next t.1 k, (scr d (next t.1 k)).1), least t.2 (scr d (next t.1 k)).1) := by
  unfold press at h ⊢
  split at h
  · rename_i hc
    have hc' := hc
    simp only [Bool.and_eq_true] at hc
    rw [if_pos hc']
    unfold pressP at h ⊢
    split at h
    · rename_i h2
      rw [if_pos h2]
      exact ⟨hc.1, hc.2, h2, rfl⟩
    · cases h
  · cases h
theorem press_no {d : Dic} {t : Tr} {k : Int} (h : (press d t k).2 = false) : press d t k = ((tr0, (0, [])), false) := by
  unfold press at h ⊢
  split at h
  · rename_i hc
    rw [if_pos hc]
    unfold pressP at h ⊢
    split at h
    · cases h
    · rename_i h2
      rw [if_neg h2]
  · rename_i hc
    rw [if_neg hc]
theorem press_trans {d : Dic} {t : Tr} {k : Int} (h : (press d t k).2 = true) : trans d (press d t k).1.1 = true := by
  obtain ⟨h1, _, h3, h4⟩ := press_ok h
  rw [h4]
  exact trans_of h3 (next_free (trans_parts h1).2.2)
end Go.Proofs.YtmlklnimoknojaaGreatDoor.P
