/- Plain: the notation of a stroke; the word that stands for a stroke without a translation. -/
import Derived.Test.YtmlklnimoknojaaGreatDoorPlainFmt
import Derived.Test.YtmlklnimoknojaaGreatDoorColl
namespace Go.Proofs.YtmlklnimoknojaaGreatDoor.P
def labels : Bs := [35, 83, 84, 75, 80, 87, 72, 82, 65, 79, 42, 69, 85, 70, 82, 80, 66, 76, 71, 84, 83, 68, 90]
def lab (k : Nat) : UInt8 := labels.getD k 0
def keysN (s : Int) (n : Nat) : List Nat := (List.range n).filter (fun k => hasK s (k : Int))
def keys (s : Int) : List Nat := keysN s 23
def isMid (k : Nat) : Bool := decide (8 ≤ k ∧ k ≤ 12)
def midK (s : Int) : Bool := (keys s).any isMid
def fmtL : Bool → List Nat → Bs
  | _, [] => []
  | m, k :: l => if decide (13 ≤ k) && !m then 45 :: lab k :: fmtL true l else lab k :: fmtL m l
def fmtM : Bool → Bool → List Nat → Bs
  | _, _, [] => []
  | m, h, k :: l => if decide (12 < k) && (!(m || isMid k) && !h) then 45 :: lab k :: fmtM (m || isMid k) true l else lab k :: fmtM (m || isMid k) h l
def fmt (s : Int) : Bs := fmtL (midK s) (keys s)
theorem fmtM_high : ∀ (l : List Nat) (m h : Bool), (∀ k ∈ l, 13 ≤ k) → fmtM m h l = fmtL (m || h) l
  | [], _, _, _ => rfl
  | k :: l, m, h, hk => by
    have h1 : isMid k = false := by unfold isMid; have := hk k (by simp); exact decide_eq_false (by omega)
    have h2 : decide (12 < k) = true := by have := hk k (by simp); exact decide_eq_true (by omega)
    have h3 : decide (13 ≤ k) = true := by have := hk k (by simp); exact decide_eq_true (by omega)
    have ih := fmtM_high l
    unfold fmtM fmtL
    rw [h1, h2, h3, Bool.or_false, Bool.true_and, Bool.true_and]
    cases m <;> cases h <;> simp [ih _ _ (fun k hk' => hk k (by simp [hk']))]
theorem fmtM_low : ∀ (l r : List Nat) (m h : Bool), (∀ k ∈ l, k ≤ 12) → fmtM m h (l ++ r) = l.map lab ++ fmtM (m || l.any isMid) h r
  | [], r, m, h, _ => by simp
  | k :: l, r, m, h, hk => by
    have h2 : decide (12 < k) = false := by have := hk k (by simp); exact decide_eq_false (by omega)
    rw [List.cons_append]
    conv => lhs; unfold fmtM
    rw [h2, Bool.false_and, if_neg (by decide), fmtM_low l r _ h (fun k hk' => hk k (by simp [hk']))]
    simp [Bool.or_assoc]
theorem fmtL_low : ∀ (l r : List Nat) (m : Bool), (∀ k ∈ l, k ≤ 12) → fmtL m (l ++ r) = l.map lab ++ fmtL m r
  | [], r, m, _ => by simp
  | k :: l, r, m, hk => by
    have h2 : decide (13 ≤ k) = false := by have := hk k (by simp); exact decide_eq_false (by omega)
    rw [List.cons_append]
    conv => lhs; unfold fmtL
    rw [h2, Bool.false_and, if_neg (by decide), fmtL_low l r _ (fun k hk' => hk k (by simp [hk']))]
    rfl
def keysHi (s : Int) : List Nat := ((List.range 10).map (13 + ·)).filter (fun k => hasK s (k : Int))
theorem keys_split (s : Int) : keys s = keysN s 13 ++ keysHi s := by
  unfold keys keysN keysHi
  rw [← List.filter_append]
  congr 1
theorem keysN_lt {s : Int} {n k : Nat} (h : k ∈ keysN s n) : k < n := by
  unfold keysN at h
  rw [List.mem_filter, List.mem_range] at h
  exact h.1
theorem keysHi_ge {s : Int} {k : Nat} (h : k ∈ keysHi s) : 13 ≤ k := by
  unfold keysHi at h
  rw [List.mem_filter, List.mem_map] at h
  obtain ⟨⟨j, _, rfl⟩, _⟩ := h
  omega
theorem mid_split (s : Int) : midK s = (keysN s 13).any isMid := by
  unfold midK
  rw [keys_split, List.any_append]
  have : (keysHi s).any isMid = false := List.any_eq_false.2 fun k hk => by
    have := keysHi_ge hk
    unfold isMid
    simp
    omega
  rw [this, Bool.or_false]
theorem fmt_eq (s : Int) : fmtM false false (keys s) = fmt s := by
  unfold fmt
  rw [mid_split, keys_split, fmtM_low _ _ _ _ (fun k hk => by have := keysN_lt hk; omega), fmtL_low _ _ _ (fun k hk => by have := keysN_lt hk; omega), fmtM_high _ _ _ (fun k hk => keysHi_ge hk)]
  simp
theorem lab_hash {k : Nat} (h1 : 1 ≤ k) : lab k ≠ 35 := by
  by_cases hk : k < 23
  · have : ∀ j < 23, 1 ≤ j → lab j ≠ 35 := by decide
    exact this k hk h1
  · unfold lab
    rw [List.getD_eq_getElem?_getD, List.getElem?_eq_none (by simp [labels]; omega)]
    decide
theorem fmtL_hash : ∀ (l : List Nat) (m : Bool), (∀ k ∈ l, 1 ≤ k) → ∀ b ∈ fmtL m l, b ≠ 35
  | [], _, _ => by simp [fmtL]
  | k :: l, m, h => by
    have ih := fun m => fmtL_hash l m (fun k hk => h k (by simp [hk]))
    have h1 := lab_hash (h k (by simp))
    intro b hb
    unfold fmtL at hb
    split at hb
    · rcases List.mem_cons.1 hb with rfl | hb
      · decide
      rcases List.mem_cons.1 hb with rfl | hb
      · exact h1
      · exact ih _ b hb
    · rcases List.mem_cons.1 hb with rfl | hb
      · exact h1
      · exact ih _ b hb
theorem range_cons (n : Nat) : List.range (n + 1) = 0 :: (List.range n).map (1 + ·) := by
  rw [List.range_succ_eq_map]
  congr 1
  exact List.map_congr_left fun k _ => by omega
theorem keys_head (s : Int) : ∃ t : List Nat, (∀ k ∈ t, 1 ≤ k) ∧ (keys s = t ∨ keys s = 0 :: t) := by
  refine ⟨((List.range 22).map (1 + ·)).filter (fun k => hasK s (k : Int)), fun k hk => ?_, ?_⟩
  · rw [List.mem_filter, List.mem_map] at hk
    obtain ⟨⟨j, _, rfl⟩, _⟩ := hk
    omega
  · unfold keys keysN
    rw [range_cons 22, List.filter_cons]
    split
    · exact .inr rfl
    · exact .inl rfl
def hash (b : UInt8) : UInt8 := if b = 35 then 61 else b
def raw (s : Int) : Bs := (fmt s).map hash
theorem map_hash {l : Bs} (h : ∀ b ∈ l, b ≠ 35) : l.map hash = l := by
  conv => rhs; rw [← List.map_id l]
  exact List.map_congr_left fun b hb => by unfold hash; rw [if_neg (h b hb)]; rfl
theorem raw_head (s : Int) : (∀ t, fmt s = 35 :: t → raw s = 61 :: t) ∧ ((∀ t, fmt s ≠ 35 :: t) → raw s = fmt s) := by
  obtain ⟨t, ht, h⟩ := keys_head s
  have hl := fun m => fmtL_hash t m ht
  rcases h with h | h
  · have hf : fmt s = fmtL (midK s) t := by unfold fmt; rw [h]
    constructor
    · intro u hu
      exact absurd rfl (hl (midK s) 35 (by rw [← hf, hu]; simp))
    · intro _
      unfold raw
      rw [hf, map_hash (hl _)]
  · have hf : fmt s = 35 :: fmtL (midK s) t := by
      unfold fmt
      rw [h]
      conv => lhs; unfold fmtL
      rfl
    constructor
    · intro u hu
      rw [hf] at hu
      injection hu with _ hu
      subst hu
      unfold raw
      rw [hf, List.map_cons, map_hash (hl _)]
      rfl
    · intro hn
      exact absurd hf (hn _)
theorem fmtL_len : ∀ (l : List Nat) (m : Bool), (fmtL m l).length ≤ 2 * l.length ∧ (l ≠ [] → fmtL m l ≠ [])
  | [], _ => by simp [fmtL]
  | k :: l, m => by
    have ih := fun m => (fmtL_len l m).1
    unfold fmtL
    split
    · refine ⟨?_, by simp⟩
      have := ih true
      simp only [List.length_cons]; omega
    · refine ⟨?_, by simp⟩
      have := ih m
      simp only [List.length_cons]; omega
theorem keys_len (s : Int) : (keys s).length ≤ 23 := by
  unfold keys keysN
  exact Nat.le_trans (List.length_filter_le _ _) (by simp)
theorem fmt_len (s : Int) : (fmt s).length ≤ 46 := by
  have h1 := (fmtL_len (keys s) (midK s)).1
  have h2 := keys_len s
  unfold fmt
  omega
theorem raw_len (s : Int) : (raw s).length ≤ 46 := by unfold raw; rw [List.length_map]; exact fmt_len s
theorem keys_ne {s : Int} (h : stroke s = true) : keys s ≠ [] := by
  unfold stroke at h
  simp only [decide_eq_true_eq] at h
  obtain ⟨n, rfl⟩ := Int.eq_ofNat_of_zero_le (show 0 ≤ s by omega)
  intro hk
  have hz : ∀ j, j < 23 → n.testBit j = false := fun j hj => by
    cases hb : n.testBit j with
    | false => rfl
    | true =>
      have : j ∈ keys (n : Int) := by
        unfold keys keysN
        rw [List.mem_filter, List.mem_range]
        exact ⟨hj, by unfold hasK; simpa using hb⟩
      rw [hk] at this
      cases this
  have : n = 0 := Nat.eq_of_testBit_eq fun j => by
    rw [Nat.zero_testBit]
    by_cases hj : j < 23
    · exact hz j hj
    · exact Nat.testBit_lt_two_pow (Nat.lt_of_lt_of_le (show n < 2 ^ 23 by omega) (Nat.pow_le_pow_right (by decide) (by omega)))
  omega
theorem fmt_ne {s : Int} (h : stroke s = true) : fmt s ≠ [] := (fmtL_len (keys s) (midK s)).2 (keys_ne h)
theorem mid_bits (n : Nat) : midK (n : Int) = decide (n / 256 % 32 ≠ 0) := by
  rw [mid_split]
  have hb : ∀ j : Nat, hasK (n : Int) (j : Int) = decide (n / 2 ^ j % 2 = 1) := fun j => by
    unfold hasK
    rw [Int.toNat_natCast, Int.toNat_natCast, Nat.testBit_eq_decide_div_mod_eq]
  unfold keysN
  rw [List.any_filter]
  have he : (List.range 13).any (fun k => hasK (n : Int) (k : Int) && isMid k) = (hasK (n : Int) (8 : Nat) || (hasK (n : Int) (9 : Nat) || (hasK (n : Int) (10 : Nat) || (hasK (n : Int) (11 : Nat) || hasK (n : Int) (12 : Nat))))) := by
    simp only [List.range, List.range.loop, List.any_cons, List.any_nil, show isMid 0 = false from rfl, show isMid 1 = false from rfl, show isMid 2 = false from rfl, show isMid 3 = false from rfl, show isMid 4 = false from rfl, show isMid 5 = false from rfl, show isMid 6 = false from rfl, show isMid 7 = false from rfl, show isMid 8 = true from rfl, show isMid 9 = true from rfl, show isMid 10 = true from rfl, show isMid 11 = true from rfl, show isMid 12 = true from rfl, Bool.and_false, Bool.and_true, Bool.false_or, Bool.or_false]
  rw [he, hb, hb, hb, hb, hb, Bool.eq_iff_iff]
  simp only [Bool.or_eq_true, decide_eq_true_eq]
  omega
end Go.Proofs.YtmlklnimoknojaaGreatDoor.P
namespace Go.Proofs.YtmlklnimoknojaaGreatDoor
namespace P
def slist (o : List Int) : Bool := decide (o.length ≤ 60) && o.all stroke
end P
end Go.Proofs.YtmlklnimoknojaaGreatDoor
namespace Go.Proofs.YtmlklnimoknojaaGreatDoor.P
abbrev Edit := Int × Bs
abbrev Tr := List Int × Bs
def pcAtoms (st : List Int) (p : Pc) : List (Int × Bs) := if p.2 = [] then [(1, raw (st.getD p.1.1.toNat 0))] else (transS p.2).1
def atomsOf (st : List Int) (l : List Pc) : List (Int × Bs) := l.flatMap (pcAtoms st)
def scrA (d : Dic) (st : List Int) : Bs × Bool := render (atomsOf st (segA d st))
def scr (d : Dic) (st : List Int) : Bs × Bool := if dic d && slist st then scrA d st else ([], false)
theorem atomsOf_snoc (st : List Int) (l : List Pc) (p : Pc) : atomsOf st (l ++ [p]) = atomsOf st l ++ pcAtoms st p := by
  unfold atomsOf
  rw [List.flatMap_append]
  simp
theorem transS_len (s : Bs) : (transS s).1.length ≤ 10 := by
  unfold transS
  split
  · simp
  split
  · simp
  · split
    · rename_i h
      unfold listS at h
      simp only [Bool.and_eq_true, decide_eq_true_eq] at h
      have h1 := h.1.2
      simp only
      omega
    · simp
theorem pcAtoms_len (st : List Int) (p : Pc) : (pcAtoms st p).length ≤ 10 := by
  unfold pcAtoms
  split
  · simp
  · exact transS_len _
theorem atomsOf_len (st : List Int) : ∀ (l : List Pc), (atomsOf st l).length ≤ 10 * l.length
  | [] => by simp [atomsOf]
  | p :: l => by
    have h1 := atomsOf_len st l
    have h2 := pcAtoms_len st p
    unfold atomsOf at *
    rw [List.flatMap_cons, List.length_append, List.length_cons]
    omega
theorem scr_no {d : Dic} {st : List Int} (h : (scr d st).2 = false) : (scr d st).1 = [] := by
  unfold scr at h ⊢
  split
  · rename_i hc
    rw [if_pos hc] at h
    exact (render_eq _).2.2 h
  · rfl
def screen (s : Bs) : Bool := decide ((s.length : Int) ≤ 2000) && s.all prn
theorem scr_screen (d : Dic) (st : List Int) : screen (scr d st).1 = true := by
  unfold screen scr
  simp only [Bool.and_eq_true, decide_eq_true_eq, List.all_eq_true]
  split
  · have := render_len (atomsOf st (segA d st))
    unfold scrA
    exact ⟨by omega, this.2⟩
  · exact ⟨by simp, by simp⟩
theorem screen_len {s : Bs} (h : screen s = true) : s.length ≤ 2000 := by
  unfold screen at h
  simp only [Bool.and_eq_true, decide_eq_true_eq] at h
  omega
theorem scr_len (d : Dic) (st : List Int) : (scr d st).1.length ≤ 2000 := screen_len (scr_screen d st)
theorem slist_len {st : List Int} (h : slist st = true) : st.length ≤ 60 := by
  unfold slist at h
  simp only [Bool.and_eq_true, decide_eq_true_eq] at h
  exact h.1
def lcp : Bs → Bs → Nat
  | a :: x, b :: y => if a = b then lcp x y + 1 else 0
  | _, _ => 0
def least (a b : Bs) : Edit := (((a.length - lcp a b : Nat) : Int), b.drop (lcp a b))
theorem lcp_le : ∀ a b : Bs, lcp a b ≤ a.length ∧ lcp a b ≤ b.length ∧ a.take (lcp a b) = b.take (lcp a b)
  | [], _ => by simp [lcp]
  | _ :: _, [] => by simp [lcp]
  | a :: x, b :: y => by
    unfold lcp
    split
    · rename_i h
      have ih := lcp_le x y
      subst h
      simp only [List.length_cons, List.take_succ_cons]
      exact ⟨by omega, by omega, by rw [ih.2.2]⟩
    · simp
theorem lcp_of : ∀ (n : Nat) (a b : Bs), a.take n = b.take n → n ≤ a.length → n ≤ b.length → (n = a.length ∨ n = b.length ∨ ∃ (h1 : n < a.length) (h2 : n < b.length), a[n] ≠ b[n]) → lcp a b = n
  | 0, a, b, _, _, _, h => by
    cases a with
    | nil => simp [lcp]
    | cons a x =>
      cases b with
      | nil => simp [lcp]
      | cons b y =>
        rcases h with h | h | ⟨_, _, h⟩
        · simp at h
        · simp at h
        · unfold lcp
          rw [if_neg (by simpa using h)]
  | n + 1, a, b, ht, h1, h2, h => by
    cases a with
    | nil => simp at h1
    | cons a x =>
      cases b with
      | nil => simp at h2
      | cons b y =>
        simp only [List.take_succ_cons, List.cons.injEq, List.length_cons] at ht h1 h2 h
        unfold lcp
        rw [if_pos ht.1, lcp_of n x y ht.2 (by omega) (by omega) ?_]
        rcases h with h | h | ⟨h3, h4, h⟩
        · exact .inl (by omega)
        · exact .inr (.inl (by omega))
        · exact .inr (.inr ⟨by simpa using h3, by simpa using h4, by simpa using h⟩)
theorem lcp_self : ∀ a : Bs, lcp a a = a.length
  | [] => rfl
  | a :: x => by unfold lcp; rw [if_pos rfl, lcp_self x]; rfl
theorem least_self (a : Bs) : least a a = (0, []) := by
  unfold least
  rw [lcp_self, Nat.sub_self, List.drop_length]
  rfl
def editOk (e : Edit) : Bool := decide (0 ≤ e.1 ∧ e.1 ≤ 2000) && screen e.2
def applyE (s : Bs) (e : Edit) : Bs × Bool :=
  if screen s && (editOk e && decide (e.1 ≤ (s.length : Int))) then (if 2000 < (s.take (s.length - e.1.toNat) ++ e.2).length then ([], false) else (s.take (s.length - e.1.toNat) ++ e.2, true)) else ([], false)
theorem screen_drop {s : Bs} (h : screen s = true) (n : Nat) : screen (s.drop n) = true := by
  unfold screen at h ⊢
  simp only [Bool.and_eq_true, decide_eq_true_eq, List.all_eq_true] at h ⊢
  exact ⟨by rw [List.length_drop]; omega, fun x hx => h.2 x (List.mem_of_mem_drop hx)⟩
theorem least_ok {a b : Bs} (ha : screen a = true) (hb : screen b = true) : editOk (least a b) = true := by
  have := screen_len ha
  unfold editOk least
  rw [screen_drop hb, decide_eq_true (by simp only; omega)]
  rfl
theorem take_lcp (a b : Bs) : a.take (a.length - (((a.length - lcp a b : Nat) : Int)).toNat) ++ b.drop (lcp a b) = b := by
  obtain ⟨h1, h2, h3⟩ := lcp_le a b
  rw [Int.toNat_natCast, show a.length - (a.length - lcp a b) = lcp a b by omega, h3, List.take_append_drop]
theorem apply_least {a b : Bs} (ha : screen a = true) (hb : screen b = true) : applyE a (least a b) = (b, true) := by
  have h1 := least_ok ha hb
  have h2 : decide ((least a b).1 ≤ (a.length : Int)) = true := decide_eq_true (by unfold least; simp only; omega)
  unfold applyE
  rw [ha, h1, h2, if_pos (by rfl)]
  show (if 2000 < (a.take (a.length - (((a.length - lcp a b : Nat) : Int)).toNat) ++ b.drop (lcp a b)).length then _ else _) = _
  have h3 := take_lcp a b
  rw [h3, if_neg (by have := screen_len hb; omega)]
  unfold least
  simp only
  rw [h3]
def trans (d : Dic) (t : Tr) : Bool := (scr d t.1).2 && ((scr d t.1).1 == t.2 && !t.1.contains 1024)
def next (l : List Int) (k : Int) : List Int := if k = 1024 then l.take (l.length - 1) else l ++ [k]
def tr0 : Tr := ([], [])
theorem trans_parts {d : Dic} {t : Tr} (h : trans d t = true) : (scr d t.1).2 = true ∧ (scr d t.1).1 = t.2 ∧ t.1.contains 1024 = false := by
  unfold trans at h
  simp only [Bool.and_eq_true, beq_iff_eq, Bool.not_eq_true'] at h
  exact h
theorem trans_screen {d : Dic} {t : Tr} (h : trans d t = true) : screen t.2 = true := (trans_parts h).2.1 ▸ scr_screen d t.1
theorem trans_of {d : Dic} {l : List Int} (h : (scr d l).2 = true) (h2 : l.contains 1024 = false) : trans d (l, (scr d l).1) = true := by
  unfold trans
  simp only [h, h2, beq_self_eq_true]
  rfl
end Go.Proofs.YtmlklnimoknojaaGreatDoor.P
namespace Go.Proofs.YtmlklnimoknojaaGreatDoor.P
theorem segs_mem {d : Dic} {st : List Int} {p : Pc} : ∀ {f a : Nat}, p ∈ segs d st f a → ∃ b, b < st.length ∧ p = matchA d st b
  | 0, _, h => by cases h
  | f + 1, a, h => by
    unfold segs at h
    split at h
    · rename_i hlt
      rcases List.mem_cons.1 h with h | h
      · exact ⟨a, hlt, h⟩
      · exact segs_mem h
    · cases h
theorem matchN_text {d : Dic} {st : List Int} (hd : dic d = true) (a : Nat) : ∀ n : Nat, (matchN d st a n).2 = [] ∨ (transS (matchN d st a n).2).2 = true
  | 0 => .inl rfl
  | n + 1 => by
    unfold matchN
    split
    · rename_i h
      right
      have hm := mem_textAt h
      unfold dic at hd
      simp only [Bool.and_eq_true, List.all_eq_true] at hd
      have he := hd.2.1 _ hm
      unfold entry at he
      simp only [Bool.and_eq_true] at he
      exact he.2
    · exact matchN_text hd a n
theorem seg_piece {d : Dic} {st : List Int} (hd : dic d = true) {p : Pc} (h : p ∈ segA d st) : ∃ a k : Nat, a < st.length ∧ p.1 = ((a : Int), (k : Int)) ∧ (p.2 = [] ∨ (transS p.2).2 = true) := by
  obtain ⟨b, hb, rfl⟩ := segs_mem h
  obtain ⟨k, hk, _⟩ := matchN_cnt d st b (min 6 (st.length - b))
  exact ⟨b, k, hb, hk, matchN_text hd b _⟩
theorem segA_len (d : Dic) (st : List Int) : (segA d st).length ≤ st.length := segs_len
theorem stroke_nat {st : List Int} (h : slist st = true) {a : Nat} (ha : a < st.length) : ∃ m : Nat, st[a] = (m : Int) ∧ stroke (m : Int) = true ∧ st.getD a 0 = (m : Int) := by
  unfold slist at h
  simp only [Bool.and_eq_true, List.all_eq_true] at h
  have hs := h.2 _ (List.getElem_mem ha)
  have h1 := hs
  unfold stroke at h1
  simp only [decide_eq_true_eq] at h1
  obtain ⟨m, hm⟩ := Int.eq_ofNat_of_zero_le (show 0 ≤ st[a] by omega)
  refine ⟨m, hm, by rw [← hm]; exact hs, ?_⟩
  rw [List.getD_eq_getElem?_getD, List.getElem?_eq_getElem ha]
  exact hm
theorem atoms_word {st : List Int} {p : Pc} {a : Nat} (h : p.2 = []) (h1 : p.1.1 = (a : Int)) : pcAtoms st p = [(1, raw (st.getD a 0))] := by
  unfold pcAtoms
  rw [if_pos h, h1, Int.toNat_natCast]
theorem atoms_trans {st : List Int} {p : Pc} (h : p.2 ≠ []) : pcAtoms st p = (transS p.2).1 := by
  unfold pcAtoms
  rw [if_neg h]
theorem trans_len60 {s : Bs} (h : (transS s).2 = true) : s.length ≤ 60 := by
  by_cases hl : 60 < s.length
  · unfold transS at h
    rw [if_pos hl] at h
    cases h
  · omega
theorem trans_atoms {s : Bs} (h : (transS s).2 = true) : ∀ x ∈ (transS s).1, atom x.1 x.2 = true := by
  unfold transS at h ⊢
  by_cases h0 : 60 < s.length
  · rw [if_pos h0] at h; cases h
  rw [if_neg h0] at h ⊢
  cases hl : atoms (split 32 s) with
  | none => rw [hl] at h; cases h
  | some l =>
    rw [hl] at h
    simp only at h ⊢
    by_cases h2 : listS l = true
    · rw [if_pos h2]
      unfold listS at h2
      simp only [Bool.and_eq_true, List.all_eq_true] at h2
      exact h2.2.1
    · rw [if_neg h2] at h
      cases h
theorem pcAtoms_text {st : List Int} {p : Pc} (h : p.2 = [] ∨ (transS p.2).2 = true) : ∀ x ∈ pcAtoms st p, x.2.length ≤ 46 := by
  intro x hx
  by_cases hp : p.2 = []
  · unfold pcAtoms at hx
    rw [if_pos hp, List.mem_singleton] at hx
    rw [hx]
    exact raw_len _
  · rw [atoms_trans hp] at hx
    have := (atom_text (trans_atoms (h.resolve_left hp) x hx)).2
    omega
theorem atomsOf_text {st : List Int} {l : List Pc} (h : ∀ p ∈ l, ∃ a k : Nat, a < st.length ∧ p.1 = ((a : Int), (k : Int)) ∧ (p.2 = [] ∨ (transS p.2).2 = true)) : ∀ x ∈ atomsOf st l, x.2.length ≤ 2 ^ 29 := by
  intro x hx
  unfold atomsOf at hx
  rw [List.mem_flatMap] at hx
  obtain ⟨p, hp, hx⟩ := hx
  obtain ⟨_, _, _, _, h3⟩ := h p hp
  have := pcAtoms_text h3 x hx
  omega
end Go.Proofs.YtmlklnimoknojaaGreatDoor.P
