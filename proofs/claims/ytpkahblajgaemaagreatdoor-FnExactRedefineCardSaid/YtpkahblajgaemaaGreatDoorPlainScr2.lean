/- Plain: the trie of a dictionary, how it is built, read and collected. -/
import Derived.Test.YtpkahblajgaemaaGreatDoorPlainD
import Derived.Test.YtpkahblajgaemaaGreatDoorPlainSpell
import Derived.Test.YtpkahblajgaemaaGreatDoorPlainFmtK
namespace Go.Proofs.YtpkahblajgaemaaGreatDoor
namespace P
abbrev Nd := List Int × List Int × Bool × Bs
abbrev Tri := List Nd
def strokeAt (d : Nat) (e : Ent) : Int := e.1.getD d 0
def groups (d : Nat) : Nat → Dic → List Dic
  | 0, _ => []
  | _ + 1, [] => []
  | n + 1, e :: l => (e :: l.takeWhile fun x => strokeAt d x == strokeAt d e) :: groups d n (l.dropWhile fun x => strokeAt d x == strokeAt d e)
def headStroke (d : Nat) : Dic → Int
  | [] => 0
  | e :: _ => strokeAt d e
def kids (B : Nat → Dic → Tri) (d : Nat) : Nat → List Dic → List Int × List Int × Tri
  | _, [] => ([], [], [])
  | next, g :: gs => (headStroke d g :: (kids B d (next + (B next g).length) gs).1, (next : Int) :: (kids B d (next + (B next g).length) gs).2.1, B next g ++ (kids B d (next + (B next g).length) gs).2.2)
def rest (d : Nat) : Dic → Dic
  | [] => []
  | e :: l => if e.1.length = d then l else e :: l
def ownText (d : Nat) : Dic → Bool × Bs
  | [] => (false, [])
  | e :: _ => if e.1.length = d then (true, e.2) else (false, [])
def build : Nat → Nat → Nat → Dic → Tri
  | 0, _, _, _ => []
  | f + 1, d, base, es =>
    ((kids (fun b g => build f (d + 1) b g) d (base + 1) (groups d es.length (rest d es))).1, (kids (fun b g => build f (d + 1) b g) d (base + 1) (groups d es.length (rest d es))).2.1, ownText d es) ::
      (kids (fun b g => build f (d + 1) b g) d (base + 1) (groups d es.length (rest d es))).2.2
def trie (l : Dic) : Tri := build 7 0 0 l
theorem dic_parts {l : Dic} (h : dic l = true) : l.length ≤ 40 ∧ (∀ e ∈ l, entry e = true) ∧ l.Pairwise lt := by
  unfold dic at h
  rw [Bool.and_eq_true, Bool.and_eq_true, decide_eq_true_eq, List.all_eq_true, rising_pair] at h
  exact h
theorem entry_parts {e : Ent} (h : entry e = true) : 1 ≤ e.1.length ∧ e.1.length ≤ 6 ∧ ∀ s ∈ e.1, stroke s = true := by
  unfold entry outline at h
  rw [Bool.and_eq_true, Bool.and_eq_true, decide_eq_true_eq, List.all_eq_true] at h
  exact ⟨by omega, by omega, h.1.2⟩
def nd0 : Nd := ([], [], false, [])
def readK (R : Int → List Int → Nat → Option (Nat × Dic)) (o : List Int) : List (Int × Int) → Nat → Option (Nat × Dic)
  | [], nx => some (nx, [])
  | (s, c) :: l, nx => match R c (o ++ [s]) nx with
    | none => none
    | some (n1, e1) => match readK R o l n1 with
      | none => none
      | some (n2, e2) => some (n2, e1 ++ e2)
def own (o : List Int) (n : Nd) : Dic := if n.2.2.1 then [(o, n.2.2.2)] else []
def read (t : Tri) : Nat → Int → List Int → Nat → Option (Nat × Dic)
  | 0, _, _, _ => none
  | f + 1, k, o, nx =>
    if k = (nx : Int) ∧ nx < t.length then
      if (t.getD nx nd0).1.length = (t.getD nx nd0).2.1.length then
        (readK (read t f) o ((t.getD nx nd0).1.zip (t.getD nx nd0).2.1) (nx + 1)).map fun r => (r.1, own o (t.getD nx nd0) ++ r.2)
      else none
    else none
end P
end Go.Proofs.YtpkahblajgaemaaGreatDoor
namespace Go.Proofs.YtpkahblajgaemaaGreatDoor
namespace P
def slist (o : List Int) : Bool := decide (o.length ≤ 60) && o.all stroke
end P
end Go.Proofs.YtpkahblajgaemaaGreatDoor
namespace Go.Proofs.YtpkahblajgaemaaGreatDoor.P
abbrev Edit := Int × Bs
abbrev Tr := List Int × Bs
def pcAtoms (st : List Int) (p : Pc) : List (Int × Bs) := if p.2 = [] then [(1, raw (st.getD p.1.1.toNat 0))] else (transS p.2).1
def atomsOf (st : List Int) (l : List Pc) : List (Int × Bs) := l.flatMap (pcAtoms st)
def scrA (d : Dic) (st : List Int) : Bs × Bool := render (atomsOf st (segA d st))
def scr (d : Dic) (st : List Int) : Bs × Bool := if dic d && slist st then scrA d st else ([], false)
theorem atomsOf_snoc (st : List Int) (l : List Pc) (p : Pc) : atomsOf st (l ++ [p]) = atomsOf st l ++ pcAtoms st p := by
  unfold atomsOf
  rw [List.flatMap_append]
  simp
theorem transS_len (s : Bs) : (transS s).1.length ≤ 10 := by
  unfold transS
  split
  · simp
  split
  · simp
  · split
    · rename_i h
      unfold listS at h
      simp only [Bool.and_eq_true, decide_eq_true_eq] at h
      have h1 := h.1.2
      simp only
      omega
    · simp
theorem pcAtoms_len (st : List Int) (p : Pc) : (pcAtoms st p).length ≤ 10 := by
  unfold pcAtoms
  split
  · simp
  · exact transS_len _
theorem atomsOf_len (st : List Int) : ∀ (l : List Pc), (atomsOf st l).length ≤ 10 * l.length
  | [] => by simp [atomsOf]
  | p :: l => by
    have h1 := atomsOf_len st l
    have h2 := pcAtoms_len st p
    unfold atomsOf at *
    rw [List.flatMap_cons, List.length_append, List.length_cons]
    omega
theorem scr_no {d : Dic} {st : List Int} (h : (scr d st).2 = false) : (scr d st).1 = [] := by
  unfold scr at h ⊢
  split
  · rename_i hc
    rw [if_pos hc] at h
    exact (render_eq _).2.2 h
  · rfl
def screen (s : Bs) : Bool := decide ((s.length : Int) ≤ 2000) && s.all prn
theorem scr_screen (d : Dic) (st : List Int) : screen (scr d st).1 = true := by
  unfold screen scr
  simp only [Bool.and_eq_true, decide_eq_true_eq, List.all_eq_true]
  split
  · have := render_len (atomsOf st (segA d st))
    unfold scrA
    exact ⟨by omega, this.2⟩
  · exact ⟨by simp, by simp⟩
theorem screen_len {s : Bs} (h : screen s = true) : s.length ≤ 2000 := by
  unfold screen at h
  simp only [Bool.and_eq_true, decide_eq_true_eq] at h
  omega
theorem scr_len (d : Dic) (st : List Int) : (scr d st).1.length ≤ 2000 := screen_len (scr_screen d st)
theorem slist_len {st : List Int} (h : slist st = true) : st.length ≤ 60 := by
  unfold slist at h
  simp only [Bool.and_eq_true, decide_eq_true_eq] at h
  exact h.1
def lcp : Bs → Bs → Nat
  | a :: x, b :: y => if a = b then lcp x y + 1 else 0
  | _, _ => 0
def least (a b : Bs) : Edit := (((a.length - lcp a b : Nat) : Int), b.drop (lcp a b))
theorem lcp_of : ∀ (n : Nat) (a b : Bs), a.take n = b.take n → n ≤ a.length → n ≤ b.length → (n = a.length ∨ n = b.length ∨ ∃ (h1 : n < a.length) (h2 : n < b.length), a[n] ≠ b[n]) → lcp a b = n
  | 0, a, b, _, _, _, h => by
    cases a with
    | nil => simp [lcp]
    | cons a x =>
      cases b with
      | nil => simp [lcp]
      | cons b y =>
        rcases h with h | h | ⟨_, _, h⟩
        · simp at h
        · simp at h
        · unfold lcp
          rw [if_neg (by simpa using h)]
  | n + 1, a, b, ht, h1, h2, h => by
    cases a with
    | nil => simp at h1
    | cons a x =>
      cases b with
      | nil => simp at h2
      | cons b y =>
        simp only [List.take_succ_cons, List.cons.injEq, List.length_cons] at ht h1 h2 h
        unfold lcp
        rw [if_pos ht.1, lcp_of n x y ht.2 (by omega) (by omega) ?_]
        rcases h with h | h | ⟨h3, h4, h⟩
        · exact .inl (by omega)
        · exact .inr (.inl (by omega))
        · exact .inr (.inr ⟨by simpa using h3, by simpa using h4, by simpa using h⟩)
def trans (d : Dic) (t : Tr) : Bool := (scr d t.1).2 && ((scr d t.1).1 == t.2 && !t.1.contains 1024)
def next (l : List Int) (k : Int) : List Int := if k = 1024 then l.take (l.length - 1) else l ++ [k]
def tr0 : Tr := ([], [])
theorem trans_parts {d : Dic} {t : Tr} (h : trans d t = true) : (scr d t.1).2 = true ∧ (scr d t.1).1 = t.2 ∧ t.1.contains 1024 = false := by
  unfold trans at h
  simp only [Bool.and_eq_true, beq_iff_eq, Bool.not_eq_true'] at h
  exact h
theorem trans_screen {d : Dic} {t : Tr} (h : trans d t = true) : screen t.2 = true := (trans_parts h).2.1 ▸ scr_screen d t.1
end Go.Proofs.YtpkahblajgaemaaGreatDoor.P
namespace Go.Proofs.YtpkahblajgaemaaGreatDoor.P
theorem segs_mem {d : Dic} {st : List Int} {p : Pc} : ∀ {f a : Nat}, p ∈ segs d st f a → ∃ b, b < st.length ∧ p = matchA d st b
  | 0, _, h => by cases h
  | f + 1, a, h => by
    unfold segs at h
    split at h
    · rename_i hlt
      rcases List.mem_cons.1 h with h | h
      · exact ⟨a, hlt, h⟩
      · exact segs_mem h
    · cases h
theorem matchN_text {d : Dic} {st : List Int} (hd : dic d = true) (a : Nat) : ∀ n : Nat, (matchN d st a n).2 = [] ∨ (transS (matchN d st a n).2).2 = true
  | 0 => .inl rfl
  | n + 1 => by
    unfold matchN
    split
    · rename_i h
      right
      have hm := mem_textAt h
      unfold dic at hd
      simp only [Bool.and_eq_true, List.all_eq_true] at hd
      have he := hd.2.1 _ hm
      unfold entry at he
      simp only [Bool.and_eq_true] at he
      exact he.2
    · exact matchN_text hd a n
theorem seg_piece {d : Dic} {st : List Int} (hd : dic d = true) {p : Pc} (h : p ∈ segA d st) : ∃ a k : Nat, a < st.length ∧ p.1 = ((a : Int), (k : Int)) ∧ (p.2 = [] ∨ (transS p.2).2 = true) := by
  obtain ⟨b, hb, rfl⟩ := segs_mem h
  obtain ⟨k, hk, _⟩ := matchN_cnt d st b (min 6 (st.length - b))
  exact ⟨b, k, hb, hk, matchN_text hd b _⟩
theorem segA_len (d : Dic) (st : List Int) : (segA d st).length ≤ st.length := segs_len
theorem stroke_nat {st : List Int} (h : slist st = true) {a : Nat} (ha : a < st.length) : ∃ m : Nat, st[a] = (m : Int) ∧ stroke (m : Int) = true ∧ st.getD a 0 = (m : Int) := by
  unfold slist at h
  simp only [Bool.and_eq_true, List.all_eq_true] at h
  have hs := h.2 _ (List.getElem_mem ha)
  have h1 := hs
  unfold stroke at h1
  simp only [decide_eq_true_eq] at h1
  obtain ⟨m, hm⟩ := Int.eq_ofNat_of_zero_le (show 0 ≤ st[a] by omega)
  refine ⟨m, hm, by rw [← hm]; exact hs, ?_⟩
  rw [List.getD_eq_getElem?_getD, List.getElem?_eq_getElem ha]
  exact hm
theorem atoms_word {st : List Int} {p : Pc} {a : Nat} (h : p.2 = []) (h1 : p.1.1 = (a : Int)) : pcAtoms st p = [(1, raw (st.getD a 0))] := by
  unfold pcAtoms
  rw [if_pos h, h1, Int.toNat_natCast]
theorem atoms_trans {st : List Int} {p : Pc} (h : p.2 ≠ []) : pcAtoms st p = (transS p.2).1 := by
  unfold pcAtoms
  rw [if_neg h]
theorem trans_len60 {s : Bs} (h : (transS s).2 = true) : s.length ≤ 60 := by
  by_cases hl : 60 < s.length
  · unfold transS at h
    rw [if_pos hl] at h
    cases h
  · omega
theorem trans_atoms {s : Bs} (h : (transS s).2 = true) : ∀ x ∈ (transS s).1, atom x.1 x.2 = true := by
  unfold transS at h ⊢
  by_cases h0 : 60 < s.length
  · rw [if_pos h0] at h; cases h
  rw [if_neg h0] at h ⊢
  cases hl : atoms (split 32 s) with
  | none => rw [hl] at h; cases h
  | some l =>
    rw [hl] at h
    simp only at h ⊢
    by_cases h2 : listS l = true
    · rw [if_pos h2]
      unfold listS at h2
      simp only [Bool.and_eq_true, List.all_eq_true] at h2
      exact h2.2.1
    · rw [if_neg h2] at h
      cases h
theorem pcAtoms_text {st : List Int} {p : Pc} (h : p.2 = [] ∨ (transS p.2).2 = true) : ∀ x ∈ pcAtoms st p, x.2.length ≤ 46 := by
  intro x hx
  by_cases hp : p.2 = []
  · unfold pcAtoms at hx
    rw [if_pos hp, List.mem_singleton] at hx
    rw [hx]
    exact raw_len _
  · rw [atoms_trans hp] at hx
    have := (atom_text (trans_atoms (h.resolve_left hp) x hx)).2
    omega
theorem atomsOf_text {st : List Int} {l : List Pc} (h : ∀ p ∈ l, ∃ a k : Nat, a < st.length ∧ p.1 = ((a : Int), (k : Int)) ∧ (p.2 = [] ∨ (transS p.2).2 = true)) : ∀ x ∈ atomsOf st l, x.2.length ≤ 2 ^ 29 := by
  intro x hx
  unfold atomsOf at hx
  rw [List.mem_flatMap] at hx
  obtain ⟨p, hp, hx⟩ := hx
  obtain ⟨_, _, _, _, h3⟩ := h p hp
  have := pcAtoms_text h3 x hx
  omega
end Go.Proofs.YtpkahblajgaemaaGreatDoor.P
