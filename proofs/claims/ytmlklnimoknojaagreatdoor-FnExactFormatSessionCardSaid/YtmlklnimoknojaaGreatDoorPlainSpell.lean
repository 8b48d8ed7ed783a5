/- Plain: an outline looked up in a dictionary and in a stack of layers; what a flattened stack holds; what is shadowed. -/
import Derived.Test.YtmlklnimoknojaaGreatDoorLayB
namespace Go.Proofs.YtmlklnimoknojaaGreatDoor
namespace P
/-- the text of an outline -/
def textAt (o : List Int) : Dic → Bs
  | [] => []
  | e :: l => if e.1 = o then e.2 else textAt o l
def hasE (o : List Int) (l : Dic) : Bool := decide (0 ≤ place o l)
theorem hasE_cons (o : List Int) (e : Ent) (l : Dic) : hasE o (e :: l) = (decide (e.1 = o) || hasE o l) := by
  have := place_lo o l
  unfold hasE
  rw [place]
  by_cases h : e.1 = o
  · simp [h]
  · rw [if_neg h, decide_eq_false h, Bool.false_or]
    split <;> (apply decide_eq_decide.2; omega)
theorem textAt_place {o : List Int} : ∀ {l : Dic} {i : Nat} (_ : place o l = i) (hi : i < l.length), (l[i]'hi).2 = textAt o l
  | e :: l, i, h, hi => by
    have h0 := place_lo o l
    unfold place at h
    unfold textAt
    by_cases he : e.1 = o
    · rw [if_pos he] at h ⊢
      obtain rfl : i = 0 := by omega
      rfl
    · rw [if_neg he] at h ⊢
      split at h
      · omega
      · obtain ⟨k, rfl⟩ : ∃ k : Nat, i = k + 1 := ⟨i - 1, by omega⟩
        exact textAt_place (l := l) (i := k) (by omega) (by simpa using hi)
theorem textAt_not {o : List Int} : ∀ {l : Dic}, hasE o l = false → textAt o l = []
  | [], _ => rfl
  | e :: l, h => by
    rw [hasE_cons, Bool.or_eq_false_iff, decide_eq_false_iff_not] at h
    unfold textAt
    rw [if_neg h.1]
    exact textAt_not h.2
theorem mem_textAt {o : List Int} : ∀ {l : Dic}, hasE o l = true → (o, textAt o l) ∈ l
  | [], h => by simp [hasE, place] at h
  | e :: l, h => by
    rw [hasE_cons, Bool.or_eq_true, decide_eq_true_eq] at h
    unfold textAt
    by_cases he : e.1 = o
    · rw [if_pos he, ← he]; simp
    · rw [if_neg he]
      exact List.mem_cons_of_mem _ (mem_textAt (h.resolve_left he))
end P
end Go.Proofs.YtmlklnimoknojaaGreatDoor

namespace Go.Proofs.YtmlklnimoknojaaGreatDoor.P
abbrev Pc := (Int × Int) × Bs
/-- the longest piece of at most n strokes -/
def matchN (d : Dic) (st : List Int) (a : Nat) : Nat → Pc
  | 0 => (((a : Int), 1), [])
  | n + 1 => if hasE ((st.drop a).take (n + 1)) d then (((a : Int), ((n + 1 : Nat) : Int)), textAt ((st.drop a).take (n + 1)) d) else matchN d st a n
def matchA (d : Dic) (st : List Int) (a : Nat) : Pc := matchN d st a (min 6 (st.length - a))
def segs (d : Dic) (st : List Int) : Nat → Nat → List Pc
  | 0, _ => []
  | f + 1, a => if a < st.length then matchA d st a :: segs d st f (a + (matchA d st a).1.2.toNat) else []
def segA (d : Dic) (st : List Int) : List Pc := segs d st st.length 0
theorem matchN_cnt (d : Dic) (st : List Int) (a : Nat) : ∀ n : Nat, ∃ k : Nat, (matchN d st a n).1 = ((a : Int), (k : Int)) ∧ 1 ≤ k ∧ k ≤ max n 1
  | 0 => ⟨1, rfl, by omega, by omega⟩
  | n + 1 => by
    unfold matchN
    split
    · exact ⟨n + 1, rfl, by omega, by omega⟩
    · obtain ⟨k, h1, h2, h3⟩ := matchN_cnt d st a n
      exact ⟨k, h1, h2, by omega⟩
theorem matchA_cnt {d : Dic} {st : List Int} {a : Nat} (h : a < st.length) : ∃ k : Nat, (matchA d st a).1 = ((a : Int), (k : Int)) ∧ 1 ≤ k ∧ a + k ≤ st.length := by
  obtain ⟨k, h1, h2, h3⟩ := matchN_cnt d st a (min 6 (st.length - a))
  exact ⟨k, h1, h2, by omega⟩
theorem segs_end {d : Dic} {st : List Int} {f a : Nat} (h : st.length ≤ a) : segs d st f a = [] := by
  cases f with
  | zero => rfl
  | succ f => unfold segs; rw [if_neg (by omega)]
theorem segs_step {d : Dic} {st : List Int} {f a : Nat} (h : a < st.length) (hf : st.length - a ≤ f) {k : Nat} (hk : (matchA d st a).1 = ((a : Int), (k : Int))) (h1 : 1 ≤ k) :
    ∃ f' : Nat, st.length - (a + k) ≤ f' ∧ segs d st f a = matchA d st a :: segs d st f' (a + k) := by
  obtain ⟨f', rfl⟩ : ∃ f', f = f' + 1 := ⟨f - 1, by omega⟩
  refine ⟨f', by omega, ?_⟩
  conv => lhs; unfold segs
  rw [if_pos h, hk]
  rfl
theorem segs_len {d : Dic} {st : List Int} : ∀ {f a : Nat}, (segs d st f a).length ≤ f
  | 0, _ => Nat.zero_le _
  | f + 1, a => by
    unfold segs
    split
    · rw [List.length_cons]; have := segs_len (d := d) (st := st) (f := f) (a := a + (matchA d st a).1.2.toNat); omega
    · simp
end Go.Proofs.YtmlklnimoknojaaGreatDoor.P

namespace Go.Proofs.YtmlklnimoknojaaGreatDoor.P
abbrev Fold := Int × Bs
def lower (b : UInt8) : Bool := decide (97 ≤ (b.toNat : Int)) && decide ((b.toNat : Int) ≤ 122)
def suffix (s : Bs) : Bool := s.all lower && decide (1 ≤ (s.length : Int) ∧ (s.length : Int) ≤ 8)
def keyOk (k : Int) : Bool := decide (13 ≤ k ∧ k ≤ 22)
def fold (f : Fold) : Bool := keyOk f.1 && suffix f.2
def other (a b : Fold) : Prop := a.1 ≠ b.1
instance : DecidableRel other := fun a b => inferInstanceAs (Decidable (a.1 ≠ b.1))
theorem all_false {s : Bs} {k : Nat} (h : k < s.length) (hb : lower s[k] = false) : s.all lower = false := by
  rw [List.all_eq_false]; exact ⟨s[k], List.getElem_mem h, by simp [hb]⟩
theorem lower_no {b : UInt8} (h : (b.toNat : Int) < 97 ∨ 122 < (b.toNat : Int)) : lower b = false := by
  unfold lower
  rcases h with h | h
  · rw [decide_eq_false (by omega)]; rfl
  · rw [decide_eq_false (p := (b.toNat : Int) ≤ 122) (by omega), Bool.and_false]
theorem lower_yes {b : UInt8} (h : 97 ≤ (b.toNat : Int)) (h2 : (b.toNat : Int) ≤ 122) : lower b = true := by
  unfold lower; rw [decide_eq_true h, decide_eq_true h2]; rfl
/-- a stroke has a key -/
def hasK (n k : Int) : Bool := n.toNat.testBit k.toNat
def lastI (o : List Int) : Int := o.getD (o.length - 1) 0
def bitI (k : Int) : Int := ((2 ^ k.toNat : Nat) : Int)
/-- the outline without the key in its last stroke -/
def unf (k : Int) (o : List Int) : Option (List Int) :=
  if hasK (lastI o) k && !decide (lastI o = bitI k) then some (o.take (o.length - 1) ++ [lastI o - bitI k]) else none
/-- the outline with the key in its last stroke -/
def into (k : Int) (o : List Int) : Option (List Int) :=
  if hasK (lastI o) k then none else some (o.take (o.length - 1) ++ [lastI o + bitI k])
/-- an entry is overridden by a fold -/
def over (d : Dic) (f : Fold) (o : List Int) : Bool := match unf f.1 o with
  | none => false
  | some r => hasE r d
end Go.Proofs.YtmlklnimoknojaaGreatDoor.P

namespace Go.Proofs.YtmlklnimoknojaaGreatDoor.P
def vow (b : UInt8) : Bool := b == 97 || (b == 101 || (b == 105 || (b == 111 || b == 117)))
def isWord (s : Bs) : Bool := s.all lower && decide (1 ≤ (s.length : Int) ∧ (s.length : Int) ≤ 24)
/-- a run of vowels vbegins here -/
def vbegins (s : Bs) (k : Nat) : Bool := vow (s.getD k 0) && (decide (k = 0) || !vow (s.getD (k - 1) 0))
def vgroupsN (s : Bs) : Nat → Nat
  | 0 => 0
  | k + 1 => vgroupsN s k + (if vbegins s k then 1 else 0)
def vgroups (s : Bs) : Nat := vgroupsN s s.length
def ends (s e : Bs) : Bool := Go.Lib.hasSuffix s e
/-- the byte so many places before the end -/
def back (s : Bs) (k : Nat) : UInt8 := s.getD (s.length - k) 0
def consY (s : Bs) : Bool := decide (2 ≤ s.length) && (back s 1 == 121 && !vow (back s 2))
def wxy (b : UInt8) : Bool := b == 119 || (b == 120 || b == 121)
def closed (s : Bs) : Bool := decide (3 ≤ s.length) && (!vow (back s 3) && (vow (back s 2) && (!vow (back s 1) && !wxy (back s 1))))
def sib (s : Bs) : Bool := ends s [115] || (ends s [120] || (ends s [122] || (ends s [99, 104] || ends s [115, 104])))
def eoy (s : Bs) : Bool := ends s [101, 101] || (ends s [111, 101] || ends s [121, 101])
def dropE (s : Bs) : Bool := decide (2 ≤ s.length) && (ends s [101] && !eoy s)
def rule (w x : Bs) : Nat :=
  if (x == [115]) && consY w then 1
  else if (x == [115]) && sib w then 2
  else if (x == [105, 110, 103]) && ends w [105, 101] then 3
  else if consY w && !(x.getD 0 0 == 105) then 4
  else if dropE w && vow (x.getD 0 0) then 5
  else if decide (vgroups w = 1) && (closed w && vow (x.getD 0 0)) then 6 else 0
def joinW (w x : Bs) : Bs :=
  match rule w x with
  | 1 => w.take (w.length - 1) ++ [105, 101, 115]
  | 2 => w ++ [101, 115]
  | 3 => w.take (w.length - 2) ++ [121, 105, 110, 103]
  | 4 => (w.take (w.length - 1) ++ [105]) ++ x
  | 5 => w.take (w.length - 1) ++ x
  | 6 => (w ++ w.drop (w.length - 1)) ++ x
  | _ => w ++ x
def joinS (w x : Bs) : Bs × Bool := if isWord w && isWord x then (if 24 < (joinW w x).length then ([], false) else (joinW w x, true)) else ([], false)
theorem ends_len {s e : Bs} (h : ends s e = true) : e.length ≤ s.length := by
  unfold ends Go.Lib.hasSuffix at h
  exact (List.isSuffixOf_iff_suffix.1 h).length_le
theorem ends_raw (s e : Bs) : (decide (e.length ≤ s.length) && (s.drop (s.length - e.length) == e)) = ends s e := Go.Lib.hasSuffix_of_drop s e
theorem ends_one {s : Bs} (c : UInt8) (h : 1 ≤ s.length) : ends s [c] = (back s 1 == c) := by
  rw [← ends_raw, decide_eq_true (by simpa using h), Bool.true_and]
  have hd : s.drop (s.length - 1) = [back s 1] := by
    rw [List.drop_eq_getElem_cons (by omega), List.drop_of_length_le (by omega)]
    unfold back
    rw [List.getD_eq_getElem?_getD, List.getElem?_eq_getElem (by omega)]
    rfl
  show (s.drop (s.length - 1) == [c]) = _
  rw [hd]
  simp
/-- the program's test for the letters w, x and y -/
theorem ends_wxy {s : Bs} (h : 1 ≤ s.length) : (ends s [119] || (ends s [120] || ends s [121])) = wxy (back s 1) := by
  rw [ends_one _ h, ends_one _ h, ends_one _ h]; rfl
theorem rule_le (w x : Bs) : rule w x ≤ 6 := by
  unfold rule
  repeat' split
  all_goals omega
theorem consY_len {w : Bs} (h : consY w = true) : 2 ≤ w.length := by
  unfold consY at h
  simp only [Bool.and_eq_true, decide_eq_true_eq] at h
  exact h.1
theorem dropE_len {w : Bs} (h : dropE w = true) : 2 ≤ w.length := by
  unfold dropE at h
  simp only [Bool.and_eq_true, decide_eq_true_eq] at h
  exact h.1
theorem rule_len {w x : Bs} : (rule w x = 1 → 2 ≤ w.length) ∧ (rule w x = 3 → 2 ≤ w.length) ∧ (rule w x = 4 → 2 ≤ w.length) ∧ (rule w x = 5 → 2 ≤ w.length) := by
  unfold rule
  split
  · rename_i h; simp only [Bool.and_eq_true] at h; exact ⟨fun _ => consY_len h.2, by omega, by omega, by omega⟩
  split
  · omega
  split
  · rename_i h; simp only [Bool.and_eq_true] at h; exact ⟨by omega, fun _ => ends_len h.2, by omega, by omega⟩
  split
  · rename_i h; simp only [Bool.and_eq_true] at h; exact ⟨by omega, by omega, fun _ => consY_len h.1, by omega⟩
  split
  · rename_i h; simp only [Bool.and_eq_true] at h; exact ⟨by omega, by omega, by omega, fun _ => dropE_len h.1⟩
  split
  · omega
  · omega
theorem rule_len6 {w x : Bs} (h : rule w x = 6) : 3 ≤ w.length := by
  unfold rule at h
  split at h
  · omega
  split at h
  · omega
  split at h
  · omega
  split at h
  · omega
  split at h
  · omega
  split at h
  · rename_i hc
    simp only [Bool.and_eq_true] at hc
    have := hc.2.1
    unfold closed at this
    simp only [Bool.and_eq_true, decide_eq_true_eq] at this
    exact this.1
  · omega
theorem word_byte {s : Bs} (h : isWord s = true) : ∀ b ∈ s, lower b = true := by
  unfold isWord at h
  simp only [Bool.and_eq_true, List.all_eq_true] at h
  exact h.1
theorem isWord_len {s : Bs} (h : isWord s = true) : 1 ≤ s.length ∧ s.length ≤ 24 := by
  unfold isWord at h
  simp only [Bool.and_eq_true, decide_eq_true_eq] at h
  omega
theorem joinW_lower {w x : Bs} (hw : isWord w = true) (hx : isWord x = true) : ∀ b ∈ joinW w x, lower b = true := by
  have h1 := word_byte hw
  have h2 := word_byte hx
  have ht : ∀ (n : Nat), ∀ b ∈ w.take n, lower b = true := fun n b hb => h1 b (List.mem_of_mem_take hb)
  have hd : ∀ (n : Nat), ∀ b ∈ w.drop n, lower b = true := fun n b hb => h1 b (List.mem_of_mem_drop hb)
  intro b hb
  unfold joinW at hb
  split at hb <;> simp only [List.mem_append] at hb
  · rcases hb with hb | hb
    · exact ht _ b hb
    · exact (show ∀ b ∈ ([105, 101, 115] : Bs), lower b = true by decide) b hb
  · rcases hb with hb | hb
    · exact h1 b hb
    · exact (show ∀ b ∈ ([101, 115] : Bs), lower b = true by decide) b hb
  · rcases hb with hb | hb
    · exact ht _ b hb
    · exact (show ∀ b ∈ ([121, 105, 110, 103] : Bs), lower b = true by decide) b hb
  · rcases hb with (hb | hb) | hb
    · exact ht _ b hb
    · exact (show ∀ b ∈ ([105] : Bs), lower b = true by decide) b hb
    · exact h2 b hb
  · rcases hb with hb | hb
    · exact ht _ b hb
    · exact h2 b hb
  · rcases hb with (hb | hb) | hb
    · exact h1 b hb
    · exact hd _ b hb
    · exact h2 b hb
  · rcases hb with hb | hb
    · exact h1 b hb
    · exact h2 b hb
theorem joinW_len (w x : Bs) : (joinW w x).length ≤ w.length + x.length + 4 := by
  unfold joinW
  split <;> simp <;> omega
theorem joinS_parts {w x : Bs} (h : (joinS w x).2 = true) : (joinS w x).1.length ≤ 24 ∧ ∀ b ∈ (joinS w x).1, lower b = true := by
  unfold joinS at h ⊢
  split at h
  · rename_i hc
    simp only [Bool.and_eq_true] at hc
    split at h
    · cases h
    · rename_i hl
      rw [if_pos (by rw [hc.1, hc.2]; rfl), if_neg hl]
      exact ⟨by simpa using hl, joinW_lower hc.1 hc.2⟩
  · cases h
end Go.Proofs.YtmlklnimoknojaaGreatDoor.P
