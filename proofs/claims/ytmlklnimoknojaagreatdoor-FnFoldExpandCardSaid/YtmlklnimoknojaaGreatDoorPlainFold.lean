/- Plain: folds: a key of the last stroke that stands for a suffix; the look-up with folds; a dictionary with all folded outlines. -/
import Derived.Test.YtmlklnimoknojaaGreatDoorPlainLook
namespace Go.Proofs.YtmlklnimoknojaaGreatDoor.P
abbrev Fold := Int × Bs
abbrev Folds := List Fold
def lower (b : UInt8) : Bool := decide (97 ≤ (b.toNat : Int)) && decide ((b.toNat : Int) ≤ 122)
def suffix (s : Bs) : Bool := s.all lower && decide (1 ≤ (s.length : Int) ∧ (s.length : Int) ≤ 8)
def keyOk (k : Int) : Bool := decide (13 ≤ k ∧ k ≤ 22)
def fold (f : Fold) : Bool := keyOk f.1 && suffix f.2
def other (a b : Fold) : Prop := a.1 ≠ b.1
instance : DecidableRel other := fun a b => inferInstanceAs (Decidable (a.1 ≠ b.1))
def foldsOk (l : Folds) : Bool := decide ((l.length : Int) ≤ 6) && (l.all fold && decide (l.Pairwise other))
theorem all_false {s : Bs} {k : Nat} (h : k < s.length) (hb : lower s[k] = false) : s.all lower = false := by
  rw [List.all_eq_false]; exact ⟨s[k], List.getElem_mem h, by simp [hb]⟩
theorem lower_no {b : UInt8} (h : (b.toNat : Int) < 97 ∨ 122 < (b.toNat : Int)) : lower b = false := by
  unfold lower
  rcases h with h | h
  · rw [decide_eq_false (by omega)]; rfl
  · rw [decide_eq_false (p := (b.toNat : Int) ≤ 122) (by omega), Bool.and_false]
theorem lower_yes {b : UInt8} (h : 97 ≤ (b.toNat : Int)) (h2 : (b.toNat : Int) ≤ 122) : lower b = true := by
  unfold lower; rw [decide_eq_true h, decide_eq_true h2]; rfl
/-- a stroke has a key -/
def hasK (n k : Int) : Bool := n.toNat.testBit k.toNat
def lastI (o : List Int) : Int := o.getD (o.length - 1) 0
def bitI (k : Int) : Int := ((2 ^ k.toNat : Nat) : Int)
/-- the outline without the key in its last stroke -/
def unf (k : Int) (o : List Int) : Option (List Int) :=
  if hasK (lastI o) k && !decide (lastI o = bitI k) then some (o.take (o.length - 1) ++ [lastI o - bitI k]) else none
/-- the outline with the key in its last stroke -/
def into (k : Int) (o : List Int) : Option (List Int) :=
  if hasK (lastI o) k then none else some (o.take (o.length - 1) ++ [lastI o + bitI k])
def foldTxt (t : Bs) (f : Fold) : Bs := ((t ++ [32, 123, 94]) ++ f.2) ++ [125]
def foldT (t : Bs) (f : Fold) : Option Bs := if (transS t).2 && (transS (foldTxt t f)).2 then some (foldTxt t f) else none
/-- what an outline gives by one fold -/
def hit (d : Dic) (o : List Int) (f : Fold) : Option Bs := (unf f.1 o).bind fun r => if hasE r d then foldT (textAt r d) f else none
def lookG (d : Dic) (o : List Int) : Nat → Folds → Bs × Int × Bool
  | _, [] => ([], 0, false)
  | i, f :: l => match hit d o f with
    | some x => (x, (i : Int), true)
    | none => lookG d o (i + 1) l
def lookF (d : Dic) (l : Folds) (o : List Int) : Bs × Int × Bool := if hasE o d then (textAt o d, -1, true) else lookG d o 0 l
theorem lookG_end {d : Dic} {o : List Int} {l : Folds} {j : Nat} (h : l.length ≤ j) : lookG d o j (l.drop j) = ([], 0, false) := by
  rw [List.drop_of_length_le h]; rfl
theorem lookG_hit {d : Dic} {o : List Int} {l : Folds} {j : Nat} (h : j < l.length) {x : Bs} (hx : hit d o l[j] = some x) : lookG d o j (l.drop j) = (x, (j : Int), true) := by
  rw [List.drop_eq_getElem_cons h]; unfold lookG; rw [hx]
theorem lookG_miss {d : Dic} {o : List Int} {l : Folds} {j : Nat} (h : j < l.length) (hx : hit d o l[j] = none) : lookG d o j (l.drop j) = lookG d o (j + 1) (l.drop (j + 1)) := by
  rw [List.drop_eq_getElem_cons h]
  show (match hit d o l[j] with | some x => (x, (j : Int), true) | none => lookG d o (j + 1) (l.drop (j + 1))) = _
  rw [hx]
theorem lookF_has {d : Dic} {l : Folds} {o : List Int} (h : hasE o d = true) : lookF d l o = (textAt o d, -1, true) := by unfold lookF; rw [if_pos h]
theorem lookF_not {d : Dic} {l : Folds} {o : List Int} (h : hasE o d = false) : lookF d l o = lookG d o 0 l := by unfold lookF; rw [h]; rfl
/-- what the look-up with folds answers: nothing if its arguments are not valid -/
def lookFD (d : Dic) (l : Folds) (o : List Int) : Bs × Int × Bool := if dic d && (foldsOk l && outline o) then lookF d l o else ([], 0, false)
/-- the entry of a folded outline -/
def cand (d : Dic) (l : Folds) (o : List Int) (f : Fold) : Option Ent :=
  (into f.1 o).bind fun q => if (lookF d l q).2.2 && decide (0 ≤ (lookF d l q).2.1) then some (q, (lookF d l q).1) else none
def foS (d : Dic) (l : Folds) (o : List Int) (out : Dic) (f : Fold) : Dic := match cand d l o f with
  | none => out
  | some x => putF x false out
def foI (d : Dic) (l : Folds) (o : List Int) (out : Dic) (f : Fold) : Dic := match cand d l o f with
  | none => out
  | some x => if hasE x.1 out then out else out ++ [x]
def rowS (d : Dic) (l : Folds) (m : Folds) (out : Dic) (e : Ent) : Dic := m.foldl (foS d l e.1) out
def rowI (d : Dic) (l : Folds) (m : Folds) (out : Dic) (e : Ent) : Dic := m.foldl (foI d l e.1) out
/-- the dictionary with all folded outlines: the reference's, the program's before it is put in order -/
def expS (d : Dic) (l : Folds) : Dic := d.foldl (rowS d l l) d
def expI (d : Dic) (l : Folds) : Dic := d.foldl (rowI d l l) d
theorem fold_rel {α β γ : Type} {R : α → β → Prop} {f : α → γ → α} {g : β → γ → β} : ∀ (l : List γ) (a : α) (b : β), (∀ a b x, x ∈ l → R a b → R (f a x) (g b x)) → R a b → R (l.foldl f a) (l.foldl g b)
  | [], _, _, _, h => h
  | x :: l, a, b, hs, h => fold_rel l (f a x) (g b x) (fun a b y hy => hs a b y (by simp [hy])) (hs a b x (by simp) h)
theorem foldl_take_succ {α β : Type} (f : α → β → α) (a : α) (l : List β) (j : Nat) (h : j < l.length) : (l.take (j + 1)).foldl f a = f ((l.take j).foldl f a) l[j] := by
  rw [List.take_add_one, List.foldl_append, List.getElem?_eq_getElem h]; rfl
def goodF (d : Dic) (l : Folds) (x : Ent) : Prop := x ∈ d ∨ ∃ o f, cand d l o f = some x
theorem cand_look {d : Dic} {l : Folds} {o : List Int} {f : Fold} {x : Ent} (h : cand d l o f = some x) : ∃ i : Int, 0 ≤ i ∧ lookF d l x.1 = (x.2, i, true) := by
  unfold cand at h
  cases hq : into f.1 o with
  | none => rw [hq] at h; cases h
  | some q =>
    rw [hq] at h
    simp only [Option.bind_some] at h
    split at h
    · rename_i hc
      simp only [Bool.and_eq_true, decide_eq_true_eq] at hc
      injection h with h
      subst h
      exact ⟨_, hc.2, by rw [← hc.1]⟩
    · cases h
theorem good_look {d : Dic} {l : Folds} {x : Ent} (hd : d.Pairwise lt) (h : goodF d l x) : ∃ i : Int, lookF d l x.1 = (x.2, i, true) := by
  rcases h with h | ⟨o, f, h⟩
  · exact ⟨-1, by rw [lookF_has (hasE_iff.2 ⟨x, h, rfl⟩), textAt_mem hd h]⟩
  · obtain ⟨i, _, h⟩ := cand_look h
    exact ⟨i, h⟩
theorem good_one {d : Dic} {l : Folds} {x y : Ent} (hd : d.Pairwise lt) (hx : goodF d l x) (hy : goodF d l y) (h : x.1 = y.1) : x = y := by
  obtain ⟨i, h1⟩ := good_look hd hx
  obtain ⟨j, h2⟩ := good_look hd hy
  rw [h, h2] at h1
  injection h1 with h1 _
  exact Prod.ext h h1.symm
theorem putF_perm (e : Ent) : ∀ l : Dic, (putF e false l).Perm (e :: del e.1 l)
  | [] => by simp [putF, del]
  | y :: l => by
    unfold putF
    rw [Bool.not_false, Bool.and_true, Bool.false_or]
    by_cases h0 : 0 ≤ cmp y.1 e.1
    · rw [decide_eq_true h0, if_pos rfl, putF_true]
      by_cases h1 : y.1 = e.1
      · rw [if_pos (by rw [h1, cmp_refl]; decide)]
        have : del e.1 (y :: l) = del e.1 l := by unfold del; rw [List.filter_cons_of_neg (by simp [h1])]
        rw [this]; exact List.Perm.refl _
      · rw [if_neg (by simp; exact fun h' => h1 (cmp_eq _ _ h'))]
        have : del e.1 (y :: l) = y :: del e.1 l := by unfold del; rw [List.filter_cons_of_pos (by simp [h1])]
        rw [this]; exact List.Perm.refl _
    · have h1 : y.1 ≠ e.1 := fun h => h0 (by rw [h, cmp_refl]; decide)
      rw [decide_eq_false h0, if_neg (by decide), if_neg (by simp; exact fun h' => h1 (cmp_eq _ _ h'))]
      have : del e.1 (y :: l) = y :: del e.1 l := by unfold del; rw [List.filter_cons_of_pos (by simp [h1])]
      rw [this]
      show (y :: putF e false l).Perm (e :: y :: del e.1 l)
      exact ((putF_perm e l).cons y).trans (List.Perm.swap _ _ _)
/-- the reference's row beside the program's -/
structure Beside (d : Dic) (l : Folds) (a b : Dic) : Prop where
  up : a.Pairwise lt
  pm : a.Perm b
  gd : ∀ x ∈ a, goodF d l x
  len : d.length ≤ b.length
theorem Beside.step {d : Dic} {l : Folds} {a b : Dic} (hd : d.Pairwise lt) (h : Beside d l a b) (o : List Int) (f : Fold) : Beside d l (foS d l o a f) (foI d l o b f) := by
  obtain ⟨h1, h2, h3, h4⟩ := h
  unfold foS foI
  cases hc : cand d l o f with
  | none => exact ⟨h1, h2, h3, h4⟩
  | some x =>
    simp only
    have hgx : goodF d l x := .inr ⟨o, f, hc⟩
    have hup : (putF x false a).Pairwise lt := putF_rising x a h1
    cases hh : hasE x.1 b with
    | true =>
      rw [if_pos rfl]
      obtain ⟨y, hy, he⟩ := hasE_iff.1 hh
      have hya : y ∈ a := h2.mem_iff.2 hy
      obtain rfl : y = x := good_one hd (h3 y hya) hgx he
      have : putF y false a = a := rising_one _ _ hup h1 fun z => by
        rw [putF_mem, del_mem]
        constructor
        · rintro (rfl | h)
          · exact hya
          · exact h.1
        · intro hz
          by_cases e : z.1 = y.1
          · exact .inl (good_one hd (h3 z hz) hgx e)
          · exact .inr ⟨hz, e⟩
      rw [this]
      exact ⟨h1, h2, h3, h4⟩
    | false =>
      rw [if_neg (by decide)]
      have hdel : del x.1 a = a := by
        unfold del
        rw [List.filter_eq_self]
        intro z hz
        have : z.1 ≠ x.1 := fun e => by
          have := hasE_iff.2 ⟨z, h2.mem_iff.1 hz, e⟩
          rw [hh] at this; cases this
        simp [this]
      refine ⟨hup, ?_, ?_, by rw [List.length_append]; omega⟩
      · have hp := putF_perm x a
        rw [hdel] at hp
        exact (hp.trans (h2.cons x)).trans (List.perm_append_singleton x b).symm
      · intro z hz
        rcases (putF_mem x a z).1 hz with rfl | hz
        · exact hgx
        · exact h3 z (del_mem.1 hz).1
theorem beside_row {d : Dic} {l m : Folds} {a b : Dic} (hd : d.Pairwise lt) (h : Beside d l a b) (e : Ent) : Beside d l (rowS d l m a e) (rowI d l m b e) :=
  fold_rel (R := Beside d l) m a b (fun _ _ f _ h => h.step hd e.1 f) h
theorem beside_all {d : Dic} {l : Folds} (hd : d.Pairwise lt) : Beside d l (expS d l) (expI d l) :=
  fold_rel (R := Beside d l) d d d (fun _ _ e _ h => beside_row hd h e) ⟨hd, List.Perm.refl _, fun _ hx => .inl hx, Nat.le_refl _⟩
theorem exp_ne {d : Dic} {l : Folds} (hd : d.Pairwise lt) : (expI d l).Pairwise fun a b => a.1 ≠ b.1 := by
  have h := beside_all (l := l) hd
  exact (h.pm.pairwise_iff (fun {a b} hab e => hab e.symm)).1 (pairwise_ne h.up)
theorem exp_len {d : Dic} {l : Folds} (hd : d.Pairwise lt) : d.length ≤ (expS d l).length := by
  have h := beside_all (l := l) hd
  rw [h.pm.length_eq]; exact h.len
theorem exp_look {d : Dic} {l : Folds} (hd : d.Pairwise lt) {x : Ent} (hx : x ∈ expS d l) : ∃ i : Int, lookF d l x.1 = (x.2, i, true) := good_look hd ((beside_all hd).gd x hx)
def expOk (d : Dic) (l : Folds) : Bool := dic d && (foldsOk l && dic (expS d l))
theorem expOk_look {d : Dic} {l : Folds} (h : expOk d l = true) {x : Ent} (hx : x ∈ expS d l) : ∃ i : Int, lookFD d l x.1 = (x.2, i, true) := by
  unfold expOk at h
  simp only [Bool.and_eq_true] at h
  obtain ⟨i, hi⟩ := exp_look (pair_of_dic h.1) hx
  have hen : entry x = true := by
    have h3 := h.2.2
    unfold dic at h3
    simp only [Bool.and_eq_true, List.all_eq_true] at h3
    exact h3.2.1 x hx
  have ho : outline x.1 = true := by unfold entry at hen; simp only [Bool.and_eq_true] at hen; exact hen.1
  exact ⟨i, by unfold lookFD; rw [h.1, h.2.1, ho]; exact hi⟩
/-- an entry is overridden by a fold -/
def over (d : Dic) (f : Fold) (o : List Int) : Bool := match unf f.1 o with
  | none => false
  | some r => hasE r d
def overs (d : Dic) (l : Folds) : List (List Int) := (d.filter fun e => l.any fun f => over d f e.1).map (·.1)
end Go.Proofs.YtmlklnimoknojaaGreatDoor.P
