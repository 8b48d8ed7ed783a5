/- Plain: an outline looked up in a dictionary and in a stack of layers; what a flattened stack holds; what is shadowed. -/
import Derived.Test.YtojcfpjoikmgcaaGreatDoorDelA
import Derived.Test.YtojcfpjoikmgcaaGreatDoorLayB
namespace Go.Proofs.YtojcfpjoikmgcaaGreatDoor
namespace P
/-- the text of an outline -/
def textAt (o : List Int) : Dic → Bs
  | [] => []
  | e :: l => if e.1 = o then e.2 else textAt o l
def hasE (o : List Int) (l : Dic) : Bool := decide (0 ≤ place o l)
theorem hasE_cons (o : List Int) (e : Ent) (l : Dic) : hasE o (e :: l) = (decide (e.1 = o) || hasE o l) := by
  have := place_lo o l
  unfold hasE
  rw [place]
  by_cases h : e.1 = o
  · simp [h]
  · rw [if_neg h, decide_eq_false h, Bool.false_or]
    split <;> (apply decide_eq_decide.2; omega)
theorem hasE_iff {o : List Int} : ∀ {l : Dic}, hasE o l = true ↔ ∃ x ∈ l, x.1 = o
  | [] => by simp [hasE, place]
  | e :: l => by
    rw [hasE_cons, Bool.or_eq_true, decide_eq_true_eq, hasE_iff]
    simp
theorem textAt_place {o : List Int} : ∀ {l : Dic} {i : Nat} (_ : place o l = i) (hi : i < l.length), (l[i]'hi).2 = textAt o l
  | e :: l, i, h, hi => by
    have h0 := place_lo o l
    unfold place at h
    unfold textAt
    by_cases he : e.1 = o
    · rw [if_pos he] at h ⊢
      obtain rfl : i = 0 := by omega
      rfl
    · rw [if_neg he] at h ⊢
      split at h
      · omega
      · obtain ⟨k, rfl⟩ : ∃ k : Nat, i = k + 1 := ⟨i - 1, by omega⟩
        exact textAt_place (l := l) (i := k) (by omega) (by simpa using hi)
theorem textAt_not {o : List Int} : ∀ {l : Dic}, hasE o l = false → textAt o l = []
  | [], _ => rfl
  | e :: l, h => by
    rw [hasE_cons, Bool.or_eq_false_iff, decide_eq_false_iff_not] at h
    unfold textAt
    rw [if_neg h.1]
    exact textAt_not h.2
theorem textAt_mem {x : Ent} : ∀ {l : Dic}, l.Pairwise lt → x ∈ l → textAt x.1 l = x.2
  | e :: l, hp, hx => by
    rw [List.pairwise_cons] at hp
    unfold textAt
    rcases List.mem_cons.1 hx with rfl | hx
    · rw [if_pos rfl]
    · have := hp.1 x hx
      have hne : ¬ e.1 = x.1 := fun h => by
        unfold lt at this
        rw [h, cmp_refl] at this
        exact absurd this (by decide)
      rw [if_neg hne]
      exact textAt_mem hp.2 hx
theorem mem_textAt {o : List Int} : ∀ {l : Dic}, hasE o l = true → (o, textAt o l) ∈ l
  | [], h => by simp [hasE, place] at h
  | e :: l, h => by
    rw [hasE_cons, Bool.or_eq_true, decide_eq_true_eq] at h
    unfold textAt
    by_cases he : e.1 = o
    · rw [if_pos he, ← he]; simp
    · rw [if_neg he]
      exact List.mem_cons_of_mem _ (mem_textAt (h.resolve_left he))
theorem pairwise_ne {l : Dic} (h : l.Pairwise lt) : l.Pairwise fun a b => a.1 ≠ b.1 := h.imp fun {a b} hab he => by
  unfold lt at hab
  rw [he, cmp_refl] at hab
  exact absurd hab (by decide)
/-- a layer shows an outline -/
def shows (o : List Int) (e : Lay) : Bool := e.2 && hasE o e.1
/-- the first layer that shows an outline, or -1 -/
def layAt (o : List Int) : Lays → Int
  | [] => -1
  | e :: l => if shows o e then 0 else if layAt o l < 0 then -1 else layAt o l + 1
def layText (o : List Int) : Lays → Bs
  | [] => []
  | e :: l => if shows o e then textAt o e.1 else layText o l
def layIdx (o : List Int) (l : Lays) : Int := if layAt o l < 0 then 0 else layAt o l
def layOk (o : List Int) (l : Lays) : Bool := decide (0 ≤ layAt o l)
theorem layAt_lo (o : List Int) : ∀ l : Lays, -1 ≤ layAt o l
  | [] => Int.le_refl _
  | e :: l => by
    have := layAt_lo o l
    unfold layAt
    split
    · decide
    · split <;> omega
theorem layAt_none {o : List Int} : ∀ {l : Lays}, (∀ (k : Nat) (h : k < l.length), shows o (l[k]'h) = false) → layAt o l = -1
  | [], _ => rfl
  | e :: l, h => by
    have h0 : shows o e = false := h 0 (Nat.succ_pos _)
    unfold layAt
    rw [if_neg (by rw [h0]; decide), if_pos]
    rw [layAt_none fun k hk => by have := h (k + 1) (by simpa using hk); simpa using this]
    decide
theorem layAt_at {o : List Int} : ∀ {l : Lays} (j : Nat) (hj : j < l.length), shows o (l[j]'hj) = true → (∀ (k : Nat) (h : k < j), shows o (l[k]'(by omega)) = false) → layAt o l = j ∧ layText o l = textAt o (l[j]'hj).1
  | e :: l, 0, _, h, _ => by
    unfold layAt layText
    have h' : shows o e = true := h
    rw [if_pos h', if_pos h']
    exact ⟨rfl, rfl⟩
  | e :: l, j + 1, hj, h, hn => by
    have h0 : shows o e = false := hn 0 (by omega)
    obtain ⟨i1, i2⟩ := layAt_at (o := o) (l := l) j (by simpa using hj) (by simpa using h) (fun k hk => by have := hn (k + 1) (by omega); simpa using this)
    unfold layAt layText
    have hs : ¬ shows o e = true := by rw [h0]; decide
    refine ⟨?_, ?_⟩
    · rw [if_neg hs, i1, if_neg (by omega)]; omega
    · rw [if_neg hs, i2]; rfl
theorem layAt_get {o : List Int} : ∀ {l : Lays} {i : Nat}, layAt o l = i → ∃ hi : i < l.length, shows o (l[i]'hi) = true ∧ layText o l = textAt o (l[i]'hi).1
  | [], i, h => by unfold layAt at h; omega
  | e :: l, i, h => by
    have h0 := layAt_lo o l
    unfold layAt at h
    unfold layText
    by_cases hs : shows o e = true
    · rw [if_pos hs] at h ⊢
      obtain rfl : i = 0 := by omega
      exact ⟨by simp, hs, rfl⟩
    · rw [if_neg hs] at h ⊢
      split at h
      · omega
      · obtain ⟨k, rfl⟩ : ∃ k : Nat, i = k + 1 := ⟨i - 1, by omega⟩
        obtain ⟨hi, h1, h2⟩ := layAt_get (l := l) (i := k) (show layAt o l = k by omega)
        exact ⟨by simp; omega, by simpa using h1, by simpa using h2⟩
theorem layText_not {o : List Int} : ∀ {l : Lays}, layAt o l < 0 → layText o l = []
  | [], _ => rfl
  | e :: l, h => by
    have h0 := layAt_lo o l
    unfold layAt at h
    unfold layText
    by_cases hs : shows o e = true
    · rw [if_pos hs] at h; omega
    · rw [if_neg hs] at h ⊢
      split at h
      · rename_i h1; exact layText_not h1
      · omega
theorem layAt_lt {o : List Int} {l : Lays} : layAt o l < l.length := by
  by_cases h : layAt o l < 0
  · omega
  · obtain ⟨i, hi⟩ := Int.eq_ofNat_of_zero_le (show 0 ≤ layAt o l by omega)
    obtain ⟨hl, _⟩ := layAt_get hi
    omega
/-- the entries that the first k layers from i on show, of all layers L -/
def vis (L : Lays) : Nat → Lays → Dic
  | _, [] => []
  | i, e :: l => e.1.filter (fun x => decide (layAt x.1 L = i)) ++ vis L (i + 1) l
def putAll (acc : Dic) (d : Dic) : Dic := d.foldl (fun a e => putF e false a) acc
/-- the reference's flattened stack -/
def flatS : Lays → Dic
  | [] => []
  | e :: l => if e.2 then putAll (flatS l) e.1 else flatS l
/-- an entry that a stack shows -/
def seen : Lays → Ent → Prop
  | [], _ => False
  | e :: l, x => if shows x.1 e then x ∈ e.1 else seen l x
theorem seen_iff {x : Ent} : ∀ {l : Lays}, seen l x ↔ ∃ (j : Nat) (hj : j < l.length), x ∈ (l[j]'hj).1 ∧ layAt x.1 l = j
  | [] => by simp [seen]
  | e :: l => by
    have h0 := layAt_lo x.1 l
    unfold seen layAt
    by_cases hs : shows x.1 e = true
    · rw [if_pos hs, if_pos hs]
      constructor
      · intro h; exact ⟨0, by simp, h, rfl⟩
      · rintro ⟨j, hj, h1, h2⟩
        obtain rfl : j = 0 := by omega
        exact h1
    · rw [if_neg hs, if_neg hs, seen_iff]
      constructor
      · rintro ⟨j, hj, h1, h2⟩
        exact ⟨j + 1, by simp; omega, by simpa using h1, by rw [if_neg (by omega)]; omega⟩
      · rintro ⟨j, hj, h1, h2⟩
        split at h2
        · omega
        · obtain ⟨k, rfl⟩ : ∃ k : Nat, j = k + 1 := ⟨j - 1, by omega⟩
          exact ⟨k, by simpa using hj, by simpa using h1, by omega⟩
theorem vis_mem {x : Ent} {L : Lays} : ∀ {l : Lays} {i : Nat}, x ∈ vis L i l ↔ ∃ (j : Nat) (hj : j < l.length), x ∈ (l[j]'hj).1 ∧ layAt x.1 L = (i + j : Nat)
  | [], i => by simp [vis]
  | e :: l, i => by
    unfold vis
    rw [List.mem_append, List.mem_filter, decide_eq_true_eq, vis_mem]
    constructor
    · rintro (⟨h1, h2⟩ | ⟨j, hj, h1, h2⟩)
      · exact ⟨0, by simp, h1, by rw [h2]; rfl⟩
      · exact ⟨j + 1, by simp; omega, by simpa using h1, by rw [h2]; congr 1; omega⟩
    · rintro ⟨j, hj, h1, h2⟩
      cases j with
      | zero => exact .inl ⟨h1, by rw [h2]; rfl⟩
      | succ j => exact .inr ⟨j, by simpa using hj, by simpa using h1, by rw [h2]; congr 1; omega⟩
theorem vis_seen {x : Ent} {L : Lays} : x ∈ vis L 0 L ↔ seen L x := by
  rw [vis_mem, seen_iff]
  simp
theorem vis_ne {L : Lays} : ∀ {l : Lays} {i : Nat}, (∀ e ∈ l, e.1.Pairwise lt) → (vis L i l).Pairwise fun a b => a.1 ≠ b.1
  | [], _, _ => List.Pairwise.nil
  | e :: l, i, h => by
    unfold vis
    rw [List.pairwise_append]
    refine ⟨List.Pairwise.filter _ (pairwise_ne (h e (by simp))), vis_ne fun e he => h e (by simp [he]), fun a ha b hb hab => ?_⟩
    rw [List.mem_filter, decide_eq_true_eq] at ha
    obtain ⟨j, _, _, h2⟩ := vis_mem.1 hb
    rw [← hab, ha.2] at h2
    omega
theorem putAll_rising (d : Dic) : ∀ acc : Dic, acc.Pairwise lt → (putAll acc d).Pairwise lt := by
  induction d with
  | nil => intro acc h; exact h
  | cons e d ih => intro acc h; exact ih _ (putF_rising e acc h)
theorem putAll_mem (d : Dic) (x : Ent) : ∀ acc : Dic, d.Pairwise lt → (x ∈ putAll acc d ↔ x ∈ d ∨ (x ∈ acc ∧ hasE x.1 d = false)) := by
  induction d with
  | nil => intro acc _; simp [putAll, hasE, place]
  | cons e d ih =>
    intro acc hd
    rw [List.pairwise_cons] at hd
    show x ∈ putAll (putF e false acc) d ↔ _
    rw [ih _ hd.2, putF_mem, del_mem, hasE_cons, Bool.or_eq_false_iff, decide_eq_false_iff_not, List.mem_cons]
    constructor
    · rintro (h | ⟨h1 | ⟨h1, h2⟩, h3⟩)
      · exact .inl (.inr h)
      · exact .inl (.inl h1)
      · exact .inr ⟨h1, fun h => h2 h.symm, h3⟩
    · rintro ((h | h) | ⟨h1, h2, h3⟩)
      · refine .inr ⟨.inl h, ?_⟩
        cases hh : hasE x.1 d with
        | false => rfl
        | true =>
          obtain ⟨y, hy, hyx⟩ := hasE_iff.1 hh
          have := hd.1 y hy
          unfold lt at this
          rw [hyx, h, cmp_refl] at this
          exact absurd this (by decide)
      · exact .inl h
      · exact .inr ⟨.inr ⟨h1, fun h => h2 h.symm⟩, h3⟩
theorem flatS_rising : ∀ l : Lays, (flatS l).Pairwise lt
  | [] => List.Pairwise.nil
  | e :: l => by
    unfold flatS
    split
    · exact putAll_rising _ _ (flatS_rising l)
    · exact flatS_rising l
theorem flatS_seen {x : Ent} : ∀ {l : Lays}, (∀ e ∈ l, e.1.Pairwise lt) → (x ∈ flatS l ↔ seen l x)
  | [], _ => by simp [flatS, seen]
  | e :: l, h => by
    have ih := flatS_seen (x := x) (l := l) fun e he => h e (by simp [he])
    unfold flatS seen shows
    cases h2 : e.2 with
    | false => simpa using ih
    | true =>
      simp only [if_true, Bool.true_and]
      rw [putAll_mem _ _ _ (h e (by simp)), ih]
      cases hh : hasE x.1 e.1 with
      | true => simp
      | false =>
        have : x ∉ e.1 := fun hx => by
          have := hasE_iff.2 ⟨x, hx, rfl⟩
          rw [hh] at this; cases this
        simp [this]
theorem seen_mem {x : Ent} {l : Lays} (h : seen l x) : ∃ e ∈ l, x ∈ e.1 := by
  obtain ⟨j, hj, h1, _⟩ := seen_iff.1 h
  exact ⟨_, List.getElem_mem hj, h1⟩
theorem layers_pair {l : Lays} (h : layers l = true) : ∀ e ∈ l, e.1.Pairwise lt := fun e he => pair_of_dic (List.all_eq_true.1 h e he)
theorem flatS_entry {l : Lays} (h : layers l = true) : (flatS l).all entry = true := by
  rw [List.all_eq_true]
  intro x hx
  obtain ⟨e, he, hxe⟩ := seen_mem ((flatS_seen (layers_pair h)).1 hx)
  have hd := List.all_eq_true.1 h e he
  unfold dic at hd
  simp only [Bool.and_eq_true] at hd
  exact List.all_eq_true.1 hd.2.1 x hxe
/-- the flattened stack is a dictionary if it is short enough -/
theorem flatS_dic {l : Lays} (h : layers l = true) : dic (flatS l) = decide ((flatS l).length ≤ 40) := by
  unfold dic
  rw [flatS_entry h, (rising_pair _).2 (flatS_rising l)]
  simp
theorem vis_len {L : Lays} : ∀ {l : Lays} {i : Nat}, (∀ e ∈ l, e.1.length ≤ 40) → (vis L i l).length ≤ 40 * l.length
  | [], _, _ => Nat.zero_le _
  | e :: l, i, h => by
    have ih := vis_len (L := L) (l := l) (i := i + 1) fun e he => h e (by simp [he])
    have h1 := h e (by simp)
    unfold vis
    rw [List.length_append, List.length_cons]
    refine Nat.le_trans (Nat.add_le_add (List.length_filter_le _ _) ih) ?_
    omega
/-- a lookup in the flattened stack is one in the stack -/
theorem flat_has {o : List Int} {l : Lays} (h : layers l = true) : hasE o (flatS l) = layOk o l := by
  rw [Bool.eq_iff_iff, hasE_iff]
  unfold layOk
  rw [decide_eq_true_eq]
  constructor
  · rintro ⟨x, hx, rfl⟩
    obtain ⟨j, hj, _, h2⟩ := seen_iff.1 ((flatS_seen (layers_pair h)).1 hx)
    omega
  · intro h0
    obtain ⟨i, hi⟩ := Int.eq_ofNat_of_zero_le h0
    obtain ⟨hil, hs, _⟩ := layAt_get hi
    unfold shows at hs
    rw [Bool.and_eq_true] at hs
    have hm := mem_textAt hs.2
    exact ⟨_, (flatS_seen (layers_pair h)).2 (seen_iff.2 ⟨i, hil, hm, hi⟩), rfl⟩
theorem flat_text {o : List Int} {l : Lays} (h : layers l = true) : textAt o (flatS l) = layText o l := by
  by_cases h0 : 0 ≤ layAt o l
  · obtain ⟨i, hi⟩ := Int.eq_ofNat_of_zero_le h0
    obtain ⟨hil, hs, ht⟩ := layAt_get hi
    unfold shows at hs
    rw [Bool.and_eq_true] at hs
    have hm := mem_textAt hs.2
    have := textAt_mem (flatS_rising l) ((flatS_seen (layers_pair h)).2 (seen_iff.2 ⟨i, hil, hm, hi⟩))
    rw [ht]; exact this
  · rw [layText_not (by omega)]
    refine textAt_not ?_
    rw [flat_has h]
    unfold layOk
    exact decide_eq_false h0
/-- what a stack shows is what a lookup finds -/
theorem seen_look {x : Ent} {l : Lays} (h : layers l = true) (hs : seen l x) : layOk x.1 l = true ∧ layText x.1 l = x.2 := by
  obtain ⟨j, hj, h1, h2⟩ := seen_iff.1 hs
  refine ⟨by unfold layOk; rw [h2]; exact decide_eq_true (by omega), ?_⟩
  obtain ⟨hi, _, h3⟩ := layAt_get h2
  rw [h3]
  exact textAt_mem (layers_pair h _ (List.getElem_mem hj)) h1
/-- what is shadowed: the layer, the layer above it, the outline -/
abbrev Shad := Int × Int × List Int
def shad (L : Lays) : Nat → Lays → List Shad
  | _, [] => []
  | i, e :: l => (if e.2 then (e.1.filter fun x => decide (layAt x.1 L < i)).map fun x => ((i : Int), layAt x.1 L, x.1) else []) ++ shad L (i + 1) l
end P
end Go.Proofs.YtojcfpjoikmgcaaGreatDoor
