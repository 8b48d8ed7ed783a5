/- Plain: the trie of a dictionary, how it is built, read and collected. -/
import Derived.Test.YtkjidjomlpnnlaaGreatDoorPlainD
namespace Go.Proofs.YtkjidjomlpnnlaaGreatDoor
namespace P
/-- a node: strokes, children, whether it has a text, the text -/
abbrev Nd := List Int × List Int × Bool × Bs
abbrev Tri := List Nd
def strokeAt (d : Nat) (e : Ent) : Int := e.1.getD d 0
/-- the entries in parts that share a stroke -/
def groups (d : Nat) : Nat → Dic → List Dic
  | 0, _ => []
  | _ + 1, [] => []
  | n + 1, e :: l => (e :: l.takeWhile fun x => strokeAt d x == strokeAt d e) :: groups d n (l.dropWhile fun x => strokeAt d x == strokeAt d e)
def headStroke (d : Nat) : Dic → Int
  | [] => 0
  | e :: _ => strokeAt d e
/-- the subtrees of parts, from an index on: strokes, children, nodes -/
def kids (B : Nat → Dic → Tri) (d : Nat) : Nat → List Dic → List Int × List Int × Tri
  | _, [] => ([], [], [])
  | next, g :: gs => (headStroke d g :: (kids B d (next + (B next g).length) gs).1, (next : Int) :: (kids B d (next + (B next g).length) gs).2.1, B next g ++ (kids B d (next + (B next g).length) gs).2.2)
/-- what stands behind the entry of a node itself -/
def rest (d : Nat) : Dic → Dic
  | [] => []
  | e :: l => if e.1.length = d then l else e :: l
def ownText (d : Nat) : Dic → Bool × Bs
  | [] => (false, [])
  | e :: _ => if e.1.length = d then (true, e.2) else (false, [])
/-- the subtree of entries that share their first d strokes -/
def build : Nat → Nat → Nat → Dic → Tri
  | 0, _, _, _ => []
  | f + 1, d, base, es =>
    ((kids (fun b g => build f (d + 1) b g) d (base + 1) (groups d es.length (rest d es))).1, (kids (fun b g => build f (d + 1) b g) d (base + 1) (groups d es.length (rest d es))).2.1, ownText d es) ::
      (kids (fun b g => build f (d + 1) b g) d (base + 1) (groups d es.length (rest d es))).2.2
theorem build_succ (f d base : Nat) (es : Dic) : build (f + 1) d base es = ((kids (fun b g => build f (d + 1) b g) d (base + 1) (groups d es.length (rest d es))).1, (kids (fun b g => build f (d + 1) b g) d (base + 1) (groups d es.length (rest d es))).2.1, ownText d es) ::
      (kids (fun b g => build f (d + 1) b g) d (base + 1) (groups d es.length (rest d es))).2.2 := rfl
/-- the trie of a dictionary -/
def trie (l : Dic) : Tri := build 7 0 0 l
/-- entries that share their first d strokes, in order -/
structure Shared (p : List Int) (es : Dic) : Prop where
  pre : ∀ e ∈ es, e.1.take p.length = p
  len : ∀ e ∈ es, e.1.length ≤ 6
  lt : es.Pairwise lt
theorem Shared.ge {p : List Int} {es : Dic} (h : Shared p es) : ∀ e ∈ es, p.length ≤ e.1.length := by
  intro e he
  have := congrArg List.length (h.pre e he)
  rw [List.length_take] at this
  omega
theorem Shared.split {p : List Int} {es : Dic} (h : Shared p es) (e : Ent) (he : e ∈ es) : e.1 = p ++ e.1.drop p.length := by
  have := List.take_append_drop p.length e.1
  rw [h.pre e he] at this
  exact this.symm
theorem cmp_prefix (p a b : List Int) : cmp (p ++ a) (p ++ b) = cmp a b := by
  induction p with
  | nil => rfl
  | cons x p ih => simp [cmp, ih]
theorem rest_cons (d : Nat) (a : Ent) (l : Dic) : rest d (a :: l) = if a.1.length = d then l else a :: l := rfl
theorem own_cons (d : Nat) (a : Ent) (l : Dic) : ownText d (a :: l) = if a.1.length = d then (true, a.2) else (false, []) := rfl
theorem rest_sub (d : Nat) (es : Dic) : ∀ e ∈ rest d es, e ∈ es := by
  cases es with
  | nil => intro e h; exact h
  | cons a l =>
    intro e h
    rw [rest_cons] at h
    split at h
    · exact List.mem_cons_of_mem _ h
    · exact h
theorem Shared.tail {p : List Int} {e : Ent} {l : Dic} (h : Shared p (e :: l)) : Shared p l :=
  ⟨fun x hx => h.pre x (by simp [hx]), fun x hx => h.len x (by simp [hx]), (List.pairwise_cons.1 h.lt).2⟩
theorem Shared.rest {p : List Int} {es : Dic} (h : Shared p es) : Shared p (rest p.length es) ∧ ∀ e ∈ rest p.length es, p.length < e.1.length := by
  cases es with
  | nil => exact ⟨h, fun e he => by cases he⟩
  | cons a l =>
    have hl : ∀ e ∈ l, p.length < e.1.length := by
      intro e he
      have h1 := h.ge e (by simp [he])
      rcases Nat.lt_or_ge p.length e.1.length with h2 | h2
      · exact h2
      · exfalso
        have h3 := (List.pairwise_cons.1 h.lt).1 e he
        unfold P.lt at h3
        have h4 : e.1 = p ++ [] := by
          have := h.split e (by simp [he])
          rw [List.drop_of_length_le h2] at this
          exact this
        rw [h.split a (by simp), h4, cmp_prefix] at h3
        cases hc : a.1.drop p.length with
        | nil => rw [hc] at h3; exact absurd h3 (by decide)
        | cons _ _ => rw [hc] at h3; exact absurd h3 (by unfold cmp; decide)
    rw [rest_cons]
    split
    · exact ⟨h.tail, hl⟩
    · rename_i hn
      refine ⟨h, fun e he => ?_⟩
      rcases List.mem_cons.1 he with rfl | he
      · have := h.ge e (by simp); omega
      · exact hl e he
theorem stroke_of {p : List Int} {es : Dic} (h : Shared p es) (e : Ent) (he : e ∈ es) (hl : p.length < e.1.length) : e.1 = p ++ strokeAt p.length e :: e.1.drop (p.length + 1) := by
  have h1 := h.split e he
  have h2 : e.1.drop p.length = strokeAt p.length e :: e.1.drop (p.length + 1) := by
    rw [List.drop_eq_getElem_cons hl]
    unfold strokeAt
    rw [List.getD_eq_getElem?_getD, List.getElem?_eq_getElem hl]; rfl
  rw [h2] at h1; exact h1
/-- along a row, strokes do not fall -/
theorem stroke_le {p : List Int} {a b : Ent} {es : Dic} (h : Shared p es) (ha : a ∈ es) (hb : b ∈ es) (la : p.length < a.1.length) (lb : p.length < b.1.length) (hlt : lt a b) : strokeAt p.length a ≤ strokeAt p.length b := by
  unfold P.lt at hlt
  rw [stroke_of h a ha la, stroke_of h b hb lb, cmp_prefix] at hlt
  unfold cmp at hlt
  split at hlt
  · omega
  · split at hlt
    · exact absurd hlt (by decide)
    · omega
/-- how the parts lie -/
structure Parts (p : List Int) (gs : List Dic) : Prop where
  one : ∀ g ∈ gs, g ≠ [] ∧ (∀ e ∈ g, strokeAt p.length e = headStroke p.length g) ∧ Shared (p ++ [headStroke p.length g]) g
  up : gs.Pairwise fun g k => headStroke p.length g < headStroke p.length k
theorem drop_lt (d : Nat) (s : Int) : ∀ (l : Dic), l.Pairwise (fun a b => strokeAt d a ≤ strokeAt d b) → (∀ e ∈ l, s ≤ strokeAt d e) → ∀ e ∈ l.dropWhile (fun x => strokeAt d x == s), s < strokeAt d e
  | [], _, _, e, he => by cases he
  | a :: l, hp, hs, e, he => by
    rw [List.dropWhile_cons] at he
    rw [List.pairwise_cons] at hp
    split at he
    · exact drop_lt d s l hp.2 (fun x hx => hs x (by simp [hx])) e he
    · rename_i hn
      have h1 := hs a (by simp)
      have h2 : strokeAt d a ≠ s := by simpa using hn
      rcases List.mem_cons.1 he with rfl | he
      · omega
      · have := hp.1 e he; omega
theorem groups_flat (d : Nat) : ∀ (n : Nat) (l : Dic), l.length ≤ n → (groups d n l).flatten = l
  | 0, l, h => by rw [List.length_eq_zero_iff.1 (by omega : l.length = 0)]; rfl
  | n + 1, [], _ => rfl
  | n + 1, e :: l, h => by
    unfold groups
    rw [List.flatten_cons, groups_flat d n _ (Nat.le_trans (List.dropWhile_sublist _).length_le (by simp at h; omega)), List.cons_append, List.takeWhile_append_dropWhile]
theorem groups_parts {p : List Int} : ∀ (n : Nat) (l : Dic), l.length ≤ n → Shared p l → (∀ e ∈ l, p.length < e.1.length) → Parts p (groups p.length n l)
  | 0, _, _, _, _ => ⟨fun g hg => (by cases hg), List.Pairwise.nil⟩
  | n + 1, [], _, _, _ => ⟨fun g hg => (by cases hg), List.Pairwise.nil⟩
  | n + 1, e :: l, h, hs, hl => by
    have hpw : (e :: l).Pairwise (fun a b => strokeAt p.length a ≤ strokeAt p.length b) :=
      List.Pairwise.imp_of_mem (fun ha hb hab => stroke_le hs ha hb (hl _ ha) (hl _ hb) hab) hs.lt
    have htw : ∀ x ∈ l.takeWhile (fun x => strokeAt p.length x == strokeAt p.length e), strokeAt p.length x = strokeAt p.length e := by
      intro x hx
      have := List.all_eq_true.1 (List.all_takeWhile (l := l) (p := fun x => strokeAt p.length x == strokeAt p.length e)) x hx
      simpa using this
    have hsubT : (e :: l.takeWhile (fun x => strokeAt p.length x == strokeAt p.length e)).Sublist (e :: l) := List.Sublist.cons_cons _ (List.takeWhile_sublist _)
    have hsubD : (l.dropWhile (fun x => strokeAt p.length x == strokeAt p.length e)).Sublist (e :: l) := List.Sublist.cons _ (List.dropWhile_sublist _)
    have hd : ∀ x ∈ l.dropWhile (fun x => strokeAt p.length x == strokeAt p.length e), strokeAt p.length e < strokeAt p.length x :=
      drop_lt _ _ l (List.pairwise_cons.1 hpw).2 (List.pairwise_cons.1 hpw).1
    have ih := groups_parts n (l.dropWhile (fun x => strokeAt p.length x == strokeAt p.length e)) (Nat.le_trans (List.dropWhile_sublist _).length_le (by simp at h; omega)) ⟨fun x hx => hs.pre x (hsubD.subset hx), fun x hx => hs.len x (hsubD.subset hx), hs.lt.sublist hsubD⟩ (fun x hx => hl x (hsubD.subset hx))
    have hfl := groups_flat p.length n (l.dropWhile (fun x => strokeAt p.length x == strokeAt p.length e)) (Nat.le_trans (List.dropWhile_sublist _).length_le (by simp at h; omega))
    unfold groups
    refine ⟨fun g hg => ?_, List.pairwise_cons.2 ⟨fun g hg => ?_, ih.up⟩⟩
    · rcases List.mem_cons.1 hg with rfl | hg
      · refine ⟨by simp, fun x hx => ?_, fun x hx => ?_, fun x hx => hs.len x (hsubT.subset hx), hs.lt.sublist hsubT⟩
        · rcases List.mem_cons.1 hx with rfl | hx
          · rfl
          · exact htw x hx
        · have h1 : strokeAt p.length x = strokeAt p.length e := by
            rcases List.mem_cons.1 hx with rfl | hx
            · rfl
            · exact htw x hx
          have h2 := stroke_of hs x (hsubT.subset hx) (hl x (hsubT.subset hx))
          show x.1.take (p ++ [strokeAt p.length e]).length = p ++ [strokeAt p.length e]
          rw [h2, ← h1, show p ++ strokeAt p.length x :: x.1.drop (p.length + 1) = (p ++ [strokeAt p.length x]) ++ x.1.drop (p.length + 1) by simp, List.take_left]
      · exact ih.one g hg
    · obtain ⟨hne, _, _⟩ := ih.one g hg
      cases g with
      | nil => exact absurd rfl hne
      | cons y g =>
        show strokeAt p.length e < strokeAt p.length y
        refine hd y ?_
        rw [← hfl]
        exact List.mem_flatten.2 ⟨_, hg, by simp⟩
/-- the parts of entries that share a prefix -/
theorem Shared.parts {p : List Int} {es : Dic} (h : Shared p es) : Parts p (groups p.length es.length (P.rest p.length es)) ∧ (groups p.length es.length (P.rest p.length es)).flatten = P.rest p.length es := by
  have hl : (P.rest p.length es).length ≤ es.length := by
    cases es with
    | nil => exact Nat.le_refl _
    | cons a l =>
      rw [rest_cons]
      split
      · simp
      · exact Nat.le_refl _
  exact ⟨groups_parts _ _ hl h.rest.1 h.rest.2, groups_flat _ _ _ hl⟩
theorem own_rest {p : List Int} {es : Dic} (h : Shared p es) : (if (ownText p.length es).1 then [(p, (ownText p.length es).2)] else []) ++ P.rest p.length es = es := by
  cases es with
  | nil => rfl
  | cons a l =>
    rw [own_cons, rest_cons]
    by_cases hl : a.1.length = p.length
    · rw [if_pos hl, if_pos hl]
      have h2 : a.1 = p := by
        have := h.split a (by simp)
        rw [List.drop_of_length_le (by omega), List.append_nil] at this
        exact this
      obtain ⟨o, t⟩ := a
      simp only at h2
      subst h2
      rfl
    · rw [if_neg hl, if_neg hl]; rfl
/-- the size of a subtree -/
def mass (d : Nat) (es : Dic) : Nat := (es.map fun e => e.1.length - d).sum
theorem mass_app (d : Nat) (a b : Dic) : mass d (a ++ b) = mass d a + mass d b := by unfold mass; rw [List.map_append, List.sum_append]
theorem mass_up (d : Nat) : ∀ (g : Dic), (∀ e ∈ g, d < e.1.length) → mass (d + 1) g + g.length = mass d g
  | [], _ => rfl
  | e :: g, h => by
    have h1 := mass_up d g (fun x hx => h x (by simp [hx]))
    have h2 := h e (by simp)
    unfold mass at h1 ⊢
    simp only [List.map_cons, List.sum_cons, List.length_cons]
    omega
theorem build_len : ∀ (f d base : Nat) (es : Dic) (p : List Int), p.length = d → Shared p es → (build f d base es).length ≤ 1 + mass d es
  | 0, _, _, _, _, _, _ => Nat.zero_le _
  | f + 1, d, base, es, p, hp, hs => by
    subst hp
    rw [build_succ]
    obtain ⟨h1, h2⟩ := hs.parts
    have h3 : ∀ g ∈ groups p.length es.length (P.rest p.length es), g ≠ [] ∧ ∀ e ∈ g, p.length < e.1.length := by
      intro g hg
      refine ⟨(h1.one g hg).1, fun e he => ?_⟩
      have := (h1.one g hg).2.2.ge e he
      simp at this; omega
    have key : ∀ (gs : List Dic) (next : Nat), (∀ g ∈ gs, g ∈ groups p.length es.length (P.rest p.length es)) → (kids (fun b g => build f (p.length + 1) b g) p.length next gs).2.2.length ≤ mass p.length gs.flatten := by
      intro gs
      induction gs with
      | nil => intro _ _; exact Nat.zero_le _
      | cons g gs ih =>
        intro next hg
        unfold kids
        have a1 := build_len f (p.length + 1) next g (p ++ [headStroke p.length g]) (by simp) (h1.one g (hg g (by simp))).2.2
        have a2 := ih (next + (build f (p.length + 1) next g).length) (fun k hk => hg k (by simp [hk]))
        have a3 := mass_up p.length g (h3 g (hg g (by simp))).2
        have a4 := List.length_pos_iff.2 (h3 g (hg g (by simp))).1
        rw [List.flatten_cons, mass_app]
        simp only [List.length_append]
        omega
    have h4 := key _ (base + 1) (fun g hg => hg)
    rw [h2] at h4
    have h5 : mass p.length (P.rest p.length es) ≤ mass p.length es := by
      cases es with
      | nil => exact Nat.le_refl _
      | cons a l =>
        rw [rest_cons]
        split
        · unfold mass; simp
        · exact Nat.le_refl _
    simp only [List.length_cons]
    omega
theorem dic_parts {l : Dic} (h : dic l = true) : l.length ≤ 40 ∧ (∀ e ∈ l, entry e = true) ∧ l.Pairwise lt := by
  unfold dic at h
  rw [Bool.and_eq_true, Bool.and_eq_true, decide_eq_true_eq, List.all_eq_true, rising_pair] at h
  exact h
theorem entry_parts {e : Ent} (h : entry e = true) : 1 ≤ e.1.length ∧ e.1.length ≤ 6 ∧ ∀ s ∈ e.1, stroke s = true := by
  unfold entry outline at h
  rw [Bool.and_eq_true, Bool.and_eq_true, decide_eq_true_eq, List.all_eq_true] at h
  exact ⟨by omega, by omega, h.1.2⟩
theorem dic_shared {l : Dic} (h : dic l = true) : Shared [] l :=
  ⟨fun e _ => by simp, fun e he => (entry_parts ((dic_parts h).2.1 e he)).2.1, (dic_parts h).2.2⟩
theorem trie_len {l : Dic} (h : dic l = true) : 1 ≤ (trie l).length ∧ (trie l).length ≤ 241 := by
  refine ⟨by unfold trie; rw [build_succ]; simp, ?_⟩
  have h1 := build_len 7 0 0 l [] rfl (dic_shared h)
  have h2 : ∀ m : Dic, (∀ e ∈ m, e.1.length ≤ 6) → mass 0 m ≤ m.length * 6 := by
    intro m
    induction m with
    | nil => intro _; exact Nat.zero_le _
    | cons a m ih =>
      intro hm
      have := ih (fun e he => hm e (by simp [he]))
      have := hm a (by simp)
      unfold mass at *
      simp only [List.map_cons, List.sum_cons, List.length_cons]
      omega
  have h3 := h2 l (dic_shared h).len
  have h4 := (dic_parts h).1
  unfold trie
  omega
/-- no node -/
def nd0 : Nd := ([], [], false, [])
/-- the program's reading of a trie -/
def readK (R : Int → List Int → Nat → Option (Nat × Dic)) (o : List Int) : List (Int × Int) → Nat → Option (Nat × Dic)
  | [], nx => some (nx, [])
  | (s, c) :: l, nx => match R c (o ++ [s]) nx with
    | none => none
    | some (n1, e1) => match readK R o l n1 with
      | none => none
      | some (n2, e2) => some (n2, e1 ++ e2)
def own (o : List Int) (n : Nd) : Dic := if n.2.2.1 then [(o, n.2.2.2)] else []
def read (t : Tri) : Nat → Int → List Int → Nat → Option (Nat × Dic)
  | 0, _, _, _ => none
  | f + 1, k, o, nx =>
    if k = (nx : Int) ∧ nx < t.length then
      if (t.getD nx nd0).1.length = (t.getD nx nd0).2.1.length then
        (readK (read t f) o ((t.getD nx nd0).1.zip (t.getD nx nd0).2.1) (nx + 1)).map fun r => (r.1, own o (t.getD nx nd0) ++ r.2)
      else none
    else none
theorem kids_lens (B : Nat → Dic → Tri) (d : Nat) : ∀ (gs : List Dic) (next : Nat), (kids B d next gs).1.length = gs.length ∧ (kids B d next gs).2.1.length = gs.length
  | [], _ => ⟨rfl, rfl⟩
  | g :: gs, next => by
    obtain ⟨h1, h2⟩ := kids_lens B d gs (next + (B next g).length)
    unfold kids
    exact ⟨by simp [h1], by simp [h2]⟩
theorem getD_mid (A : Tri) (x : Nd) (C : Tri) : (A ++ x :: C).getD A.length nd0 = x := by
  rw [List.getD_eq_getElem?_getD, List.getElem?_append_right (Nat.le_refl _), Nat.sub_self]; rfl
theorem read_build (t : Tri) : ∀ (f : Nat) (es : Dic) (p : List Int) (base : Nat) (A C : Tri), (0 < f ∨ es ≠ []) → Shared p es → f + p.length = 7 → A.length = base → t = A ++ (build f p.length base es ++ C) → read t f (base : Int) p base = some (base + (build f p.length base es).length, es)
  | 0, es, p, base, A, C, hne, hs, hf, hA, ht => by
    rcases hne with h | h
    · exact absurd h (Nat.lt_irrefl _)
    · obtain ⟨e, he⟩ := List.exists_mem_of_ne_nil es h
      have := hs.ge e he; have := hs.len e he; omega
  | f + 1, es, p, base, A, C, _, hs, hf, hA, ht => by
    subst hA
    obtain ⟨h1, h2⟩ := hs.parts
    have key : ∀ (gs : List Dic) (next : Nat) (A' C' : Tri), (∀ g ∈ gs, g ≠ [] ∧ Shared (p ++ [headStroke p.length g]) g) → A'.length = next → t = A' ++ ((kids (fun b g => build f (p.length + 1) b g) p.length next gs).2.2 ++ C') →
        readK (read t f) p ((kids (fun b g => build f (p.length + 1) b g) p.length next gs).1.zip (kids (fun b g => build f (p.length + 1) b g) p.length next gs).2.1) next = some (next + (kids (fun b g => build f (p.length + 1) b g) p.length next gs).2.2.length, gs.flatten) := by
      intro gs
      induction gs with
      | nil => intro next A' C' _ _ _; rfl
      | cons g gs ih =>
        intro next A' C' hg hA' ht'
        unfold kids at ht' ⊢
        have r1 := read_build t f g (p ++ [headStroke p.length g]) next A' ((kids (fun b g => build f (p.length + 1) b g) p.length (next + (build f (p.length + 1) next g).length) gs).2.2 ++ C') (.inr (hg g (by simp)).1) (hg g (by simp)).2 (by simp; omega) hA' (by rw [ht']; simp)
        have r2 := ih (next + (build f (p.length + 1) next g).length) (A' ++ build f (p.length + 1) next g) C' (fun k hk => hg k (by simp [hk])) (by simp [hA']) (by rw [ht']; simp)
        rw [show (p ++ [headStroke p.length g]).length = p.length + 1 by simp] at r1
        simp only [List.zip_cons_cons, readK, r1, r2, List.length_append, List.flatten_cons, Nat.add_assoc]
    have k1 := key _ (A.length + 1) (A ++ [((kids (fun b g => build f (p.length + 1) b g) p.length (A.length + 1) (groups p.length es.length (P.rest p.length es))).1, (kids (fun b g => build f (p.length + 1) b g) p.length (A.length + 1) (groups p.length es.length (P.rest p.length es))).2.1, ownText p.length es)]) C (fun g hg => ⟨(h1.one g hg).1, (h1.one g hg).2.2⟩) (by simp) (by rw [ht, build_succ]; simp)
    have hg : t.getD A.length nd0 = ((kids (fun b g => build f (p.length + 1) b g) p.length (A.length + 1) (groups p.length es.length (P.rest p.length es))).1, (kids (fun b g => build f (p.length + 1) b g) p.length (A.length + 1) (groups p.length es.length (P.rest p.length es))).2.1, ownText p.length es) := by
      rw [ht, build_succ, List.cons_append]; exact getD_mid _ _ _
    have hl : A.length < t.length := by rw [ht, build_succ]; simp
    obtain ⟨l1, l2⟩ := kids_lens (fun b g => build f (p.length + 1) b g) p.length (groups p.length es.length (P.rest p.length es)) (A.length + 1)
    unfold read
    rw [if_pos ⟨rfl, hl⟩, hg]
    simp only
    rw [if_pos (by rw [l1, l2]), k1, h2]
    have h3 := own_rest hs
    unfold own
    simp only [Option.map_some]
    rw [h3]
    rw [build_succ]
    simp only [List.length_cons]
    congr 2
    omega
/-- what the reference asks of a stroke of a node -/
def kidOk (n i : Nat) (x : Nd) (k : Nat) : Bool := stroke (x.1.getD k 0) && (decide (k = 0) || decide (x.1.getD (k - 1) 0 < x.1.getD k 0)) && decide ((i : Int) + 1 ≤ x.2.1.getD k 0 ∧ x.2.1.getD k 0 ≤ (n : Int) - 1)
def nodeOk (n i : Nat) (x : Nd) : Bool := decide (x.1.length = x.2.1.length) && (List.range x.1.length).all (kidOk n i x)
/-- all children of the first nodes -/
def chs (t : Tri) : List Int := t.flatMap (·.2.1)
def shape (t : Tri) : Bool := decide (1 ≤ t.length ∧ t.length ≤ 241) && (List.range t.length).all (fun i => nodeOk t.length i (t.getD i nd0)) && (List.range t.length).all (fun i => decide (i = 0) || decide ((chs t).count (i : Int) = 1))
/-- what the reference collects below a node -/
def collect (t : Tri) : Nat → Nat → List Int → Dic
  | 0, _, _ => []
  | f + 1, k, o => own o (t.getD k nd0) ++ ((t.getD k nd0).1.zip (t.getD k nd0).2.1).flatMap fun sc => collect t f sc.2.toNat (o ++ [sc.1])
theorem collect_build (t : Tri) : ∀ (f : Nat) (es : Dic) (p : List Int) (base m : Nat) (A C : Tri), (0 < f ∨ es ≠ []) → Shared p es → f + p.length = 7 → A.length = base → t = A ++ (build f p.length base es ++ C) → (build f p.length base es).length ≤ m → collect t m base p = es
  | 0, es, p, base, m, A, C, hne, hs, hf, hA, ht, hm => by
    rcases hne with h | h
    · exact absurd h (Nat.lt_irrefl _)
    · obtain ⟨e, he⟩ := List.exists_mem_of_ne_nil es h
      have := hs.ge e he; have := hs.len e he; omega
  | f + 1, es, p, base, 0, A, C, _, hs, hf, hA, ht, hm => by rw [build_succ] at hm; simp at hm
  | f + 1, es, p, base, m + 1, A, C, _, hs, hf, hA, ht, hm => by
    subst hA
    obtain ⟨h1, h2⟩ := hs.parts
    have key : ∀ (gs : List Dic) (next : Nat) (A' C' : Tri), (∀ g ∈ gs, g ≠ [] ∧ Shared (p ++ [headStroke p.length g]) g) → A'.length = next → t = A' ++ ((kids (fun b g => build f (p.length + 1) b g) p.length next gs).2.2 ++ C') → (kids (fun b g => build f (p.length + 1) b g) p.length next gs).2.2.length ≤ m →
        ((kids (fun b g => build f (p.length + 1) b g) p.length next gs).1.zip (kids (fun b g => build f (p.length + 1) b g) p.length next gs).2.1).flatMap (fun sc => collect t m sc.2.toNat (p ++ [sc.1])) = gs.flatten := by
      intro gs
      induction gs with
      | nil => intro next A' C' _ _ _ _; rfl
      | cons g gs ih =>
        intro next A' C' hg hA' ht' hm'
        unfold kids at ht' hm' ⊢
        simp only [List.length_append] at hm'
        have r1 := collect_build t f g (p ++ [headStroke p.length g]) next m A' ((kids (fun b g => build f (p.length + 1) b g) p.length (next + (build f (p.length + 1) next g).length) gs).2.2 ++ C') (.inr (hg g (by simp)).1) (hg g (by simp)).2 (by simp; omega) hA' (by rw [ht']; simp) (by simp; omega)
        have r2 := ih (next + (build f (p.length + 1) next g).length) (A' ++ build f (p.length + 1) next g) C' (fun k hk => hg k (by simp [hk])) (by simp [hA']) (by rw [ht']; simp) (by omega)
        simp only [List.zip_cons_cons, List.flatMap_cons, Int.toNat_natCast, r1, r2, List.flatten_cons]
    have hmm : (kids (fun b g => build f (p.length + 1) b g) p.length (A.length + 1) (groups p.length es.length (P.rest p.length es))).2.2.length ≤ m := by rw [build_succ] at hm; simp at hm; omega
    have k1 := key _ (A.length + 1) (A ++ [((kids (fun b g => build f (p.length + 1) b g) p.length (A.length + 1) (groups p.length es.length (P.rest p.length es))).1, (kids (fun b g => build f (p.length + 1) b g) p.length (A.length + 1) (groups p.length es.length (P.rest p.length es))).2.1, ownText p.length es)]) C (fun g hg => ⟨(h1.one g hg).1, (h1.one g hg).2.2⟩) (by simp) (by rw [ht, build_succ]; simp) hmm
    have hg : t.getD A.length nd0 = ((kids (fun b g => build f (p.length + 1) b g) p.length (A.length + 1) (groups p.length es.length (P.rest p.length es))).1, (kids (fun b g => build f (p.length + 1) b g) p.length (A.length + 1) (groups p.length es.length (P.rest p.length es))).2.1, ownText p.length es) := by
      rw [ht, build_succ, List.cons_append]; exact getD_mid _ _ _
    unfold collect
    rw [hg]
    simp only
    rw [k1, h2]
    exact own_rest hs
/-- numbers from one on -/
def nums : Nat → Nat → List Int
  | _, 0 => []
  | a, n + 1 => (a : Int) :: nums (a + 1) n
theorem nums_succ (a n : Nat) : nums a (n + 1) = (a : Int) :: nums (a + 1) n := rfl
theorem nums_add : ∀ (m a k : Nat), nums a (m + k) = nums a m ++ nums (a + m) k
  | 0, a, k => by simp [nums]
  | m + 1, a, k => by
    rw [show m + 1 + k = (m + k) + 1 by omega]
    rw [nums_succ, nums_succ, nums_add m (a + 1) k, show a + 1 + m = a + (m + 1) by omega]; rfl
theorem nums_count : ∀ (n a i : Nat), (nums a n).count (i : Int) = if a ≤ i ∧ i < a + n then 1 else 0
  | 0, a, i => by rw [if_neg (by omega)]; rfl
  | n + 1, a, i => by
    unfold nums
    rw [List.count_cons, nums_count n (a + 1) i]
    by_cases h : a = i
    · subst h; rw [if_neg (by omega), if_pos (by simp), if_pos (by omega)]
    · by_cases h2 : a + 1 ≤ i ∧ i < a + 1 + n
      · rw [if_pos h2, if_neg (by simp; omega), if_pos (by omega)]
      · rw [if_neg h2, if_neg (by simp; omega), if_neg (by omega)]
theorem build_perm : ∀ (f : Nat) (es : Dic) (p : List Int) (base : Nat), (0 < f ∨ es ≠ []) → Shared p es → f + p.length = 7 → 1 ≤ (build f p.length base es).length ∧ (chs (build f p.length base es)).Perm (nums (base + 1) ((build f p.length base es).length - 1))
  | 0, es, p, base, hne, hs, hf => by
    rcases hne with h | h
    · exact absurd h (Nat.lt_irrefl _)
    · obtain ⟨e, he⟩ := List.exists_mem_of_ne_nil es h
      have := hs.ge e he; have := hs.len e he; omega
  | f + 1, es, p, base, _, hs, hf => by
    obtain ⟨h1, h2⟩ := hs.parts
    have key : ∀ (gs : List Dic) (next : Nat), (∀ g ∈ gs, g ≠ [] ∧ Shared (p ++ [headStroke p.length g]) g) →
        ((kids (fun b g => build f (p.length + 1) b g) p.length next gs).2.1 ++ chs (kids (fun b g => build f (p.length + 1) b g) p.length next gs).2.2).Perm (nums next (kids (fun b g => build f (p.length + 1) b g) p.length next gs).2.2.length) := by
      intro gs
      induction gs with
      | nil => intro next _; exact List.Perm.refl _
      | cons g gs ih =>
        intro next hg
        obtain ⟨r0, r1⟩ := build_perm f g (p ++ [headStroke p.length g]) next (.inr (hg g (by simp)).1) (hg g (by simp)).2 (by simp; omega)
        have r2 := ih (next + (build f (p.length + 1) next g).length) (fun k hk => hg k (by simp [hk]))
        rw [show (p ++ [headStroke p.length g]).length = p.length + 1 by simp] at r0 r1
        unfold kids
        simp only [List.length_append]
        rw [nums_add]
        have e1 : nums next (build f (p.length + 1) next g).length = (next : Int) :: nums (next + 1) ((build f (p.length + 1) next g).length - 1) := by
          obtain ⟨m, hm⟩ : ∃ m, (build f (p.length + 1) next g).length = m + 1 := ⟨_, (Nat.sub_add_cancel r0).symm⟩
          rw [hm]; rfl
        rw [e1]
        simp only [List.cons_append]
        refine List.Perm.cons _ ?_
        unfold chs at r1 r2 ⊢
        rw [List.flatMap_append]
        exact (List.perm_append_comm_assoc _ _ _).trans (r1.append r2)
    have k1 := key (groups p.length es.length (P.rest p.length es)) (base + 1) (fun g hg => ⟨(h1.one g hg).1, (h1.one g hg).2.2⟩)
    rw [build_succ]
    refine ⟨by simp, ?_⟩
    simp only [List.length_cons, Nat.add_sub_cancel]
    unfold chs at k1 ⊢
    rw [List.flatMap_cons]
    exact k1
/-- nodes from an index on are in order -/
def okFrom (n : Nat) : Nat → Tri → Prop
  | _, [] => True
  | i, x :: l => nodeOk n i x = true ∧ okFrom n (i + 1) l
theorem okFrom_app (n : Nat) : ∀ (a b : Tri) (i : Nat), okFrom n i a → okFrom n (i + a.length) b → okFrom n i (a ++ b)
  | [], b, i, _, h => h
  | x :: a, b, i, h1, h2 => ⟨h1.1, okFrom_app n a b (i + 1) h1.2 (by rw [show i + 1 + a.length = i + (x :: a).length by simp; omega]; exact h2)⟩
theorem okFrom_get (n : Nat) : ∀ (t : Tri) (i j : Nat), okFrom n i t → j < t.length → nodeOk n (i + j) (t.getD j nd0) = true
  | [], _, _, _, h => absurd h (Nat.not_lt_zero _)
  | x :: t, i, 0, h, _ => h.1
  | x :: t, i, j + 1, h, hj => by
    have := okFrom_get n t (i + 1) j h.2 (by simp at hj; omega)
    rw [show i + (j + 1) = i + 1 + j by omega]
    exact this
theorem kids_one (B : Nat → Dic → Tri) (d : Nat) : ∀ (gs : List Dic) (next : Nat), (kids B d next gs).1 = gs.map (headStroke d)
  | [], _ => rfl
  | g :: gs, next => by unfold kids; rw [List.map_cons, kids_one B d gs]
theorem build_ok (n : Nat) : ∀ (f : Nat) (es : Dic) (p : List Int) (base : Nat), (0 < f ∨ es ≠ []) → Shared p es → (∀ e ∈ es, ∀ s ∈ e.1, stroke s = true) → f + p.length = 7 → base + (build f p.length base es).length ≤ n → okFrom n base (build f p.length base es)
  | 0, es, p, base, _, _, _, _, _ => trivial
  | f + 1, es, p, base, _, hs, hst, hf, hn => by
    obtain ⟨h1, h2⟩ := hs.parts
    have key : ∀ (gs : List Dic) (next : Nat), (∀ g ∈ gs, g ≠ [] ∧ Shared (p ++ [headStroke p.length g]) g ∧ ∀ e ∈ g, ∀ s ∈ e.1, stroke s = true) → next + (kids (fun b g => build f (p.length + 1) b g) p.length next gs).2.2.length ≤ n →
        okFrom n next (kids (fun b g => build f (p.length + 1) b g) p.length next gs).2.2 ∧ ∀ c ∈ (kids (fun b g => build f (p.length + 1) b g) p.length next gs).2.1, (next : Int) ≤ c ∧ c < (next : Int) + (kids (fun b g => build f (p.length + 1) b g) p.length next gs).2.2.length := by
      intro gs
      induction gs with
      | nil => intro next _ _; exact ⟨trivial, fun c hc => by cases hc⟩
      | cons g gs ih =>
        intro next hg hn'
        unfold kids at hn' ⊢
        simp only [List.length_append] at hn' ⊢
        obtain ⟨r0, _⟩ := build_perm f g (p ++ [headStroke p.length g]) next (.inr (hg g (by simp)).1) (hg g (by simp)).2.1 (by simp; omega)
        have r1 := build_ok n f g (p ++ [headStroke p.length g]) next (.inr (hg g (by simp)).1) (hg g (by simp)).2.1 (hg g (by simp)).2.2 (by simp; omega)
        rw [show (p ++ [headStroke p.length g]).length = p.length + 1 by simp] at r0 r1
        obtain ⟨r2, r3⟩ := ih (next + (build f (p.length + 1) next g).length) (fun k hk => hg k (by simp [hk])) (by omega)
        refine ⟨okFrom_app n _ _ _ (r1 (by omega)) r2, fun c hc => ?_⟩
        rcases List.mem_cons.1 hc with rfl | hc
        · omega
        · have := r3 c hc
          push_cast at this ⊢
          omega
    have hmem : ∀ g ∈ groups p.length es.length (P.rest p.length es), ∀ e ∈ g, e ∈ es := fun g hg e he => rest_sub p.length es e (by rw [← h2]; exact List.mem_flatten.2 ⟨g, hg, he⟩)
    have k0 := kids_lens (fun b g => build f (p.length + 1) b g) p.length (groups p.length es.length (P.rest p.length es)) (base + 1)
    have k2 := kids_one (fun b g => build f (p.length + 1) b g) p.length (groups p.length es.length (P.rest p.length es)) (base + 1)
    have k1 := key (groups p.length es.length (P.rest p.length es)) (base + 1) (fun g hg => ⟨(h1.one g hg).1, (h1.one g hg).2.2, fun e he => hst e (hmem g hg e he)⟩) (by rw [build_succ] at hn; simp only [List.length_cons] at hn; omega)
    rw [build_succ] at hn ⊢
    simp only [List.length_cons] at hn
    refine ⟨?_, k1.1⟩
    revert k0 k1 k2 hn
    generalize kids (fun b g => build f (p.length + 1) b g) p.length (base + 1) (groups p.length es.length (P.rest p.length es)) = K
    intro hn k0 k2 k1
    unfold nodeOk
    simp only
    rw [decide_eq_true (by rw [k0.1, k0.2]), Bool.true_and, List.all_eq_true]
    intro k hk
    rw [List.mem_range, k0.1] at hk
    have hk1 : k < K.1.length := by omega
    have hk2 : k < K.2.1.length := by omega
    have hat : ∀ (j : Nat) (hj : j < (groups p.length es.length (P.rest p.length es)).length), K.1.getD j 0 = headStroke p.length ((groups p.length es.length (P.rest p.length es))[j]) := by
      intro j hj
      rw [k2, List.getD_eq_getElem?_getD, List.getElem?_map, List.getElem?_eq_getElem hj]; rfl
    unfold kidOk
    simp only [Bool.and_eq_true, Bool.or_eq_true, decide_eq_true_eq]
    refine ⟨⟨?_, ?_⟩, ?_⟩
    · rw [hat k hk]
      have hg := List.getElem_mem hk
      obtain ⟨hne, _, hsh⟩ := h1.one _ hg
      revert hg hne hsh
      generalize (groups p.length es.length (P.rest p.length es))[k] = g
      intro hg hne hsh
      cases g with
      | nil => exact absurd rfl hne
      | cons e l =>
        have he := hmem _ hg e (by simp)
        have hlen : p.length < e.1.length := by have := hsh.ge e (by simp); simp at this; omega
        refine hst e he _ ?_
        show e.1.getD p.length 0 ∈ e.1
        rw [List.getD_eq_getElem?_getD, List.getElem?_eq_getElem hlen]
        exact List.getElem_mem hlen
    · rcases Nat.eq_zero_or_pos k with h0 | h0
      · exact .inl h0
      · right
        rw [hat k hk, hat (k - 1) (by omega)]
        exact List.pairwise_iff_getElem.1 h1.up (k - 1) k (by omega) hk (by omega)
    · have := k1.2 (K.2.1.getD k 0) (by rw [List.getD_eq_getElem?_getD, List.getElem?_eq_getElem hk2]; exact List.getElem_mem hk2)
      push_cast at this
      omega
theorem trie_shape {l : Dic} (h : dic l = true) : shape (trie l) = true := by
  have h1 := trie_len h
  have hst : ∀ e ∈ l, ∀ s ∈ e.1, stroke s = true := fun e he => (entry_parts ((dic_parts h).2.1 e he)).2.2
  have h2 := build_ok (trie l).length 7 l [] 0 (.inl (by decide)) (dic_shared h) hst rfl (by unfold trie; simp)
  have h3 := (build_perm 7 l [] 0 (.inl (by decide)) (dic_shared h) rfl).2
  unfold shape
  rw [decide_eq_true h1, Bool.true_and, Bool.and_eq_true, List.all_eq_true, List.all_eq_true]
  refine ⟨fun i hi => ?_, fun i hi => ?_⟩
  · rw [List.mem_range] at hi
    have := okFrom_get (trie l).length (trie l) 0 i h2 hi
    rwa [Nat.zero_add] at this
  · rw [List.mem_range] at hi
    rcases Nat.eq_zero_or_pos i with h0 | h0
    · simp [h0]
    · have h4 : (chs (trie l)).count (i : Int) = 1 := by
        have := h3.count_eq (i : Int)
        rw [nums_count] at this
        unfold trie at hi ⊢
        simp only [List.length_nil] at this
        rw [this, if_pos (by omega)]
      simp [h4]
theorem trie_read {l : Dic} (h : dic l = true) : read (trie l) 7 0 [] 0 = some ((trie l).length, l) := by
  have := read_build (trie l) 7 l [] 0 [] [] (.inl (by decide)) (dic_shared h) rfl rfl (by unfold trie; simp)
  simpa [trie] using this
theorem trie_collect {l : Dic} (h : dic l = true) : collect (trie l) (trie l).length 0 [] = l :=
  collect_build (trie l) 7 l [] 0 (trie l).length [] [] (.inl (by decide)) (dic_shared h) rfl rfl (by unfold trie; simp) (by unfold trie; simp)
/-- the program's dictionary of a trie -/
def dictI (t : Tri) : Option Dic := if 241 < t.length then none else match read t 7 0 [] 0 with
  | none => none
  | some r => if dic r.2 && (trie r.2 == t) then some r.2 else none
/-- the reference's -/
def dictS (t : Tri) : Option Dic := if shape t && (dic (collect t t.length 0 []) && (t == trie (collect t t.length 0 []))) then some (collect t t.length 0 []) else none
theorem dictI_of {t : Tri} {l : Dic} (h : dictI t = some l) : dic l = true ∧ t = trie l := by
  unfold dictI at h
  split at h
  · cases h
  · split at h
    · cases h
    · rename_i r hr
      split at h
      · rename_i hc
        injection h with h
        subst h
        rw [Bool.and_eq_true, beq_iff_eq] at hc
        exact ⟨hc.1, hc.2.symm⟩
      · cases h
theorem dictI_trie {l : Dic} (h : dic l = true) : dictI (trie l) = some l := by
  unfold dictI
  rw [if_neg (by have := trie_len h; omega), trie_read h]
  simp [h]
theorem dictS_of {t : Tri} {l : Dic} (h : dictS t = some l) : dic l = true ∧ t = trie l := by
  unfold dictS at h
  split at h
  · rename_i hc
    injection h with h
    rw [h] at hc
    rw [Bool.and_eq_true, Bool.and_eq_true, beq_iff_eq] at hc
    exact hc.2
  · cases h
theorem dictS_trie {l : Dic} (h : dic l = true) : dictS (trie l) = some l := by
  unfold dictS
  rw [trie_collect h, trie_shape h]
  simp [h]
/-- THE LAW OF TRIES: the program and the reference take the same tries, and read the same of them. -/
theorem dict_eq (t : Tri) : dictI t = dictS t := by
  cases h : dictI t with
  | some l =>
    obtain ⟨h1, rfl⟩ := dictI_of h
    exact (dictS_trie h1).symm
  | none =>
    cases h' : dictS t with
    | none => rfl
    | some l =>
      obtain ⟨h1, rfl⟩ := dictS_of h'
      rw [dictI_trie h1] at h
      cases h
/-- how many nodes the reference visits -/
def visT (t : Tri) : Nat → Nat → Nat
  | 0, _ => 0
  | f + 1, k => 1 + ((t.getD k nd0).2.1.map fun c => visT t f c.toNat).sum
theorem collect_vis (t : Tri) : ∀ (f k : Nat) (o : List Int), (collect t f k o).length ≤ visT t f k
  | 0, _, _ => Nat.zero_le _
  | f + 1, k, o => by
    unfold collect visT
    have h1 : (own o (t.getD k nd0)).length ≤ 1 := by unfold own; split <;> simp
    have h2 : ∀ (a b : List Int), ((a.zip b).flatMap fun sc => collect t f sc.2.toNat (o ++ [sc.1])).length ≤ (b.map fun c => visT t f c.toNat).sum := by
      intro a
      induction a with
      | nil => intro b; simp
      | cons x a ih =>
        intro b
        cases b with
        | nil => simp
        | cons y b =>
          have := ih b
          have := collect_vis t f y.toNat (o ++ [x])
          rw [List.zip_cons_cons, List.flatMap_cons, List.length_append, List.map_cons, List.sum_cons]
          simp only
          omega
    have h3 := h2 (t.getD k nd0).1 (t.getD k nd0).2.1
    rw [List.length_append]
    omega
theorem vis_fuel (t : Tri) (h : ∀ i, i < t.length → ∀ c ∈ (t.getD i nd0).2.1, (i : Int) + 1 ≤ c ∧ c < t.length) : ∀ (f g k : Nat), t.length ≤ k + f → t.length ≤ k + g → k < t.length → visT t f k = visT t g k
  | 0, _, k, h1, _, h3 => by omega
  | f + 1, 0, k, _, h2, h3 => by omega
  | f + 1, g + 1, k, h1, h2, h3 => by
    unfold visT
    congr 2
    refine List.map_congr_left fun c hc => ?_
    have := h k h3 c hc
    exact vis_fuel t h f g c.toNat (by omega) (by omega) (by omega)
def upto (ch : Nat → List Int) : Nat → List Int
  | 0 => []
  | k + 1 => upto ch k ++ ch k
theorem split_at (v : Nat → Nat) (k : Nat) : ∀ l : List Int, (l.map fun c => if (k : Int) ≤ c then v c.toNat else 0).sum = (l.map fun c => if (k : Int) + 1 ≤ c then v c.toNat else 0).sum + l.count (k : Int) * v k
  | [] => by simp
  | c :: l => by
    have ih := split_at v k l
    rw [List.map_cons, List.sum_cons, List.map_cons, List.sum_cons, List.count_cons, ih]
    by_cases h : c = (k : Int)
    · subst h
      rw [if_pos (Int.le_refl _), if_neg (by omega), if_pos (by simp), Nat.add_mul, Int.toNat_natCast]
      omega
    · by_cases h2 : (k : Int) ≤ c
      · rw [if_pos h2, if_pos (by omega), if_neg (by simpa using h), Nat.add_zero]; omega
      · rw [if_neg h2, if_neg (by omega), if_neg (by simpa using h), Nat.add_zero]; omega
theorem tree_count (n : Nat) (ch : Nat → List Int) (v : Nat → Nat) (h1 : ∀ i, i < n → ∀ c ∈ ch i, (i : Int) + 1 ≤ c ∧ c < n) (h2 : ∀ c : Nat, 1 ≤ c → c < n → (upto ch n).count (c : Int) = 1) (hv : ∀ i, i < n → v i = 1 + ((ch i).map fun c => v c.toNat).sum) (hn : 0 < n) : v 0 = n := by
  have hup : ∀ k, k ≤ n → ∀ c ∈ upto ch k, c < n := by
    intro k
    induction k with
    | zero => intro _ c hc; cases hc
    | succ k ih =>
      intro hk c hc
      rcases List.mem_append.1 hc with hc | hc
      · exact ih (by omega) c hc
      · exact (h1 k (by omega) c hc).2
  have hct : ∀ (k j : Nat), k + j ≤ n → (upto ch (k + j)).count (k : Int) = (upto ch k).count (k : Int) := by
    intro k j
    induction j with
    | zero => intro _; rfl
    | succ j ih =>
      intro hj
      have h0 : (ch (k + j)).count (k : Int) = 0 := List.count_eq_zero.2 (fun hm => by have := h1 (k + j) (by omega) _ hm; omega)
      show (upto ch (k + j) ++ ch (k + j)).count (k : Int) = _
      rw [List.count_append, ih (by omega), h0]; rfl
  have hge : ∀ k, k < n → ((ch k).map fun c => if (k : Int) + 1 ≤ c then v c.toNat else 0) = (ch k).map fun c => v c.toNat := by
    intro k hk
    refine List.map_congr_left fun c hc => ?_
    rw [if_pos (h1 k hk c hc).1]
  have key : ∀ m k : Nat, k + m = n → 1 ≤ k → ((upto ch k).map fun c => if (k : Int) ≤ c then v c.toNat else 0).sum = m := by
    intro m
    induction m with
    | zero =>
      intro k hk _
      have : ((upto ch k).map fun c => if (k : Int) ≤ c then v c.toNat else 0) = (upto ch k).map fun _ => 0 := by
        refine List.map_congr_left fun c hc => ?_
        rw [if_neg (by have := hup k (by omega) c hc; omega)]
      rw [this]
      generalize upto ch k = l
      induction l with
      | nil => rfl
      | cons a l ih => simpa using ih
    | succ m ih =>
      intro k hk h0
      have a1 := ih (k + 1) (by omega) (by omega)
      have a2 := split_at v k (upto ch k)
      have a3 := hv k (by omega)
      have a4 := hct k (n - k) (by omega)
      rw [show k + (n - k) = n by omega, h2 k h0 (by omega)] at a4
      rw [← a4, Nat.one_mul] at a2
      have a5 : ((upto ch (k + 1)).map fun c => if ((k + 1 : Nat) : Int) ≤ c then v c.toNat else 0).sum = ((upto ch k).map fun c => if (k : Int) + 1 ≤ c then v c.toNat else 0).sum + ((ch k).map fun c => v c.toNat).sum := by
        rw [← hge k (by omega), ← List.sum_append, ← List.map_append]; rfl
      rw [a5] at a1
      omega
  have b1 := key (n - 1) 1 (by omega) (Nat.le_refl _)
  have b2 := hv 0 hn
  have b3 := hge 0 hn
  have b4 : upto ch 1 = ch 0 := rfl
  rw [b4] at b1
  have b5 : ((ch 0).map fun c => if ((1 : Nat) : Int) ≤ c then v c.toNat else 0) = (ch 0).map fun c => v c.toNat := by
    rw [← b3]; rfl
  rw [b5] at b1
  omega
theorem upto_chs (t : Tri) : ∀ k, k ≤ t.length → upto (fun i => (t.getD i nd0).2.1) k = chs (t.take k)
  | 0, _ => by simp [upto, chs]
  | k + 1, h => by
    unfold upto
    rw [upto_chs t k (by omega)]
    unfold chs
    rw [List.take_succ_eq_append_getElem (by omega), List.flatMap_append, List.getD_eq_getElem?_getD, List.getElem?_eq_getElem (by omega)]
    simp
/-- the nodes of a trie in shape -/
structure Shaped (t : Tri) : Prop where
  pos : 1 ≤ t.length
  le : t.length ≤ 241
  len : ∀ i, i < t.length → (t.getD i nd0).1.length = (t.getD i nd0).2.1.length
  kid : ∀ i, i < t.length → ∀ k, k < (t.getD i nd0).1.length → kidOk t.length i (t.getD i nd0) k = true
  one : ∀ c : Nat, 1 ≤ c → c < t.length → (chs t).count (c : Int) = 1
theorem shaped_of {t : Tri} (h : shape t = true) : Shaped t := by
  unfold shape at h
  rw [Bool.and_eq_true, Bool.and_eq_true, decide_eq_true_eq, List.all_eq_true, List.all_eq_true] at h
  obtain ⟨⟨h1, h2⟩, h3⟩ := h
  have h4 : ∀ i, i < t.length → (t.getD i nd0).1.length = (t.getD i nd0).2.1.length ∧ ∀ k, k < (t.getD i nd0).1.length → kidOk t.length i (t.getD i nd0) k = true := by
    intro i hi
    have := h2 i (by simpa using hi)
    unfold nodeOk at this
    rw [Bool.and_eq_true, decide_eq_true_eq, List.all_eq_true] at this
    exact ⟨this.1, fun k hk => this.2 k (by simpa using hk)⟩
  refine ⟨h1.1, h1.2, fun i hi => (h4 i hi).1, fun i hi => (h4 i hi).2, fun c c1 c2 => ?_⟩
  have := h3 c (by simpa using c2)
  rw [Bool.or_eq_true, decide_eq_true_eq, decide_eq_true_eq] at this
  rcases this with h | h
  · omega
  · exact h
theorem Shaped.child {t : Tri} (h : Shaped t) (i : Nat) (hi : i < t.length) : ∀ c ∈ (t.getD i nd0).2.1, (i : Int) + 1 ≤ c ∧ c < t.length := by
  intro c hc
  obtain ⟨k, hk, rfl⟩ := List.mem_iff_getElem.1 hc
  have := h.kid i hi k (by rw [h.len i hi]; exact hk)
  unfold kidOk at this
  simp only [Bool.and_eq_true, decide_eq_true_eq] at this
  have h2 := this.2
  rw [List.getD_eq_getElem?_getD (l := (t.getD i nd0).2.1), List.getElem?_eq_getElem hk] at h2
  simp only [Option.getD_some] at h2
  omega
/-- a trie in shape gives no more entries than it has nodes -/
theorem Shaped.few {t : Tri} (h : Shaped t) : (collect t t.length 0 []).length ≤ 241 := by
  have hc := h.child
  have h1 := tree_count t.length (fun i => (t.getD i nd0).2.1) (fun i => visT t t.length i) (fun i hi c hcc => hc i hi c hcc)
    (fun c c1 c2 => by rw [upto_chs t t.length (Nat.le_refl _), List.take_length]; exact h.one c c1 c2)
    (fun i hi => by
      obtain ⟨m, hm⟩ : ∃ m, t.length = m + 1 := ⟨t.length - 1, by omega⟩
      rw [hm]
      show 1 + _ = 1 + _
      congr 2
      refine List.map_congr_left fun c hcc => ?_
      have := hc i hi c hcc
      exact vis_fuel t hc m (m + 1) c.toNat (by omega) (by omega) (by omega))
    h.pos
  have h2 := collect_vis t t.length 0 []
  have h3 := h.le
  have h4 : visT t t.length 0 = t.length := h1
  omega
end P
end Go.Proofs.YtkjidjomlpnnlaaGreatDoor
