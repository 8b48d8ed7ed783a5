/- Plain: the trie of a dictionary, how it is built, read and collected. -/
import Derived.Test.YtojcfpjoikmgcaaGreatDoorPlainD
namespace Go.Proofs.YtojcfpjoikmgcaaGreatDoor
namespace P
/-- a node: strokes, children, whether it has a text, the text -/
abbrev Nd := List Int × List Int × Bool × Bs
abbrev Tri := List Nd
def strokeAt (d : Nat) (e : Ent) : Int := e.1.getD d 0
/-- the entries in parts that share a stroke -/
def groups (d : Nat) : Nat → Dic → List Dic
  | 0, _ => []
  | _ + 1, [] => []
  | n + 1, e :: l => (e :: l.takeWhile fun x => strokeAt d x == strokeAt d e) :: groups d n (l.dropWhile fun x => strokeAt d x == strokeAt d e)
def headStroke (d : Nat) : Dic → Int
  | [] => 0
  | e :: _ => strokeAt d e
/-- the subtrees of parts, from an index on: strokes, children, nodes -/
def kids (B : Nat → Dic → Tri) (d : Nat) : Nat → List Dic → List Int × List Int × Tri
  | _, [] => ([], [], [])
  | next, g :: gs => (headStroke d g :: (kids B d (next + (B next g).length) gs).1, (next : Int) :: (kids B d (next + (B next g).length) gs).2.1, B next g ++ (kids B d (next + (B next g).length) gs).2.2)
/-- what stands behind the entry of a node itself -/
def rest (d : Nat) : Dic → Dic
  | [] => []
  | e :: l => if e.1.length = d then l else e :: l
def ownText (d : Nat) : Dic → Bool × Bs
  | [] => (false, [])
  | e :: _ => if e.1.length = d then (true, e.2) else (false, [])
/-- the subtree of entries that share their first d strokes -/
def build : Nat → Nat → Nat → Dic → Tri
  | 0, _, _, _ => []
  | f + 1, d, base, es =>
    ((kids (fun b g => build f (d + 1) b g) d (base + 1) (groups d es.length (rest d es))).1, (kids (fun b g => build f (d + 1) b g) d (base + 1) (groups d es.length (rest d es))).2.1, ownText d es) ::
      (kids (fun b g => build f (d + 1) b g) d (base + 1) (groups d es.length (rest d es))).2.2
theorem build_succ (f d base : Nat) (es : Dic) : build (f + 1) d base es = ((kids (fun b g => build f (d + 1) b g) d (base + 1) (groups d es.length (rest d es))).1, (kids (fun b g => build f (d + 1) b g) d (base + 1) (groups d es.length (rest d es))).2.1, ownText d es) ::
      (kids (fun b g => build f (d + 1) b g) d (base + 1) (groups d es.length (rest d es))).2.2 := rfl
/-- the trie of a dictionary -/
def trie (l : Dic) : Tri := build 7 0 0 l
/-- entries that share their first d strokes, in order -/
structure Shared (p : List Int) (es : Dic) : Prop where
  pre : ∀ e ∈ es, e.1.take p.length = p
  len : ∀ e ∈ es, e.1.length ≤ 6
  lt : es.Pairwise lt
theorem Shared.ge {p : List Int} {es : Dic} (h : Shared p es) : ∀ e ∈ es, p.length ≤ e.1.length := by
  intro e he
  have := congrArg List.length (h.pre e he)
  rw [List.length_take] at this
  omega
theorem Shared.split {p : List Int} {es : Dic} (h : Shared p es) (e : Ent) (he : e ∈ es) : e.1 = p ++ e.1.drop p.length := by
  have := List.take_append_drop p.length e.1
  rw [h.pre e he] at this
  exact this.symm
theorem cmp_prefix (p a b : List Int) : cmp (p ++ a) (p ++ b) = cmp a b := by
  induction p with
  | nil => rfl
  | cons x p ih => simp [cmp, ih]
theorem rest_cons (d : Nat) (a : Ent) (l : Dic) : rest d (a :: l) = if a.1.length = d then l else a :: l := rfl
theorem own_cons (d : Nat) (a : Ent) (l : Dic) : ownText d (a :: l) = if a.1.length = d then (true, a.2) else (false, []) := rfl
theorem rest_sub (d : Nat) (es : Dic) : ∀ e ∈ rest d es, e ∈ es := by
  cases es with
  | nil => intro e h; exact h
  | cons a l =>
    intro e h
    rw [rest_cons] at h
    split at h
    · exact List.mem_cons_of_mem _ h
    · exact h
theorem Shared.tail {p : List Int} {e : Ent} {l : Dic} (h : Shared p (e :: l)) : Shared p l :=
  ⟨fun x hx => h.pre x (by simp [hx]), fun x hx => h.len x (by simp [hx]), (List.pairwise_cons.1 h.lt).2⟩
theorem Shared.rest {p : List Int} {es : Dic} (h : Shared p es) : Shared p (rest p.length es) ∧ ∀ e ∈ rest p.length es, p.length < e.1.length := by
  cases es with
  | nil => exact ⟨h, fun e he => by cases he⟩
  | cons a l =>
    have hl : ∀ e ∈ l, p.length < e.1.length := by
      intro e he
      have h1 := h.ge e (by simp [he])
      rcases Nat.lt_or_ge p.length e.1.length with h2 | h2
      · exact h2
      · exfalso
        have h3 := (List.pairwise_cons.1 h.lt).1 e he
        unfold P.lt at h3
        have h4 : e.1 = p ++ [] := by
          have := h.split e (by simp [he])
          rw [List.drop_of_length_le h2] at this
          exact this
        rw [h.split a (by simp), h4, cmp_prefix] at h3
        cases hc : a.1.drop p.length with
        | nil => rw [hc] at h3; exact absurd h3 (by decide)
        | cons _ _ => rw [hc] at h3; exact absurd h3 (by unfold cmp; decide)
    rw [rest_cons]
    split
    · exact ⟨h.tail, hl⟩
    · rename_i hn
      refine ⟨h, fun e he => ?_⟩
      rcases List.mem_cons.1 he with rfl | he
      · have := h.ge e (by simp); omega
      · exact hl e he
theorem stroke_of {p : List Int} {es : Dic} (h : Shared p es) (e : Ent) (he : e ∈ es) (hl : p.length < e.1.length) : e.1 = p ++ strokeAt p.length e :: e.1.drop (p.length + 1) := by
  have h1 := h.split e he
  have h2 : e.1.drop p.length = strokeAt p.length e :: e.1.drop (p.length + 1) := by
    rw [List.drop_eq_getElem_cons hl]
    unfold strokeAt
    rw [List.getD_eq_getElem?_getD, List.getElem?_eq_getElem hl]; rfl
  rw [h2] at h1; exact h1
/-- along a row, strokes do not fall -/
theorem stroke_le {p : List Int} {a b : Ent} {es : Dic} (h : Shared p es) (ha : a ∈ es) (hb : b ∈ es) (la : p.length < a.1.length) (lb : p.length < b.1.length) (hlt : lt a b) : strokeAt p.length a ≤ strokeAt p.length b := by
  unfold P.lt at hlt
  rw [stroke_of h a ha la, stroke_of h b hb lb, cmp_prefix] at hlt
  unfold cmp at hlt
  split at hlt
  · omega
  · split at hlt
    · exact absurd hlt (by decide)
    · omega
/-- how the parts lie -/
structure Parts (p : List Int) (gs : List Dic) : Prop where
  one : ∀ g ∈ gs, g ≠ [] ∧ (∀ e ∈ g, strokeAt p.length e = headStroke p.length g) ∧ Shared (p ++ [headStroke p.length g]) g
  up : gs.Pairwise fun g k => headStroke p.length g < headStroke p.length k
theorem drop_lt (d : Nat) (s : Int) : ∀ (l : Dic), l.Pairwise (fun a b => strokeAt d a ≤ strokeAt d b) → (∀ e ∈ l, s ≤ strokeAt d e) → ∀ e ∈ l.dropWhile (fun x => strokeAt d x == s), s < strokeAt d e
  | [], _, _, e, he => by cases he
  | a :: l, hp, hs, e, he => by
    rw [List.dropWhile_cons] at he
    rw [List.pairwise_cons] at hp
    split at he
    · exact drop_lt d s l hp.2 (fun x hx => hs x (by simp [hx])) e he
    · rename_i hn
      have h1 := hs a (by simp)
      have h2 : strokeAt d a ≠ s := by simpa using hn
      rcases List.mem_cons.1 he with rfl | he
      · omega
      · have := hp.1 e he; omega
theorem groups_flat (d : Nat) : ∀ (n : Nat) (l : Dic), l.length ≤ n → (groups d n l).flatten = l
  | 0, l, h => by rw [List.length_eq_zero_iff.1 (by omega : l.length = 0)]; rfl
  | n + 1, [], _ => rfl
  | n + 1, e :: l, h => by
    unfold groups
    rw [List.flatten_cons, groups_flat d n _ (Nat.le_trans (List.dropWhile_sublist _).length_le (by simp at h; omega)), List.cons_append, List.takeWhile_append_dropWhile]
theorem groups_parts {p : List Int} : ∀ (n : Nat) (l : Dic), l.length ≤ n → Shared p l → (∀ e ∈ l, p.length < e.1.length) → Parts p (groups p.length n l)
  | 0, _, _, _, _ => ⟨fun g hg => (by cases hg), List.Pairwise.nil⟩
  | n + 1, [], _, _, _ => ⟨fun g hg => (by cases hg), List.Pairwise.nil⟩
  | n + 1, e :: l, h, hs, hl => by
    have hpw : (e :: l).Pairwise (fun a b => strokeAt p.length a ≤ strokeAt p.length b) :=
      List.Pairwise.imp_of_mem (fun ha hb hab => stroke_le hs ha hb (hl _ ha) (hl _ hb) hab) hs.lt
    have htw : ∀ x ∈ l.takeWhile (fun x => strokeAt p.length x == strokeAt p.length e), strokeAt p.length x = strokeAt p.length e := by
      intro x hx
      have := List.all_eq_true.1 (List.all_takeWhile (l := l) (p := fun x => strokeAt p.length x == strokeAt p.length e)) x hx
      simpa using this
    have hsubT : (e :: l.takeWhile (fun x => strokeAt p.length x == strokeAt p.length e)).Sublist (e :: l) := List.Sublist.cons_cons _ (List.takeWhile_sublist _)
    have hsubD : (l.dropWhile (fun x => strokeAt p.length x == strokeAt p.length e)).Sublist (e :: l) := List.Sublist.cons _ (List.dropWhile_sublist _)
    have hd : ∀ x ∈ l.dropWhile (fun x => strokeAt p.length x == strokeAt p.length e), strokeAt p.length e < strokeAt p.length x :=
      drop_lt _ _ l (List.pairwise_cons.1 hpw).2 (List.pairwise_cons.1 hpw).1
    have ih := groups_parts n (l.dropWhile (fun x => strokeAt p.length x == strokeAt p.length e)) (Nat.le_trans (List.dropWhile_sublist _).length_le (by simp at h; omega)) ⟨fun x hx => hs.pre x (hsubD.subset hx), fun x hx => hs.len x (hsubD.subset hx), hs.lt.sublist hsubD⟩ (fun x hx => hl x (hsubD.subset hx))
    have hfl := groups_flat p.length n (l.dropWhile (fun x => strokeAt p.length x == strokeAt p.length e)) (Nat.le_trans (List.dropWhile_sublist _).length_le (by simp at h; omega))
    unfold groups
    refine ⟨fun g hg => ?_, List.pairwise_cons.2 ⟨fun g hg => ?_, ih.up⟩⟩
    · rcases List.mem_cons.1 hg with rfl | hg
      · refine ⟨by simp, fun x hx => ?_, fun x hx => ?_, fun x hx => hs.len x (hsubT.subset hx), hs.lt.sublist hsubT⟩
        · rcases List.mem_cons.1 hx with rfl | hx
          · rfl
          · exact htw x hx
        · have h1 : strokeAt p.length x = strokeAt p.length e := by
            rcases List.mem_cons.1 hx with rfl | hx
            · rfl
            · exact htw x hx
          have h2 := stroke_of hs x (hsubT.subset hx) (hl x (hsubT.subset hx))
          show x.1.take (p ++ [strokeAt p.length e]).length = p ++ [strokeAt p.length e]
          rw [h2, ← h1, show p ++ strokeAt p.length x :: x.1.drop (p.length + 1) = (p ++ [strokeAt p.length x]) ++ x.1.drop (p.length + 1) by simp, List.take_left]
      · exact ih.one g hg
    · obtain ⟨hne, _, _⟩ := ih.one g hg
      cases g with
      | nil => exact absurd rfl hne
      | cons y g =>
        show strokeAt p.length e < strokeAt p.length y
        refine hd y ?_
        rw [← hfl]
        exact List.mem_flatten.2 ⟨_, hg, by simp⟩
/-- the parts of entries that share a prefix -/
theorem Shared.parts {p : List Int} {es : Dic} (h : Shared p es) : Parts p (groups p.length es.length (P.rest p.length es)) ∧ (groups p.length es.length (P.rest p.length es)).flatten = P.rest p.length es := by
  have hl : (P.rest p.length es).length ≤ es.length := by
    cases es with
    | nil => exact Nat.le_refl _
    | cons a l =>
      rw [rest_cons]
      split
      · simp
      · exact Nat.le_refl _
  exact ⟨groups_parts _ _ hl h.rest.1 h.rest.2, groups_flat _ _ _ hl⟩
theorem own_rest {p : List Int} {es : Dic} (h : Shared p es) : (if (ownText p.length es).1 then [(p, (ownText p.length es).2)] else []) ++ P.rest p.length es = es := by
  cases es with
  | nil => rfl
  | cons a l =>
    rw [own_cons, rest_cons]
    by_cases hl : a.1.length = p.length
    · rw [if_pos hl, if_pos hl]
      have h2 : a.1 = p := by
        have := h.split a (by simp)
        rw [List.drop_of_length_le (by omega), List.append_nil] at this
        exact this
      obtain ⟨o, t⟩ := a
      simp only at h2
      subst h2
      rfl
    · rw [if_neg hl, if_neg hl]; rfl
/-- the size of a subtree -/
def mass (d : Nat) (es : Dic) : Nat := (es.map fun e => e.1.length - d).sum
theorem mass_app (d : Nat) (a b : Dic) : mass d (a ++ b) = mass d a + mass d b := by unfold mass; rw [List.map_append, List.sum_append]
theorem mass_up (d : Nat) : ∀ (g : Dic), (∀ e ∈ g, d < e.1.length) → mass (d + 1) g + g.length = mass d g
  | [], _ => rfl
  | e :: g, h => by
    have h1 := mass_up d g (fun x hx => h x (by simp [hx]))
    have h2 := h e (by simp)
    unfold mass at h1 ⊢
    simp only [List.map_cons, List.sum_cons, List.length_cons]
    omega
theorem build_len : ∀ (f d base : Nat) (es : Dic) (p : List Int), p.length = d → Shared p es → (build f d base es).length ≤ 1 + mass d es
  | 0, _, _, _, _, _, _ => Nat.zero_le _
  | f + 1, d, base, es, p, hp, hs => by
    subst hp
    rw [build_succ]
    obtain ⟨h1, h2⟩ := hs.parts
    have h3 : ∀ g ∈ groups p.length es.length (P.rest p.length es), g ≠ [] ∧ ∀ e ∈ g, p.length < e.1.length := by
      intro g hg
      refine ⟨(h1.one g hg).1, fun e he => ?_⟩
      have := (h1.one g hg).2.2.ge e he
      simp at this; omega
    have key : ∀ (gs : List Dic) (next : Nat), (∀ g ∈ gs, g ∈ groups p.length es.length (P.rest p.length es)) → (kids (fun b g => build f (p.length + 1) b g) p.length next gs).2.2.length ≤ mass p.length gs.flatten := by
      intro gs
      induction gs with
      | nil => intro _ _; exact Nat.zero_le _
      | cons g gs ih =>
        intro next hg
        unfold kids
        have a1 := build_len f (p.length + 1) next g (p ++ [headStroke p.length g]) (by simp) (h1.one g (hg g (by simp))).2.2
        have a2 := ih (next + (build f (p.length + 1) next g).length) (fun k hk => hg k (by simp [hk]))
        have a3 := mass_up p.length g (h3 g (hg g (by simp))).2
        have a4 := List.length_pos_iff.2 (h3 g (hg g (by simp))).1
        rw [List.flatten_cons, mass_app]
        simp only [List.length_append]
        omega
    have h4 := key _ (base + 1) (fun g hg => hg)
    rw [h2] at h4
    have h5 : mass p.length (P.rest p.length es) ≤ mass p.length es := by
      cases es with
      | nil => exact Nat.le_refl _
      | cons a l =>
        rw [rest_cons]
        split
        · unfold mass; simp
        · exact Nat.le_refl _
    simp only [List.length_cons]
    omega
theorem dic_parts {l : Dic} (h : dic l = true) : l.length ≤ 40 ∧ (∀ e ∈ l, entry e = true) ∧ l.Pairwise lt := by
  unfold dic at h
  rw [Bool.and_eq_true, Bool.and_eq_true, decide_eq_true_eq, List.all_eq_true, rising_pair] at h
  exact h
theorem entry_parts {e : Ent} (h : entry e = true) : 1 ≤ e.1.length ∧ e.1.length ≤ 6 ∧ ∀ s ∈ e.1, stroke s = true := by
  unfold entry outline at h
  rw [Bool.and_eq_true, Bool.and_eq_true, decide_eq_true_eq, List.all_eq_true] at h
  exact ⟨by omega, by omega, h.1.2⟩
theorem dic_shared {l : Dic} (h : dic l = true) : Shared [] l :=
  ⟨fun e _ => by simp, fun e he => (entry_parts ((dic_parts h).2.1 e he)).2.1, (dic_parts h).2.2⟩
theorem trie_len {l : Dic} (h : dic l = true) : 1 ≤ (trie l).length ∧ (trie l).length ≤ 241 := by
  refine ⟨by unfold trie; rw [build_succ]; simp, ?_⟩
  have h1 := build_len 7 0 0 l [] rfl (dic_shared h)
  have h2 : ∀ m : Dic, (∀ e ∈ m, e.1.length ≤ 6) → mass 0 m ≤ m.length * 6 := by
    intro m
    induction m with
    | nil => intro _; exact Nat.zero_le _
    | cons a m ih =>
      intro hm
      have := ih (fun e he => hm e (by simp [he]))
      have := hm a (by simp)
      unfold mass at *
      simp only [List.map_cons, List.sum_cons, List.length_cons]
      omega
  have h3 := h2 l (dic_shared h).len
  have h4 := (dic_parts h).1
  unfold trie
  omega
/-- no node -/
def nd0 : Nd := ([], [], false, [])
/-- the program's reading of a trie -/
def readK (R : Int → List Int → Nat → Option (Nat × Dic)) (o : List Int) : List (Int × Int) → Nat → Option (Nat × Dic)
  | [], nx => some (nx, [])
  | (s, c) :: l, nx => match R c (o ++ [s]) nx with
    | none => none
    | some (n1, e1) => match readK R o l n1 with
      | none => none
      | some (n2, e2) => some (n2, e1 ++ e2)
def own (o : List Int) (n : Nd) : Dic := if n.2.2.1 then [(o, n.2.2.2)] else []
def read (t : Tri) : Nat → Int → List Int → Nat → Option (Nat × Dic)
  | 0, _, _, _ => none
  | f + 1, k, o, nx =>
    if k = (nx : Int) ∧ nx < t.length then
      if (t.getD nx nd0).1.length = (t.getD nx nd0).2.1.length then
        (readK (read t f) o ((t.getD nx nd0).1.zip (t.getD nx nd0).2.1) (nx + 1)).map fun r => (r.1, own o (t.getD nx nd0) ++ r.2)
      else none
    else none
theorem kids_lens (B : Nat → Dic → Tri) (d : Nat) : ∀ (gs : List Dic) (next : Nat), (kids B d next gs).1.length = gs.length ∧ (kids B d next gs).2.1.length = gs.length
  | [], _ => ⟨rfl, rfl⟩
  | g :: gs, next => by
    obtain ⟨h1, h2⟩ := kids_lens B d gs (next + (B next g).length)
    unfold kids
    exact ⟨by simp [h1], by simp [h2]⟩
theorem getD_mid (A : Tri) (x : Nd) (C : Tri) : (A ++ x :: C).getD A.length nd0 = x := by
  rw [List.getD_eq_getElem?_getD, List.getElem?_append_right (Nat.le_refl _), Nat.sub_self]; rfl
theorem read_build (t : Tri) : ∀ (f : Nat) (es : Dic) (p : List Int) (base : Nat) (A C : Tri), (0 < f ∨ es ≠ []) → Shared p es → f + p.length = 7 → A.length = base → t = A ++ (build f p.length base es ++ C) → read t f (base : Int) p base = some (base + (build f p.length base es).length, es)
  | 0, es, p, base, A, C, hne, hs, hf, hA, ht => by
    rcases hne with h | h
    · exact absurd h (Nat.lt_irrefl _)
    · obtain ⟨e, he⟩ := List.exists_mem_of_ne_nil es h
      have := hs.ge e he; have := hs.len e he; omega
  | f + 1, es, p, base, A, C, _, hs, hf, hA, ht => by
    subst hA
    obtain ⟨h1, h2⟩ := hs.parts
    have key : ∀ (gs : List Dic) (next : Nat) (A' C' : Tri), (∀ g ∈ gs, g ≠ [] ∧ Shared (p ++ [headStroke p.length g]) g) → A'.length = next → t = A' ++ ((kids (fun b g => build f (p.length + 1) b g) p.length next gs).2.2 ++ C') →
        readK (read t f) p ((kids (fun b g => build f (p.length + 1) b g) p.length next gs).1.zip (kids (fun b g => build f (p.length + 1) b g) p.length next gs).2.1) next = some (next + (kids (fun b g => build f (p.length + 1) b g) p.length next gs).2.2.length, gs.flatten) := by
      intro gs
      induction gs with
      | nil => intro next A' C' _ _ _; rfl
      | cons g gs ih =>
        intro next A' C' hg hA' ht'
        unfold kids at ht' ⊢
        have r1 := read_build t f g (p ++ [headStroke p.length g]) next A' ((kids (fun b g => build f (p.length + 1) b g) p.length (next + (build f (p.length + 1) next g).length) gs).2.2 ++ C') (.inr (hg g (by simp)).1) (hg g (by simp)).2 (by simp; omega) hA' (by rw [ht']; simp)
        have r2 := ih (next + (build f (p.length + 1) next g).length) (A' ++ build f (p.length + 1) next g) C' (fun k hk => hg k (by simp [hk])) (by simp [hA']) (by rw [ht']; simp)
        rw [show (p ++ [headStroke p.length g]).length = p.length + 1 by simp] at r1
        simp only [List.zip_cons_cons, readK, r1, r2, List.length_append, List.flatten_cons, Nat.add_assoc]
    have k1 := key _ (A.length + 1) (A ++ [((kids (fun b g => build f (p.length + 1) b g) p.length (A.length + 1) (groups p.length es.length (P.rest p.length es))).1, (kids (fun b g => build f (p.length + 1) b g) p.length (A.length + 1) (groups p.length es.length (P.rest p.length es))).2.1, ownText p.length es)]) C (fun g hg => ⟨(h1.one g hg).1, (h1.one g hg).2.2⟩) (by simp) (by rw [ht, build_succ]; simp)
    have hg : t.getD A.length nd0 = ((kids (fun b g => build f (p.length + 1) b g) p.length (A.length + 1) (groups p.length es.length (P.rest p.length es))).1, (kids (fun b g => build f (p.length + 1) b g) p.length (A.length + 1) (groups p.length es.length (P.rest p.length es))).2.1, ownText p.length es) := by
      rw [ht, build_succ, List.cons_append]; exact getD_mid _ _ _
    have hl : A.length < t.length := by rw [ht, build_succ]; simp
    obtain ⟨l1, l2⟩ := kids_lens (fun b g => build f (p.length + 1) b g) p.length (groups p.length es.length (P.rest p.length es)) (A.length + 1)
    unfold read
    rw [if_pos ⟨rfl, hl⟩, hg]
    simp only
    rw [if_pos (by rw [l1, l2]), k1, h2]
    have h3 := own_rest hs
    unfold own
    simp only [Option.map_some]
    rw [h3]
    rw [build_succ]
    simp only [List.length_cons]
    congr 2
    omega
theorem trie_read {l : Dic} (h : dic l = true) : read (trie l) 7 0 [] 0 = some ((trie l).length, l) := by
  have := read_build (trie l) 7 l [] 0 [] [] (.inl (by decide)) (dic_shared h) rfl rfl (by unfold trie; simp)
  simpa [trie] using this
/-- the program's dictionary of a trie -/
def dictI (t : Tri) : Option Dic := if 241 < t.length then none else match read t 7 0 [] 0 with
  | none => none
  | some r => if dic r.2 && (trie r.2 == t) then some r.2 else none
theorem dictI_trie {l : Dic} (h : dic l = true) : dictI (trie l) = some l := by
  unfold dictI
  rw [if_neg (by have := trie_len h; omega), trie_read h]
  simp [h]
def upto (ch : Nat → List Int) : Nat → List Int
  | 0 => []
  | k + 1 => upto ch k ++ ch k
end P
end Go.Proofs.YtojcfpjoikmgcaaGreatDoor
