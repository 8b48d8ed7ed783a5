/- Plain: in the trie of a dictionary a node's continuations lead to its children. -/
import Derived.Test.YtojcfpjoikmgcaaGreatDoorMore
import Derived.Test.YtojcfpjoikmgcaaGreatDoorPlainWalk
namespace Go.Proofs.YtojcfpjoikmgcaaGreatDoor.P
theorem kidIn_nth : ∀ (xs cs : List Int), xs.Pairwise (· < ·) → ∀ (i : Nat) (h : i < xs.length) (h' : i < cs.length), kidIn (xs[i]'h) xs cs = cs[i]'h'
  | [], _, _, i, h, _ => absurd h (Nat.not_lt_zero _)
  | _ :: _, [], _, i, _, h' => absurd h' (Nat.not_lt_zero _)
  | a :: xs, c :: cs, hp, 0, _, _ => by show (if a = a then c else _) = c; rw [if_pos rfl]
  | a :: xs, c :: cs, hp, i + 1, h, h' => by
    rw [List.pairwise_cons] at hp
    have h1 : i < xs.length := Nat.lt_of_succ_lt_succ h
    have h2 := hp.1 (xs[i]'h1) (List.getElem_mem h1)
    show (if a = xs[i]'h1 then c else kidIn (xs[i]'h1) xs cs) = cs[i]'(Nat.lt_of_succ_lt_succ h')
    rw [if_neg (by omega)]
    exact kidIn_nth xs cs hp.2 i h1 (Nat.lt_of_succ_lt_succ h')
theorem kids_hd (B : Nat → Dic → Tri) (d : Nat) : ∀ (gs : List Dic) (next : Nat), (kids B d next gs).1 = gs.map (headStroke d)
  | [], _ => rfl
  | g :: gs, next => by
    show headStroke d g :: (kids B d (next + (B next g).length) gs).1 = _
    rw [kids_hd B d gs]; rfl
theorem kids_nonneg (B : Nat → Dic → Tri) (d : Nat) : ∀ (gs : List Dic) (next : Nat), ∀ x ∈ (kids B d next gs).2.1, 0 ≤ x
  | [], _, x, h => by cases h
  | g :: gs, next, x, h => by
    have e : (kids B d next (g :: gs)).2.1 = (next : Int) :: (kids B d (next + (B next g).length) gs).2.1 := rfl
    rw [e] at h
    rcases List.mem_cons.1 h with rfl | h
    · omega
    · exact kids_nonneg B d gs _ x h
/-- what a walk finds at a node -/
theorem walk_kids {t : Tri} {st : List Int} {c : Int} (h : walkR t (dictI t) st = (c, true)) : ∃ k : Nat, c = k ∧ k < t.length ∧ (t.getD k nd0).1.length = (t.getD k nd0).2.1.length ∧
    ∀ (i : Nat) (h1 : i < (t.getD k nd0).1.length) (h2 : i < (t.getD k nd0).2.1.length), st.length < 60 → walkR t (dictI t) (st ++ [(t.getD k nd0).1[i]'h1]) = ((t.getD k nd0).2.1[i]'h2, true) := by
  cases hd : dictI t with
  | none => rw [hd] at h; cases h
  | some l =>
    obtain ⟨hl, ht⟩ := dictI_of hd
    rw [hd] at h
    unfold walkR at h
    split at h
    · rename_i hc
      rw [Bool.and_eq_true, Bool.and_eq_true, decide_eq_true_eq] at hc
      obtain ⟨⟨_, hs⟩, h0⟩ := hc
      injection h with h1 _
      have hsub : Sub l t [] 0 l := by rw [ht]; exact Sub.start hl
      rcases Sub.walk st [] 0 l hsub with ⟨k, es, hk, hS⟩ | ⟨hk, _⟩
      · rw [List.nil_append] at hS
        refine ⟨k, by rw [← h1, hk], hS.node.2, ?_, fun i hi1 hi2 h60 => ?_⟩
        · rw [hS.node.1]
          have := kids_lens (fun b g => build (6 - st.length) (st.length + 1) b g) st.length (groups st.length es.length (P.rest st.length es)) (k + 1)
          exact this.1.trans this.2.symm
        · obtain ⟨hp1, hp2⟩ := hS.sh.parts
          have hn := hS.node.1
          have hx : ∀ (xs cs : List Int) (z : Bool × Bs), t.getD k nd0 = (xs, cs, z) → xs = (groups st.length es.length (P.rest st.length es)).map (headStroke st.length) → (∀ x ∈ cs, 0 ≤ x) → ∀ (h1 : i < xs.length) (h2 : i < cs.length), walkR t (some l) (st ++ [xs[i]'h1]) = (cs[i]'h2, true) := by
            intro xs cs z hz hxs hcs h1 h2
            have hup : xs.Pairwise (· < ·) := by rw [hxs, List.pairwise_map]; exact hp1.up
            have hck : childK t k (xs[i]'h1) = cs[i]'h2 := by unfold childK; rw [hz]; exact kidIn_nth xs cs hup i h1 h2
            have hnn := hcs (cs[i]'h2) (List.getElem_mem h2)
            have hw : walkT t 0 (st ++ [xs[i]'h1]) = cs[i]'h2 := by
              rw [walkT_snoc, hk, if_neg (by omega), Int.toNat_natCast, hck, if_neg (by omega)]
              omega
            have hst : stroke (xs[i]'h1) = true := by
              have hm : xs[i]'h1 ∈ xs := List.getElem_mem h1
              generalize xs[i]'h1 = s at hm
              rw [hxs] at hm
              obtain ⟨g, hg, rfl⟩ := List.mem_map.1 hm
              obtain ⟨hne, hst, hsh⟩ := hp1.one g hg
              obtain ⟨e, he⟩ := List.exists_mem_of_ne_nil g hne
              have hge := hsh.ge e he
              simp at hge
              have hel : e ∈ l := hS.sub e (rest_sub _ _ e (by rw [← hp2]; exact List.mem_flatten.2 ⟨g, hg, he⟩))
              have h4 := (entry_parts ((dic_parts hl).2.1 e hel)).2.2
              rw [← hst e he]
              unfold strokeAt
              rw [List.getD_eq_getElem?_getD, List.getElem?_eq_getElem (by omega), Option.getD_some]
              exact h4 _ (List.getElem_mem _)
            have hsl : slist (st ++ [xs[i]'h1]) = true := by
              unfold slist at hs ⊢
              rw [Bool.and_eq_true, decide_eq_true_eq] at hs ⊢
              refine ⟨by simp; omega, ?_⟩
              rw [List.all_append, hs.2]
              simp [hst]
            unfold walkR
            rw [hw, hsl]
            simp [hnn]
          have key := hx _ _ _ hn (kids_hd _ _ _ _) (kids_nonneg _ _ _ _)
          generalize t.getD k nd0 = nd at *
          subst hn
          exact key hi1 hi2
      · omega
    · cases h
end Go.Proofs.YtojcfpjoikmgcaaGreatDoor.P
