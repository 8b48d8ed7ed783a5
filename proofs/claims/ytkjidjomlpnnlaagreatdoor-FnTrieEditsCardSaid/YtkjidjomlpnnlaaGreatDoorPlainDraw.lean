/- Plain: how wide the nodes of a dictionary's trie are. -/
import Derived.Test.YtkjidjomlpnnlaaGreatDoorPlainTrie
namespace Go.Proofs.YtkjidjomlpnnlaaGreatDoor.P
theorem groups_cnt (d : Nat) : ∀ (n : Nat) (l : Dic), (groups d n l).length ≤ n
  | 0, _ => Nat.zero_le _
  | _ + 1, [] => Nat.zero_le _
  | n + 1, a :: l => by
    unfold groups
    exact Nat.succ_le_succ (groups_cnt d n (l.dropWhile fun x => strokeAt d x == strokeAt d a))
theorem groups_each (d : Nat) : ∀ (n : Nat) (l : Dic), ∀ g ∈ groups d n l, g.length ≤ l.length ∧ ∀ e ∈ g, e ∈ l
  | 0, _, g, hg => by cases hg
  | _ + 1, [], g, hg => by cases hg
  | n + 1, a :: l, g, hg => by
    unfold groups at hg
    rcases List.mem_cons.1 hg with rfl | hg
    · refine ⟨Nat.succ_le_succ (List.takeWhile_sublist _).length_le, fun e he => ?_⟩
      rcases List.mem_cons.1 he with rfl | he
      · simp
      · exact List.mem_cons_of_mem _ ((List.takeWhile_sublist _).subset he)
    · obtain ⟨h1, h2⟩ := groups_each d n _ g hg
      exact ⟨Nat.le_succ_of_le (Nat.le_trans h1 (List.dropWhile_sublist _).length_le), fun e he => List.mem_cons_of_mem _ ((List.dropWhile_sublist _).subset (h2 e he))⟩
theorem kids_all {Q : Nd → Prop} {F : Nat → Dic → Tri} (d : Nat) : ∀ (gs : List Dic) (next : Nat), (∀ g ∈ gs, ∀ b, ∀ n ∈ F b g, Q n) → ∀ n ∈ (kids F d next gs).2.2, Q n
  | [], _, _, n, hn => by cases hn
  | g :: gs, next, h, n, hn => by
    unfold kids at hn
    rcases List.mem_append.1 hn with hn | hn
    · exact h g (by simp) next n hn
    · exact kids_all d gs _ (fun k hk => h k (by simp [hk])) n hn
theorem rest_cnt (d : Nat) (es : Dic) : (rest d es).length ≤ es.length := by
  cases es with
  | nil => exact Nat.le_refl _
  | cons a l => rw [rest_cons]; split <;> simp
theorem build_wide (K : Nat) : ∀ (f d base : Nat) (es : Dic), es.length ≤ K → ∀ n ∈ build f d base es, n.1.length ≤ K ∧ n.2.1.length ≤ K
  | 0, _, _, _, _, n, hn => by cases hn
  | f + 1, d, base, es, h, n, hn => by
    rw [build_succ] at hn
    rcases List.mem_cons.1 hn with rfl | hn
    · have h1 := kids_lens (fun b g => build f (d + 1) b g) d (groups d es.length (rest d es)) (base + 1)
      have h2 := groups_cnt d es.length (rest d es)
      exact ⟨by rw [h1.1]; omega, by rw [h1.2]; omega⟩
    · exact kids_all d _ _ (fun g hg b => build_wide K f (d + 1) b g (by have := (groups_each d _ _ g hg).1; have := rest_cnt d es; omega)) n hn
theorem build_txt (B : Nat) : ∀ (f d base : Nat) (es : Dic), (∀ e ∈ es, e.2.length ≤ B) → ∀ n ∈ build f d base es, n.2.2.2.length ≤ B
  | 0, _, _, _, _, n, hn => by cases hn
  | f + 1, d, base, es, h, n, hn => by
    rw [build_succ] at hn
    rcases List.mem_cons.1 hn with rfl | hn
    · show (ownText d es).2.length ≤ B
      cases es with
      | nil => simp [ownText]
      | cons a l =>
        rw [own_cons]
        split
        · exact h a (by simp)
        · simp
    · exact kids_all d _ _ (fun g hg b => build_txt B f (d + 1) b g fun e he => h e (rest_sub d es e ((groups_each d _ _ g hg).2 e he))) n hn
theorem mass_small : ∀ m : Dic, (∀ e ∈ m, e.1.length ≤ 6) → mass 0 m ≤ m.length * 6
  | [], _ => Nat.zero_le _
  | a :: m, hm => by
    have := mass_small m (fun e he => hm e (by simp [he]))
    have := hm a (by simp)
    unfold mass at *
    simp only [List.map_cons, List.sum_cons, List.length_cons]
    omega
/-- a trie that a law draws -/
structure DrawnT (t : Tri) : Prop where
  len : t.length ≤ 1000
  str : ∀ n ∈ t, n.1.length ≤ 1000
  chi : ∀ n ∈ t, n.2.1.length ≤ 1000
  txt : ∀ n ∈ t, n.2.2.2.length ≤ 300
theorem drawn_trie {l : Dic} (hs : Shared [] l) (hl : l.length ≤ 9) (ht : ∀ e ∈ l, e.2.length ≤ 300) : 0 < (trie l).length ∧ (trie l).length ≤ 100 ∧ (∀ n ∈ trie l, n.1.length ≤ 9 ∧ n.2.1.length ≤ 9 ∧ n.2.2.2.length ≤ 300) := by
  have h1 := build_len 7 0 0 l [] rfl hs
  have h2 := mass_small l hs.len
  refine ⟨by unfold trie; rw [build_succ]; simp, by unfold trie; omega, fun n hn => ?_⟩
  have h3 := build_wide 9 7 0 0 l hl n hn
  exact ⟨h3.1, h3.2, build_txt 300 7 0 0 l ht n hn⟩
end Go.Proofs.YtkjidjomlpnnlaaGreatDoor.P
