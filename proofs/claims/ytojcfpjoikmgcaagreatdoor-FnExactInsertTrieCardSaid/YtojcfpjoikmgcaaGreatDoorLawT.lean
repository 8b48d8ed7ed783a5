/- What the laws on tries share: bounds of what is handed back, ints marked and held. -/
import Derived.Test.YtojcfpjoikmgcaaGreatDoorTrieN
import Derived.Test.YtojcfpjoikmgcaaGreatDoorSpecT
namespace Go.Proofs.YtojcfpjoikmgcaaGreatDoor
section
namespace P
theorem kAtT_chs (k : Int) : ∀ t : Tri, (∀ n ∈ t, n.1.length = n.2.1.length) → kAtT k t = k + 2 * (chs t).length + 2 * t.length
  | [], _ => by simp [kAtT, chs]
  | n :: t, h => by
    have h1 := kAtT_chs (kAtN k n) t (fun x hx => h x (by simp [hx]))
    have h2 := h n (by simp)
    unfold kAtT
    rw [h1]
    unfold kAtN chs
    rw [List.flatMap_cons, List.length_append, List.length_cons]
    push_cast
    omega
theorem nums_len : ∀ (n a : Nat), (nums a n).length = n
  | 0, _ => rfl
  | n + 1, a => by rw [nums_succ, List.length_cons, nums_len n]
theorem kAtT_trie {m : Dic} (h : dic m = true) : kAtT 1 (trie m) ≤ 2 ^ 40 := by
  have h1 := trie_len h
  have h2 := (shaped_of (trie_shape h)).len
  have h3 := (build_perm 7 m [] 0 (.inl (by decide)) (dic_shared h) rfl).2.length_eq
  rw [nums_len] at h3
  rw [kAtT_chs 1 (trie m) (fun n hn => by
    obtain ⟨i, hi, rfl⟩ := List.mem_iff_getElem.1 hn
    have := h2 i hi
    rwa [getD_at hi] at this)]
  have h4 : (chs (trie m)).length = (trie m).length - 1 := h3
  omega
theorem kAtT_kept {ok : Bool} {m : Dic} (h : ok = true → dic m = true) : kAtT 1 (keptT ok (trie m)) ≤ 2 ^ 40 := by
  cases ok
  · show kAtT 1 [] ≤ _; simp [kAtT]
  · exact kAtT_trie (h rfl)
end P
end
open Go Go.RowKit
set_option maxRecDepth 100000
theorem GoodT.t30 {l : P.Tri} (h : GoodT l) : ∀ n ∈ l, n.2.2.2.length ≤ 2 ^ 30 := fun n hn => by have := h.text n hn; omega
end Go.Proofs.YtojcfpjoikmgcaaGreatDoor
