/- Walks: a dictionary that may be none, an outline of a dictionary, as the cursor draws them. -/
import Derived.Deep.DeepCutAuto
import Derived.Test.YtngbkdlicknmhaaGreatDoorCurE3
import Derived.Test.YtngbkdlicknmhaaGreatDoorEItems
namespace Go.Proofs.YtngbkdlicknmhaaGreatDoor
open Go Go.RowKit
set_option maxHeartbeats 4000000
set_option maxRecDepth 100000
theorem EOk.snoc {v : World} {F G : Blk} {its : List EIt} {e : EIt} (h : EOk v F its) (he : Ints v e.2 e.1.1 e.1.2.1) (hG : ∀ b, e.2 b → G b) (hd : ∀ b, F b → G b → False) : EOk v (fun b => F b ∨ G b) (its ++ [e]) := by
  refine ⟨?_, ?_, ?_⟩
  · intro t ht
    rcases List.mem_append.1 ht with ht | ht
    · exact h.ent t ht
    · simp only [List.mem_cons, List.not_mem_nil, or_false] at ht
      subst ht; exact he
  · intro t ht b hb
    rcases List.mem_append.1 ht with ht | ht
    · exact .inl (h.sub t ht b hb)
    · simp only [List.mem_cons, List.not_mem_nil, or_false] at ht
      subst ht; exact .inr (hG b hb)
  · rw [List.pairwise_append]
    refine ⟨h.apart, by simp, fun a ha b hb x h1 h2 => ?_⟩
    simp only [List.mem_cons, List.not_mem_nil, or_false] at hb
    subst hb
    exact hd x (h.sub a ha x h1) (hG x h2)
end Go.Proofs.YtngbkdlicknmhaaGreatDoor
