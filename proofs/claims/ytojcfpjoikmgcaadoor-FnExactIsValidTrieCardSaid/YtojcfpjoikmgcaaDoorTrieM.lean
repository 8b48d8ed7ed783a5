/- Walks: the law's own functions on tries: a mark, what is held, a size. Tries that came in. -/
import Derived.Deep.DeepCutAuto
import Derived.Test.YtojcfpjoikmgcaaDoorTrieA
import Derived.Test.YtojcfpjoikmgcaaDoorLawD
namespace Go.Proofs.YtojcfpjoikmgcaaDoor
section
namespace P
def kAtN (k : Int) (n : Nd) : Int := k + n.1.length + n.2.1.length + 2
/-- the mark behind a row of nodes -/
def kAtT (k : Int) : Tri → Int
  | [] => k
  | n :: l => kAtT (kAtN k n) l
/-- how much a row of nodes holds -/
def sizeT : Tri → Int
  | [] => 0
  | n :: l => n.1.length + n.2.1.length + n.2.2.2.length + sizeT l
theorem sizeT_snoc (e : Nd) : ∀ l : Tri, sizeT (l ++ [e]) = sizeT l + (e.1.length + e.2.1.length + e.2.2.2.length)
  | [] => by simp [sizeT]
  | x :: l => by simp only [List.cons_append, sizeT]; rw [sizeT_snoc e l]; omega
theorem sizeT_nonneg : ∀ l : Tri, 0 ≤ sizeT l
  | [] => Int.le_refl 0
  | e :: l => by have := sizeT_nonneg l; simp only [sizeT]; omega
theorem sizeT_mem {e : Nd} : ∀ {l : Tri}, e ∈ l → (e.1.length : Int) + e.2.1.length + e.2.2.2.length ≤ sizeT l
  | [], h => by cases h
  | x :: l, h => by
    have := sizeT_nonneg l
    simp only [sizeT]
    rcases List.mem_cons.1 h with rfl | h
    · omega
    · have := sizeT_mem h; omega
theorem kAtT_le (k : Int) : ∀ l : Tri, kAtT k l ≤ k + 2 * l.length + sizeT l
  | [] => by simp [kAtT, sizeT]
  | e :: l => by have := kAtT_le (kAtN k e) l; unfold kAtN at this; simp only [kAtT, sizeT, List.length_cons]; unfold kAtN; omega
end P
open Go Go.RowKit
set_option maxHeartbeats 1000000
set_option maxRecDepth 100000
end
end Go.Proofs.YtojcfpjoikmgcaaDoor
