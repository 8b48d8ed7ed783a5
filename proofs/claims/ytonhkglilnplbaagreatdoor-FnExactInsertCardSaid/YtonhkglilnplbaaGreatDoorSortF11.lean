/- Walks: symMerge on any row: two parts in order become one. -/
import Derived.Test.YtonhkglilnplbaaGreatDoorSortF10
namespace Go.Proofs.YtonhkglilnplbaaGreatDoor
theorem symMerge_full : ∀ n, MergeAll n
  | 0 => fun its F g o cap a m b w hn _ _ ham hmb => by omega
  | n + 1 => fun its F g o cap a m b w hn h hl ham hmb hb h1 h2 => by
    by_cases e1 : m = a + 1
    · exact merge_up its F g o cap a m b w h hl e1 hmb hb h2
    · by_cases e2 : b = m + 1
      · exact merge_dn its F g o cap a m b w h hl (by omega) e2 hb h1
      · exact merge_mid n (symMerge_full n) its F g o cap a m b w hn h hl (by omega) (by omega) hb h1 h2
end Go.Proofs.YtonhkglilnplbaaGreatDoor
