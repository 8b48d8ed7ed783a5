/- Walks: the text of a list of atoms (program). -/
import Derived.Deep.DeepCutAuto
import Derived.Deep.RegionHeld
import Derived.RegionTactic
import Derived.BigRegion
import Derived.BigQuiet
import Derived.Deep.QuietTactic
import Derived.Test.YtmlklnimoknojaaGreatDoorFmtS3
import Derived.Deep.CutBlock
import Derived.Test.YtmlklnimoknojaaGreatDoorOutD
import Derived.Test.YtmlklnimoknojaaGreatDoorFold1
import Derived.Test.YtmlklnimoknojaaGreatDoorCurE1
import Derived.Test.YtmlklnimoknojaaGreatDoorTransD
namespace Go.Proofs.YtmlklnimoknojaaGreatDoor
open Go Go.RowKit
set_option maxHeartbeats 4000000
set_option maxRecDepth 100000
theorem AtomAt.below {g : Nat} {l : List (Int × Str)} {v v' : World} (h : AtomAt g l v) (hg : g < v.heap.size) (hb : Below v.heap.size v v') : AtomAt g l v' :=
  fun j hj => ⟨(hb.cell (p := ⟨g, _, none⟩) hg).trans (h j hj).1, (hb.cell (p := ⟨g, _, none⟩) hg).trans (h j hj).2⟩
theorem AtomR.below {v v' : World} {u : Value} {l : List (Int × Str)} (h : AtomR v u l) (hb : Below v.heap.size v v') : AtomR v' u l := by
  obtain ⟨ad, cap, h1, h2⟩ := h
  refine ⟨ad, cap, h1, h2.imp id ?_⟩
  rintro ⟨g, h3, h4, h5⟩
  exact ⟨g, h3, Nat.lt_of_lt_of_le h4 hb.size, h5.below h4 hb⟩
end Go.Proofs.YtmlklnimoknojaaGreatDoor
