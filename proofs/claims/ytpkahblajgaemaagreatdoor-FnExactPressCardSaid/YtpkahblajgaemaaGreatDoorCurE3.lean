/- Walks: the program plants a trie of a dictionary's entries. Walks: the reference adds the nodes of a dictionary's entries. Walks: the trie of a dictionary (program and reference). -/
import Derived.Deep.DeepCutAuto
import Derived.BigRegion
import Derived.RegionTactic
import Derived.Test.YtpkahblajgaemaaGreatDoorLook1
import Derived.Deep.RegionHeld
import Derived.BigQuiet
import Derived.Test.YtpkahblajgaemaaGreatDoorPlainScr2
import Derived.IntWalk
import Derived.Test.YtpkahblajgaemaaGreatDoorOutD
import Derived.Test.YtpkahblajgaemaaGreatDoorLawD
import Derived.Test.YtpkahblajgaemaaGreatDoorDelA
import Derived.Test.YtpkahblajgaemaaGreatDoorValD
import Derived.Test.YtpkahblajgaemaaGreatDoorCurE1
import Derived.Test.YtpkahblajgaemaaGreatDoorTransD
import Derived.Deep.RegionLaw
import Derived.Test.YtpkahblajgaemaaGreatDoorMemE
import Derived.Test.YtpkahblajgaemaaGreatDoorFold1
namespace Go.Proofs.YtpkahblajgaemaaGreatDoor
section
open Go Go.RowKit
set_option maxHeartbeats 8000000
set_option maxRecDepth 100000
end
section
open Go Go.RowKit
set_option maxHeartbeats 8000000
set_option maxRecDepth 100000
/-- the entries from an index to another -/
def P.seg (D : P.Dic) (lo hi : Nat) : P.Dic := (D.drop lo).take (hi - lo)
end
section
open Go Go.RowKit
set_option maxHeartbeats 2000000
set_option maxRecDepth 100000
end
end Go.Proofs.YtpkahblajgaemaaGreatDoor

namespace Go.Proofs.YtpkahblajgaemaaGreatDoor
section
namespace P
end P
end
open Go Go.RowKit
set_option maxHeartbeats 4000000
set_option maxRecDepth 100000
/-- whether a list is one of strokes, program and reference -/
theorem isStrokeList (u : Value) (l : List Int) (w : World) (hu : IntR w u l) :
    Calls Tryz.prog 109 #[u] w fun e w' => e = .returned (.bool (P.slist l)) ∧ Below w.heap.size w w' := by
  have HU := Lib.hid hu
  obtain ⟨ad, cap, rfl, hl, _⟩ := hu
  by_cases h : l.length ≤ 60
  · have HF := Lib.hid (show P.slist l = l.all P.stroke by unfold P.slist; rw [decide_eq_true h]; rfl)
    have i1 : (l.length : Int) ≤ 60 := by omega
    clear h
    go_enter Tryz.func109, Tryz.ntmps109
    go_wp2_with fail
    refine (allStrokes _ l _ HU.out).mono ?_
    rintro e w1 ⟨rfl, hb⟩
    have HB := Lib.hid hb; clear hb
    generalize l.all P.stroke = q at *
    go_wp2
    go_ret
    exact ⟨ret_bool HF.out.symm, HB.out⟩
  · have HF := Lib.hid (show P.slist l = false by unfold P.slist; rw [decide_eq_false h]; rfl)
    have i1 : ¬ (l.length : Int) ≤ 60 := by omega
    clear h
    go_enter Tryz.func109, Tryz.ntmps109
    go_wp2
    go_ret
    exact ⟨ret_bool HF.out.symm, Below.refl _ _⟩
end Go.Proofs.YtpkahblajgaemaaGreatDoor

namespace Go.Proofs.YtpkahblajgaemaaGreatDoor
open Go Go.RowKit
set_option maxHeartbeats 4000000
set_option maxRecDepth 100000
/-- a box of a dictionary that is being drawn -/
def DBx (b : Nat) (u : Value) (v : World) : Prop := v.cell? ⟨b, 0, none⟩ = some u ∧ v.frozen? ⟨b, 0, none⟩ = false ∧ b < v.heap.size
theorem DBx.stand {b : Nat} {u : Value} {v v' : World} {X : Blk} (h : DBx b u v) (hc : Chg X v v') (hX : ¬ X b) : DBx b u v' :=
  ⟨(hc.cell (p := ⟨b, 0, none⟩) h.2.2 hX).trans h.1, (hc.frozen (p := ⟨b, 0, none⟩) h.2.2 hX).trans h.2.1, Nat.lt_of_lt_of_le h.2.2 hc.size⟩
theorem DBx.below {b : Nat} {u : Value} {v v' : World} (h : DBx b u v) (hb : Below v.heap.size v v') : DBx b u v' := h.stand (Below.chg hb fun _ => False) fun h => h
theorem DBx.new (u : Value) (t : TypeId) (v : World) : DBx v.heap.size u (v.alloc (.cells #[u] t)) := by
  refine ⟨?_, ?_, ?_⟩ <;> go_simp
theorem DBx.put {b : Nat} {u u' : Value} {v : World} (h : DBx b u v) : DBx b u' (v.setCell ⟨b, 0, none⟩ u') :=
  ⟨World.cell?_setCell_same _ _ _ h.1, by simpa using h.2.1, by simpa [World.setCell] using h.2.2⟩
end Go.Proofs.YtpkahblajgaemaaGreatDoor
