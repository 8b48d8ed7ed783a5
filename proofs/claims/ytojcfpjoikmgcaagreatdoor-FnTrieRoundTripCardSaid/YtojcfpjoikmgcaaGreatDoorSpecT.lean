/- Walks: the reference's entries of a trie, two tries held against each other, whether a trie is valid. Tries that are valid: what is known of their dictionary; a node as it is read; whether a trie is valid (program). -/
import Derived.Deep.DeepCutAuto
import Derived.Deep.RegionHeld
import Derived.RegionTactic
import Derived.BigRegion
import Derived.Test.YtojcfpjoikmgcaaGreatDoorColl
import Derived.Test.YtojcfpjoikmgcaaGreatDoorTrieOf
import Derived.Test.YtojcfpjoikmgcaaGreatDoorDictT
namespace Go.Proofs.YtojcfpjoikmgcaaGreatDoor
section
section
namespace P
end P
end
open Go Go.RowKit
set_option maxHeartbeats 4000000
set_option maxRecDepth 100000
end
section
section
namespace P
end P
end
open Go Go.RowKit
set_option maxHeartbeats 4000000
set_option maxRecDepth 100000
/-- a node as it is read -/
theorem NodR.node {v : World} {ad : Option Addr} {cap : Nat} {t : P.Tri} (h : NodR v (.slice ad t.length cap) t) {k : Nat} (hk : k < t.length) : ∃ g o x y st ch tt tx, t.getD k P.nd0 = (st, ch, tt, tx) ∧ ad = some ⟨g, o, none⟩ ∧ g < v.heap.size ∧ (v.cell? ⟨g, o + k * 4, none⟩ = some x ∧ v.cell? ⟨g, o + k * 4 + 1, none⟩ = some y ∧ v.cell? ⟨g, o + k * 4 + 2, none⟩ = some (.bool tt) ∧ v.cell? ⟨g, o + k * 4 + 3, none⟩ = some (.string (S tx))) ∧ IntR v x st ∧ IntR v y ch := by
  obtain ⟨g, o, h1, h2, x, y, c0, c1, c2, c3, hx, hy⟩ := h.at k hk
  exact ⟨g, o, x, y, (t[k]).1, (t[k]).2.1, (t[k]).2.2.1, (t[k]).2.2.2, P.getD_at hk, h1, h2, ⟨c0, c1, c2, c3⟩, hx, hy⟩
theorem impl_isValidTrie (tv : Value) (t : P.Tri) (w : World) (hu : NodR w tv t) (hx : ∀ n ∈ t, n.2.2.2.length ≤ 2 ^ 30) (hE : Env w) :
    Calls Tryz.prog 21 #[.agg #[tv]] w fun e w' => e = .returned (.bool (P.dictI t).isSome) ∧ Below w.heap.size w w' := by
  have hba := (Below.refl w.heap.size w).alloc (Nat.le_refl _) (.cells #[tv] 30)
  have HB0 := Lib.hid hba; have HU := Lib.hid hu; have HX := Lib.hid hx; have HE := Lib.hid (hE.below hba hE.size)
  clear hba hx hE
  obtain ⟨ad, cap, rfl, _, _⟩ := hu
  go_enter Tryz.func21, Tryz.ntmps21
  go_wp2_with fail
  refine (dictT _ t _ (HU.out.below HB0.out) HX.out HE.out).mono ?_
  rintro e w1 ⟨u, rfl, hI, hb⟩
  have HB1 := Lib.hid (HB0.out.trans (hb.mono HB0.out.size))
  obtain ⟨ud, uc, rfl, _, _⟩ := hI
  have HB2 := Lib.hid (HB1.out.alloc HB1.out.size (.cells #[.slice ud (List.length ((P.dictI t).getD [])) uc] 26))
  clear hb
  obtain ⟨q, hq⟩ : ∃ q, (P.dictI t).isSome = q := ⟨_, rfl⟩
  have HQ := Lib.hid hq
  rw [hq]
  clear hq
  go_wp2
  go_ret
  exact ⟨ret_bool HQ.out.symm, HB2.out⟩
end
end Go.Proofs.YtojcfpjoikmgcaaGreatDoor
