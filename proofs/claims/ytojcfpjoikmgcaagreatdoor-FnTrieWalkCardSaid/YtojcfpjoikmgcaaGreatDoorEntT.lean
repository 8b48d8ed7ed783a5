/- Walks: the entries of a trie, the strokes of a node (program, reference). -/
import Derived.Deep.DeepCutAuto
import Derived.Deep.RegionHeld
import Derived.Test.YtojcfpjoikmgcaaGreatDoorSpecT
namespace Go.Proofs.YtojcfpjoikmgcaaGreatDoor
open Go Go.RowKit
set_option maxHeartbeats 4000000
set_option maxRecDepth 100000
theorem impl_trieEntries (tv : Value) (t : P.Tri) (w : World) (hu : NodR w tv t) (hx : ∀ n ∈ t, n.2.2.2.length ≤ 2 ^ 30) (hE : Env w) :
    Calls Tryz.prog 19 #[.agg #[tv]] w (DictPost (P.dictI t) w) := by
  have hb0 : Below w.heap.size w ((w.alloc (.cells #[tv] 30)).alloc (.cells #[.slice none 0 0] 26)) :=
    ((Below.refl w.heap.size w).alloc (Nat.le_refl _) _).alloc (by simp) _
  have HN := Lib.hid (DBox.new tv w 30)
  have HB0 := Lib.hid hb0; have HU := Lib.hid hu; have HX := Lib.hid hx; have HE := Lib.hid (hE.below hb0 hE.size)
  clear hb0 hx hE
  obtain ⟨ad, cap, rfl, _, _⟩ := hu
  go_enter Tryz.func19, Tryz.ntmps19
  go_wp2_with fail
  refine (dictT _ t _ (HU.out.below HB0.out) HX.out HE.out).mono ?_
  rintro e w1 ⟨u, rfl, hI, hb⟩
  have HB1 := Lib.hid (HB0.out.trans (hb.mono HB0.out.size)); have HN1 := Lib.hid (HN.out.below hb); have HI := Lib.hid hI
  have hz := hb.size
  obtain ⟨ud, uc, rfl, _, _⟩ := hI
  obtain ⟨_, b0, f0, _⟩ := HN1.out
  obtain ⟨q, hq⟩ : ∃ q, (P.dictI t).isSome = q := ⟨_, rfl⟩
  obtain ⟨l, hl⟩ : ∃ l, (P.dictI t).getD [] = l := ⟨_, rfl⟩
  have HQ := Lib.hid hq; have HL := Lib.hid hl
  rw [hl] at HI ⊢
  rw [hq]
  clear hb hq hl
  go_wp2
  refine bodyPost_ret (v := .tuple #[.agg #[.slice ud l.length uc], .bool q]) (by simp [results, Tryz.results19, go_sem, b0]) rfl ⟨_, by rw [HQ.out], ?_, ?_⟩
  · rw [HL.out]
    refine (HI.out.stand (X := fun b => b = w.heap.size + 1) entE_ok ((Chg.refl (fun b => b = w.heap.size + 1) _).setCell (p := ⟨w.heap.size + 1, 0, none⟩) rfl _) (fun b hb e => by have := hb.1; simp at this; omega)).wide (fun b hb => ⟨by have := hb.1; simp at this; omega, by have := hb.2; simpa [World.setCell] using by omega⟩) (fun b hb => hb.2)
  · exact HB1.out.setCell (Nat.le_succ _) _
end Go.Proofs.YtojcfpjoikmgcaaGreatDoor
