/- Plain: the way of strokes through the trie of a dictionary, and what is found there. -/
import Derived.Test.YtkjidjomlpnnlaaGreatDoorPlainTrie
import Derived.Test.YtkjidjomlpnnlaaGreatDoorLook1
import Derived.Test.YtkjidjomlpnnlaaGreatDoorInsT
import Derived.Test.YtkjidjomlpnnlaaGreatDoorDelT
import Derived.Deep.DeepCutAuto
import Derived.Deep.RegionHeld
import Derived.Test.YtkjidjomlpnnlaaGreatDoorSpecT
import Derived.BigQuiet
import Derived.IntWalk
import Derived.Test.YtkjidjomlpnnlaaGreatDoorMemE
namespace Go.Proofs.YtkjidjomlpnnlaaGreatDoor
namespace P
def lookR (d : Option Dic) (o : List Int) : Bs × Bool := match d with
  | none => ([], false)
  | some l => (textAt o l, hasE o l)
end P
end Go.Proofs.YtkjidjomlpnnlaaGreatDoor

namespace Go.Proofs.YtkjidjomlpnnlaaGreatDoor.P
theorem edit_ins {t : Tri} {e : Ent} (h : insTOk (dictI t) e = true) : ∃ l, dictI t = some l ∧ insOk e l = true ∧ dic (putF e false l) = true := by
  cases hd : dictI t with
  | none => rw [hd] at h; cases h
  | some l => rw [hd] at h; exact ⟨l, rfl, h, insT_dic h⟩
theorem edit_del {t : Tri} {o : List Int} (h : delTOk (dictI t) o = true) : dictI (trie (del o ((dictI t).getD []))) = some (del o ((dictI t).getD [])) ∧ (lookR (dictI (trie (del o ((dictI t).getD [])))) o).2 = false := by
  cases hd : dictI t with
  | none => rw [hd] at h; cases h
  | some l =>
    rw [hd] at h
    have h1 : dictI (trie (del o l)) = some (del o l) := dictI_trie (delT_dic h)
    refine ⟨h1, ?_⟩
    show (lookR (dictI (trie (del o l))) o).2 = false
    rw [h1]
    show hasE o (del o l) = false
    cases hh : hasE o (del o l) with
    | false => rfl
    | true =>
      obtain ⟨x, hx, he⟩ := hasE_iff.1 hh
      exact absurd he (del_mem.1 hx).2
end Go.Proofs.YtkjidjomlpnnlaaGreatDoor.P

namespace Go.Proofs.YtkjidjomlpnnlaaGreatDoor
open Go Go.RowKit
set_option maxHeartbeats 4000000
set_option maxRecDepth 100000
theorem impl_trieEntries (tv : Value) (t : P.Tri) (w : World) (hu : NodR w tv t) (hx : ∀ n ∈ t, n.2.2.2.length ≤ 2 ^ 30) (hE : Env w) :
    Calls Tryz.prog 52 #[.agg #[tv]] w (DictPost (P.dictI t) w) := by
  have hb0 : Below w.heap.size w ((w.alloc (.cells #[tv] 86)).alloc (.cells #[.slice none 0 0] 26)) :=
    ((Below.refl w.heap.size w).alloc (Nat.le_refl _) _).alloc (by simp) _
  have HN := Lib.hid (DBox.new tv w 86)
  have HB0 := Lib.hid hb0; have HU := Lib.hid hu; have HX := Lib.hid hx; have HE := Lib.hid (hE.below hb0 hE.size)
  clear hb0 hx hE
  obtain ⟨ad, cap, rfl, _, _⟩ := hu
  go_enter Tryz.func52, Tryz.ntmps52
  go_wp2_with fail
  refine (dictT _ t _ (HU.out.below HB0.out) HX.out HE.out).mono ?_
  rintro e w1 ⟨u, rfl, hI, hb⟩
  have HB1 := Lib.hid (HB0.out.trans (hb.mono HB0.out.size)); have HN1 := Lib.hid (HN.out.below hb); have HI := Lib.hid hI
  have hz := hb.size
  obtain ⟨ud, uc, rfl, _, _⟩ := hI
  obtain ⟨_, b0, f0, _⟩ := HN1.out
  obtain ⟨q, hq⟩ : ∃ q, (P.dictI t).isSome = q := ⟨_, rfl⟩
  obtain ⟨l, hl⟩ : ∃ l, (P.dictI t).getD [] = l := ⟨_, rfl⟩
  have HQ := Lib.hid hq; have HL := Lib.hid hl
  rw [hl] at HI ⊢
  rw [hq]
  clear hb hq hl
  go_wp2
  refine bodyPost_ret (v := .tuple #[.agg #[.slice ud l.length uc], .bool q]) (by simp [results, Tryz.results52, go_sem, b0]) rfl ⟨_, by rw [HQ.out], ?_, ?_⟩
  · rw [HL.out]
    refine (HI.out.stand (X := fun b => b = w.heap.size + 1) entE_ok ((Chg.refl (fun b => b = w.heap.size + 1) _).setCell (p := ⟨w.heap.size + 1, 0, none⟩) rfl _) (fun b hb e => by have := hb.1; simp at this; omega)).wide (fun b hb => ⟨by have := hb.1; simp at this; omega, by have := hb.2; simpa [World.setCell] using by omega⟩) (fun b hb => hb.2)
  · exact HB1.out.setCell (Nat.le_succ _) _
end Go.Proofs.YtkjidjomlpnnlaaGreatDoor

namespace Go.Proofs.YtkjidjomlpnnlaaGreatDoor
open Go Go.RowKit
set_option maxHeartbeats 2000000
set_option maxRecDepth 100000
theorem rInts (u v : Value) (l : List Int) (w : World) (hu : IntR w u l) (hv : IntR w v l) :
    Calls Tryz.prog 17 #[u, v] w fun e w' => e = .returned (.bool true) ∧ Below w.heap.size w w' := by
  have HU := Lib.hid hu; have HV := Lib.hid hv
  obtain ⟨ad, cap, rfl, hla, _⟩ := hu
  obtain ⟨bd, dap, rfl, _, _⟩ := hv
  go_enter Tryz.func17, Tryz.ntmps17
  go_wp2
  go_loopw [5] (fun i wr => ∃ j : Nat, j ≤ l.length ∧ i = .int .i64 j ∧ Below w.heap.size w wr) (fun i _ => l.length - (intOf i).toNat)
  case atStart => exact ⟨0, Nat.zero_le _, rfl, Below.refl _ _⟩
  case round =>
    obtain ⟨j, hj, rfl, hb⟩ := hrel
    have HB := Lib.hid hb
    by_cases hlt : j < l.length
    · obtain ⟨g, o, hga, hgl, c0⟩ := (HU.out.below hb).at j hlt
      obtain ⟨g', o', hgb, hgl', d0⟩ := (HV.out.below hb).at j hlt
      subst hga hgb
      generalize l[j] = x at *
      clear hb
      have i1 : (j : Int) < (l.length : Int) := by omega
      go_wp2_with fail
      go_quiet (fail)
      go_wp2
      go_roundw
      case rel => exact ⟨j + 1, by omega, by go_num, below_drewN HB.out _⟩
      case measure => simp [intOf]; omega
    · clear hb
      go_wp2
      go_ret
      exact ⟨rfl, HB.out⟩
end Go.Proofs.YtkjidjomlpnnlaaGreatDoor
