/- Walks: a layer struck out of a stack (reference, program). -/
import Derived.Deep.DeepCutAuto
import Derived.Deep.RegionLaw
import Derived.Deep.RegionHeld
import Derived.IntWalk
import Derived.Test.YtngbkdlicknmhaaGreatDoorRem2
namespace Go.Proofs.YtngbkdlicknmhaaGreatDoor
namespace P
def remL (i : Nat) (l : Lays) : Lays := l.take i ++ l.drop (i + 1)
theorem remL_sub {i : Nat} {l : Lays} {e : Lay} (h : e ∈ remL i l) : e ∈ l := by
  unfold remL at h
  rcases List.mem_append.1 h with h | h
  · exact List.mem_of_mem_take h
  · exact List.mem_of_mem_drop h
theorem remL_len {i m : Nat} {l : Lays} (h : l.length = i + 1 + m) : (remL i l).length = i + m := by
  unfold remL; rw [List.length_append, List.length_take, List.length_drop]; omega
end P
open Go Go.RowKit
set_option maxHeartbeats 2000000
set_option maxRecDepth 100000
section
variable {P : Program} (w : World)
end
abbrev RemPost (i : Int) (l : P.Lays) := SkPost (P.setOk i l) (P.remL i.toNat l)
theorem range_of {i : Int} {l : P.Lays} (hd : P.setOk i l = true) : ∃ n m : Nat, i = n ∧ l.length = n + 1 + m := by
  have hrng : 0 ≤ i ∧ i ≤ (l.length : Int) - 1 := by
    unfold P.setOk P.inL at hd; simp only [Bool.and_eq_true, decide_eq_true_eq] at hd; exact hd.2
  obtain ⟨n, rfl⟩ := Int.eq_ofNat_of_zero_le hrng.1
  exact ⟨n, l.length - (n + 1), rfl, by omega⟩
theorem impl_removeLayer (dv : Value) (l : P.Lays) (i : Int) (w : World) (hu : LayR w dv l) (hs : SmallS l) (hE : Env w) :
    Calls Tryz.prog 48 #[.agg #[dv], .int .i64 i] w (RemPost i l w) := by
  have hb0 : Below w.heap.size w (((w.alloc (.cells #[dv] 70)).alloc (.cells #[.slice none 0 0] 70)).alloc (.cells #[.int .i64 i] 3)) := (((Below.refl w.heap.size w).alloc (Nat.le_refl _) _).alloc (by simp) _).alloc (by simp; omega) _
  have HU := Lib.hid (hu.below hb0)
  have HE := Lib.hid (hE.below hb0 hE.size)
  have HB0 := Lib.hid hb0; clear hb0 hE
  have HN := Lib.hid ((SkBox.new dv w).below ((Below.refl _ _).alloc (Nat.le_refl _) (.cells #[.int .i64 i] 3)))
  have HI1 := Lib.hid (ints_one i ((w.alloc (.cells #[dv] 70)).alloc (.cells #[.slice none 0 0] 70)) 3)
  have HSM := Lib.hid hs; clear hs
  have HOK := Lib.hid (show (P.stack l && [i].all (P.inL l)) = P.setOk i l by unfold P.setOk; simp)
  obtain ⟨ad, cap, rfl, _, _⟩ := hu
  go_enter Tryz.func48, Tryz.ntmps48
  go_wp2_with fail
  refine (isLayer _ _ l [i] _ HU.out (by have := HI1.out; simpa using this) HSM.out.len HSM.out.each HE.out).mono ?_
  rintro e w1 ⟨rfl, hb⟩
  rw [HOK.out]
  have HU1 := Lib.hid (HU.out.below hb)
  have HN1 := Lib.hid (HN.out.below hb)
  have HB1 := Lib.hid (HB0.out.trans (hb.mono (by simp; omega)))
  clear hb HU HB0 HN HE HI1
  cases hd : P.setOk i l
  · have HD := Lib.hid hd; clear hd
    obtain ⟨_, b0, f0, _⟩ := HN1.out
    go_wp2
    refine bodyPost_ret (v := .tuple #[.agg #[.slice none 0 0], .bool false]) (by simp [results, Tryz.results48, go_sem, b0]) rfl ⟨_, by rw [HD.out], ?_, ?_⟩
    · rw [HD.out]; exact RowO.nil _ _
    · exact HB1.out.setCell (by simp) _
  · have HD := Lib.hid hd
    have HUP := Lib.hid (show ∀ e ∈ l, Small e.1 ∧ P.Up e.1 from fun e he => ⟨HSM.out.each e he, P.layers_up (P.stack_layers (by unfold P.setOk at hd; simp only [Bool.and_eq_true] at hd; exact hd.1)) e he⟩)
    obtain ⟨n, m, rfl, hm⟩ := range_of hd
    have HM := Lib.hid hm
    have hl20 := HSM.out.len
    have hl0 : 0 < l.length := by omega
    have hn20 : (n : Int) ≤ 1048576 := by omega
    clear hd hm
    obtain ⟨a0, _⟩ := HN1.out
    go_wp2_with fail
    refine (copyLay _ l _ HU1.out hl20 hl0).mono ?_
    rintro e w2 ⟨g, cap2, its, rfl, hc2, hcm, hg1, hg2, hits, hent, hcel, _, hb⟩
    have HITS := Lib.hid hits; have HENT := Lib.hid hent
    have HLI := Lib.hid (show its.length = n + 1 + m by rw [← HM.out, ← hits, List.length_map])
    have HDEL := Lib.hid (by have h := delLay g cap2 n m its w2 hcel (ent_slices hent) HLI.out (by have := HM.out; omega) (by have := HM.out; omega); rw [← HM.out] at h; exact h)
    have HN2 := Lib.hid (HN1.out.below hb)
    have HB2 := Lib.hid (HB1.out.trans (hb.mono HB1.out.size))
    have HBA := Lib.hid hb
    have HC2 := Lib.hid hc2
    clear hb HU1 hits hent hcel a0 hcm
    go_wp2_with fail
    with_reducible refine (HDEL.out).mono ?_
    rintro e w3 ⟨rfl, hch, hc3, _⟩
    have hW1 : w.heap.size + 1 < w1.heap.size := HN1.out.2.2.2
    have HN3 := Lib.hid (HN2.out.stand hch (by omega) (by omega))
    have HB3 := Lib.hid (HB2.out.trans (hch.below HB2.out.size (fun b hb => by subst hb; have := HB1.out.size; omega)))
    have HB13 := Lib.hid (HBA.out.trans (hch.below HBA.out.size (fun b hb => by subst hb; exact hg1)))
    have hlr : (its.take n ++ its.drop (n + 1)).length = n + m := by rw [List.length_append, List.length_take, List.length_drop, HLI.out]; omega
    have hLR := layR_of_cel (cap := cap2) hc3.pre (fun t ht => (HENT.out t (by rcases List.mem_append.1 ht with h | h; exact List.mem_of_mem_take h; exact List.mem_of_mem_drop h)).below HB13.out) (by rw [hlr]; have := HM.out; omega) (by rw [hlr]; have := HM.out; have := HC2.out; omega) (by have := hch.size; omega)
    rw [hlr, List.map_append, List.map_take, List.map_drop, HITS.out] at hLR
    have HLR := Lib.hid (show LayR w3 (.slice (some ⟨g, 0, none⟩) (n + m) cap2) (P.remL n l) from hLR)
    have HUP2 := Lib.hid (show ∀ e ∈ P.remL n l, Small e.1 ∧ P.Up e.1 from fun e he => HUP.out e (P.remL_sub he))
    have HRL := Lib.hid (P.remL_len HM.out)
    have hz3 : w2.heap.size ≤ w3.heap.size := hch.size
    clear hLR hlr hch hc3 HDEL HN2 HB2 HBA
    go_wp2_with fail
    refine (stackOf_up _ (P.remL n l) _ HLR.out (by rw [HRL.out]; have := HM.out; omega) HUP2.out).mono ?_
    rintro e w4 ⟨u, rfl, hI, hb⟩
    have hz4 : w3.heap.size ≤ w4.heap.size := hb.size
    have HN4 := Lib.hid (HN3.out.below hb)
    have HB4 := Lib.hid (HB3.out.trans (hb.mono HB3.out.size))
    have HI := Lib.hid hI
    obtain ⟨ud, uc, rfl, _, _⟩ := hI
    clear hb HN3 HB3
    obtain ⟨_, b0, f0, _⟩ := HN4.out
    go_wp2
    refine bodyPost_ret (v := .tuple #[.agg #[.slice ud (P.remL n l).length uc], .bool true]) (by simp [results, Tryz.results48, go_sem, b0]) rfl ⟨_, by rw [HD.out], ?_, ?_⟩
    · rw [HD.out]
      exact set_done HI.out (by omega) (Nat.le_refl _)
    · exact HB4.out.setCell (by simp) _
end Go.Proofs.YtngbkdlicknmhaaGreatDoor
