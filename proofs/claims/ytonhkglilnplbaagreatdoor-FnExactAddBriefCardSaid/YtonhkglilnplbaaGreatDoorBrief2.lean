/- Walks: a free outline, the conflicts of an outline, a brief added (reference, program). -/
import Derived.Deep.DeepCutAuto
import Derived.Test.YtonhkglilnplbaaGreatDoorBrief1
import Derived.Test.YtonhkglilnplbaaGreatDoorIns2
namespace Go.Proofs.YtonhkglilnplbaaGreatDoor
namespace P
def freeOk (o : List Int) (l : Dic) : Bool := dic l && outline o
def briefOk (o : List Int) (t : Bs) (l : Dic) : Bool := freeOk o l && (!hasE o l && ((confl o l).isEmpty && insOk (o, t) l))
end P
open Go Go.RowKit
set_option maxHeartbeats 4000000
set_option maxRecDepth 100000
def FreePost (o : List Int) (l : P.Dic) (w : World) (e : Ending) (w' : World) : Prop := e = .returned (.tuple #[.bool (P.freeOk o l && !P.hasE o l), .bool (P.freeOk o l)]) ∧ Below w.heap.size w w'
def ConfPost (o : List Int) (l : P.Dic) (w : World) (e : Ending) (w' : World) : Prop := ∃ u, e = .returned (.tuple #[u, .bool (P.freeOk o l)]) ∧ OutsO w' (Bet w.heap.size w'.heap.size) u (P.keptO (P.freeOk o l) (P.confl o l)) ∧ Below w.heap.size w w'
theorem free_neg (o : List Int) (l : P.Dic) : (!P.hasE o l) = decide (P.place o l < 0) := by
  unfold P.hasE
  by_cases h : P.place o l < 0
  · rw [decide_eq_true h, decide_eq_false (by omega)]; rfl
  · rw [decide_eq_false h, decide_eq_true (by omega)]; rfl
theorem spec_isFree (dv ov : Value) (l : P.Dic) (o : List Int) (w : World) (hu : EntR w dv l) (ho : IntR w ov o) (hs : Small l) :
    Calls Tryz.prog 101 #[.agg #[dv], ov] w (FreePost o l w) := by
  have hb0 := (Below.refl w.heap.size w).alloc (Nat.le_refl _) (.cells #[dv] 32)
  have HU := Lib.hid (hu.below hb0); have HO := Lib.hid (ho.below hb0); have HB0 := Lib.hid hb0
  have HBX := Lib.hid (Box1.new dv 32 w); have HSM := Lib.hid hs
  obtain ⟨ad, cap, rfl, hll, _⟩ := hu
  obtain ⟨od, oc, rfl, _, _⟩ := ho
  clear hb0 hs
  go_enter Tryz.func101, Tryz.ntmps101
  go_wp2_with fail
  refine (l6Good _ l _ HU.out HSM.out.texts).mono ?_
  rintro e w1 ⟨rfl, hb⟩
  have HU1 := Lib.hid (HU.out.below hb); have HO1 := Lib.hid (HO.out.below hb)
  have HBX1 := Lib.hid (HBX.out.below hb)
  have HB1 := Lib.hid (HB0.out.trans (hb.mono (by simp)))
  clear hb HU HO HB0 HBX
  cases hd : P.dic l
  · have HD := Lib.hid (show P.freeOk o l = false by unfold P.freeOk; rw [hd]; rfl); clear hd
    go_wp2
    go_ret2
    exact ⟨by rw [HD.out]; rfl, HB1.out⟩
  · have HDC := Lib.hid hd; clear hd
    go_wp2_with fail
    refine (l4Good _ o _ HO1.out).mono ?_
    rintro e w2 ⟨rfl, rfl⟩
    cases ho : P.outline o
    · have HD := Lib.hid (show P.freeOk o l = false by unfold P.freeOk; rw [ho, Bool.and_false]); clear ho
      go_wp2
      go_ret2
      exact ⟨by rw [HD.out]; rfl, HB1.out⟩
    · have HD := Lib.hid (show P.freeOk o l = true by unfold P.freeOk; rw [HDC.out, ho]; rfl); clear ho
      obtain ⟨b0, _⟩ := HBX1.out
      go_wp2_with fail
      refine (l6At _ _ l o _ HU1.out HO1.out).mono ?_
      rintro e w3 ⟨rfl, hb⟩
      have HB3 := Lib.hid (HB1.out.trans (hb.mono HB1.out.size))
      have HF := Lib.hid (free_neg o l)
      clear hb b0
      generalize P.place o l = q at *
      go_wp2
      go_ret2
      exact ⟨by rw [HD.out, HF.out]; rfl, HB3.out⟩
theorem impl_isFree (dv ov : Value) (l : P.Dic) (o : List Int) (w : World) (hu : EntR w dv l) (ho : IntR w ov o) (hs : Small l) (hE : Env w) :
    Calls Tryz.prog 103 #[.agg #[dv], ov] w (FreePost o l w) := by
  have hb0 := (Below.refl w.heap.size w).alloc (Nat.le_refl _) (.cells #[dv] 32)
  have HU := Lib.hid (hu.below hb0); have HO := Lib.hid (ho.below hb0); have HB0 := Lib.hid hb0
  have HBX := Lib.hid (Box1.new dv 32 w); have HSM := Lib.hid hs
  have HE := Lib.hid (hE.below hb0 hE.size)
  obtain ⟨ad, cap, rfl, hll, _⟩ := hu
  obtain ⟨od, oc, rfl, _, _⟩ := ho
  clear hb0 hs
  go_enter Tryz.func103, Tryz.ntmps103
  go_wp2_with fail
  refine (isValidDictionary _ l _ HU.out HSM.out.texts HE.out).mono ?_
  rintro e w1 ⟨rfl, hb⟩
  have HU1 := Lib.hid (HU.out.below hb); have HO1 := Lib.hid (HO.out.below hb)
  have HBX1 := Lib.hid (HBX.out.below hb)
  have HB1 := Lib.hid (HB0.out.trans (hb.mono (by simp)))
  clear hb HU HO HB0 HBX
  cases hd : P.dic l
  · have HD := Lib.hid (show P.freeOk o l = false by unfold P.freeOk; rw [hd]; rfl); clear hd
    go_wp2
    go_ret2
    exact ⟨by rw [HD.out]; rfl, HB1.out⟩
  · have HDC := Lib.hid hd; clear hd
    go_wp2_with fail
    refine (isValidOutline _ o _ HO1.out).mono ?_
    rintro e w2 ⟨rfl, hb⟩
    have HU2 := Lib.hid (HU1.out.below hb); have HO2 := Lib.hid (HO1.out.below hb); have HBX2 := Lib.hid (HBX1.out.below hb)
    have HB2 := Lib.hid (HB1.out.trans (hb.mono HB1.out.size))
    clear hb HU1 HO1 HB1 HBX1
    cases ho : P.outline o
    · have HD := Lib.hid (show P.freeOk o l = false by unfold P.freeOk; rw [ho, Bool.and_false]); clear ho
      go_wp2
      go_ret2
      exact ⟨by rw [HD.out]; rfl, HB2.out⟩
    · have HD := Lib.hid (show P.freeOk o l = true by unfold P.freeOk; rw [HDC.out, ho]; rfl); clear ho
      obtain ⟨b0, _⟩ := HBX2.out
      go_wp2_with fail
      refine (dicFind _ _ l o _ HU2.out HO2.out).mono ?_
      rintro e w3 ⟨rfl, hb⟩
      have HB3 := Lib.hid (HB2.out.trans (hb.mono HB2.out.size))
      have HF := Lib.hid (free_neg o l)
      clear hb b0
      generalize P.place o l = q at *
      go_wp2
      go_ret2
      exact ⟨by rw [HD.out, HF.out]; rfl, HB3.out⟩
theorem spec_prefixConflicts (dv ov : Value) (l : P.Dic) (o : List Int) (w : World) (hu : EntR w dv l) (ho : IntR w ov o) (hs : Small l) :
    Calls Tryz.prog 74 #[.agg #[dv], ov] w (ConfPost o l w) := by
  have hb0 := (Below.refl w.heap.size w).alloc (Nat.le_refl _) (.cells #[dv] 32)
  have HU := Lib.hid (hu.below hb0); have HO := Lib.hid (ho.below hb0); have HB0 := Lib.hid hb0
  have HBX := Lib.hid (Box1.new dv 32 w); have HSM := Lib.hid hs
  obtain ⟨ad, cap, rfl, hll, _⟩ := hu
  obtain ⟨od, oc, rfl, _, _⟩ := ho
  clear hb0 hs
  go_enter Tryz.func74, Tryz.ntmps74
  go_wp2_with fail
  refine (l6Good _ l _ HU.out HSM.out.texts).mono ?_
  rintro e w1 ⟨rfl, hb⟩
  have HU1 := Lib.hid (HU.out.below hb); have HO1 := Lib.hid (HO.out.below hb)
  have HBX1 := Lib.hid (HBX.out.below hb)
  have HB1 := Lib.hid (HB0.out.trans (hb.mono (by simp)))
  clear hb HU HO HB0 HBX
  cases hd : P.dic l
  · have HD := Lib.hid (show P.freeOk o l = false by unfold P.freeOk; rw [hd]; rfl); clear hd
    go_wp2
    go_ret2
    exact ⟨.slice none 0 0, by rw [HD.out]; rfl, by rw [HD.out]; exact RowO.nil _ _, HB1.out⟩
  · have HDC := Lib.hid hd; clear hd
    go_wp2_with fail
    refine (l4Good _ o _ HO1.out).mono ?_
    rintro e w2 ⟨rfl, rfl⟩
    cases ho : P.outline o
    · have HD := Lib.hid (show P.freeOk o l = false by unfold P.freeOk; rw [ho, Bool.and_false]); clear ho
      go_wp2
      go_ret2
      exact ⟨.slice none 0 0, by rw [HD.out]; rfl, by rw [HD.out]; exact RowO.nil _ _, HB1.out⟩
    · have HD := Lib.hid (show P.freeOk o l = true by unfold P.freeOk; rw [HDC.out, ho]; rfl); clear ho
      obtain ⟨b0, _⟩ := HBX1.out
      go_wp2_with fail
      refine (l17Conflicts _ _ l o _ HU1.out HO1.out HSM.out).mono ?_
      rintro e w3 ⟨u, rfl, hI, hb⟩
      have HB3 := Lib.hid (HB1.out.trans (hb.mono HB1.out.size))
      have HI := Lib.hid (show OutsO w3 (Bet w.heap.size w3.heap.size) u (P.confl o l) from hI.wide (fun b hb => ⟨by have h1 := hb.1; have h2 := HB1.out.size; omega, hb.2⟩) (fun b hb => hb.2))
      obtain ⟨ud, uc, rfl, _, _⟩ := hI
      clear hb b0
      go_wp2
      go_ret2
      exact ⟨.slice ud (P.confl o l).length uc, by rw [HD.out]; rfl, by rw [HD.out]; exact HI.out, HB3.out⟩
theorem impl_prefixConflicts (dv ov : Value) (l : P.Dic) (o : List Int) (w : World) (hu : EntR w dv l) (ho : IntR w ov o) (hs : Small l) (hE : Env w) :
    Calls Tryz.prog 73 #[.agg #[dv], ov] w (ConfPost o l w) := by
  have hb0 := (Below.refl w.heap.size w).alloc (Nat.le_refl _) (.cells #[dv] 32)
  have HU := Lib.hid (hu.below hb0); have HO := Lib.hid (ho.below hb0); have HB0 := Lib.hid hb0
  have HBX := Lib.hid (Box1.new dv 32 w); have HSM := Lib.hid hs
  have HE := Lib.hid (hE.below hb0 hE.size)
  obtain ⟨ad, cap, rfl, hll, _⟩ := hu
  obtain ⟨od, oc, rfl, _, _⟩ := ho
  clear hb0 hs
  go_enter Tryz.func73, Tryz.ntmps73
  go_wp2_with fail
  refine (isValidDictionary _ l _ HU.out HSM.out.texts HE.out).mono ?_
  rintro e w1 ⟨rfl, hb⟩
  have HU1 := Lib.hid (HU.out.below hb); have HO1 := Lib.hid (HO.out.below hb)
  have HBX1 := Lib.hid (HBX.out.below hb)
  have HB1 := Lib.hid (HB0.out.trans (hb.mono (by simp)))
  clear hb HU HO HB0 HBX
  cases hd : P.dic l
  · have HD := Lib.hid (show P.freeOk o l = false by unfold P.freeOk; rw [hd]; rfl); clear hd
    go_wp2
    go_ret2
    exact ⟨.slice none 0 0, by rw [HD.out]; rfl, by rw [HD.out]; exact RowO.nil _ _, HB1.out⟩
  · have HDC := Lib.hid hd; clear hd
    go_wp2_with fail
    refine (isValidOutline _ o _ HO1.out).mono ?_
    rintro e w2 ⟨rfl, hb⟩
    have HU2 := Lib.hid (HU1.out.below hb); have HO2 := Lib.hid (HO1.out.below hb); have HBX2 := Lib.hid (HBX1.out.below hb)
    have HB2 := Lib.hid (HB1.out.trans (hb.mono HB1.out.size))
    clear hb HU1 HO1 HB1 HBX1
    cases ho : P.outline o
    · have HD := Lib.hid (show P.freeOk o l = false by unfold P.freeOk; rw [ho, Bool.and_false]); clear ho
      go_wp2
      go_ret2
      exact ⟨.slice none 0 0, by rw [HD.out]; rfl, by rw [HD.out]; exact RowO.nil _ _, HB2.out⟩
    · have HD := Lib.hid (show P.freeOk o l = true by unfold P.freeOk; rw [HDC.out, ho]; rfl); clear ho
      obtain ⟨b0, _⟩ := HBX2.out
      go_wp2_with fail
      refine (conflicts _ _ l o _ HU2.out HO2.out HSM.out).mono ?_
      rintro e w3 ⟨u, rfl, hI, hb⟩
      have HB3 := Lib.hid (HB2.out.trans (hb.mono HB2.out.size))
      have HI := Lib.hid (show OutsO w3 (Bet w.heap.size w3.heap.size) u (P.confl o l) from hI.wide (fun b hb => ⟨by have h1 := hb.1; have h2 := HB2.out.size; omega, hb.2⟩) (fun b hb => hb.2))
      obtain ⟨ud, uc, rfl, _, _⟩ := hI
      clear hb b0
      go_wp2
      go_ret2
      exact ⟨.slice ud (P.confl o l).length uc, by rw [HD.out]; rfl, by rw [HD.out]; exact HI.out, HB3.out⟩
theorem spec_addBrief (dv ov : Value) (l : P.Dic) (o : List Int) (t : Str) (w : World) (hu : EntR w dv l) (ho : IntR w ov o) (hs : Small l) (h1 : o.length ≤ 2 ^ 20) (h2 : t.length ≤ 2 ^ 30) :
    Calls Tryz.prog 26 #[.agg #[dv], ov, .string (S t)] w (DkPost (P.briefOk o t l) (P.putF (o, t) false l) w) := by
  have hb0 : Below w.heap.size w ((w.alloc (.cells #[dv] 32)).alloc (.cells #[.slice none 0 0] 32)) := ((Below.refl w.heap.size w).alloc (Nat.le_refl _) _).alloc (by simp) _
  have HU := Lib.hid (hu.below hb0); have HO := Lib.hid (ho.below hb0); have HB0 := Lib.hid hb0
  have HN := Lib.hid (DBox.new dv w 32); have HSM := Lib.hid hs; have HL1 := Lib.hid h1; have HL2 := Lib.hid h2
  obtain ⟨ad, cap, rfl, hll, _⟩ := hu
  obtain ⟨od, oc, rfl, _, _⟩ := ho
  obtain ⟨a0, _⟩ := HN.out
  clear hb0 hs h1 h2
  go_enter Tryz.func26, Tryz.ntmps26
  go_wp2_with fail
  refine (spec_isFree _ _ l o _ HU.out HO.out HSM.out).mono ?_
  rintro e w1 ⟨rfl, hb⟩
  have HU1 := Lib.hid (HU.out.below hb); have HO1 := Lib.hid (HO.out.below hb); have HN1 := Lib.hid (HN.out.below hb)
  have HB1 := Lib.hid (HB0.out.trans (hb.mono (by simp; omega)))
  clear hb HU HO HB0 HN a0
  cases hf : P.freeOk o l
  · have HD := Lib.hid (show P.briefOk o t l = false by unfold P.briefOk; rw [hf]; rfl); clear hf
    obtain ⟨_, b0, f0, _⟩ := HN1.out
    go_wp2
    refine bodyPost_ret (v := .tuple #[.agg #[.slice none 0 0], .bool false]) (by simp [results, Tryz.results26, go_sem, b0]) rfl ⟨_, by rw [HD.out], ?_, ?_⟩
    · rw [HD.out]; exact RowO.nil _ _
    · exact HB1.out.setCell (by simp) _
  · have HF := Lib.hid hf; clear hf
    cases hh : P.hasE o l
    · have HH := Lib.hid hh; clear hh
      obtain ⟨a0, _⟩ := HN1.out
      go_wp2_with fail
      refine (l17Conflicts _ _ l o _ HU1.out HO1.out HSM.out).mono ?_
      rintro e w2 ⟨u, rfl, hI, hb⟩
      have HU2 := Lib.hid (HU1.out.below hb); have HO2 := Lib.hid (HO1.out.below hb); have HN2 := Lib.hid (HN1.out.below hb)
      have HB2 := Lib.hid (HB1.out.trans (hb.mono HB1.out.size))
      obtain ⟨ud, uc, rfl, _, _⟩ := hI
      clear hb HU1 HO1 HB1 HN1 a0
      by_cases hc : P.confl o l = []
      · have HC := Lib.hid (show P.briefOk o t l = P.insOk (o, t) l by unfold P.briefOk; rw [HF.out, HH.out, hc]; rfl)
        rw [hc]
        clear hc
        obtain ⟨a0, _⟩ := HN2.out
        go_wp2_with fail
        refine (spec_insert _ _ l o t _ HU2.out HO2.out HSM.out HL1.out HL2.out).mono ?_
        rintro e w3 ⟨u, rfl, hI, hb⟩
        have HN3 := Lib.hid (HN2.out.below hb)
        have HB3 := Lib.hid (HB2.out.trans (hb.mono HB2.out.size))
        have HI := Lib.hid hI
        obtain ⟨ud2, uc2, rfl, _, _⟩ := hI
        have HZ := Lib.hid (show w.heap.size + 1 < w2.heap.size ∧ w2.heap.size ≤ w3.heap.size from ⟨HN2.out.2.2.2, hb.size⟩)
        clear hb HN2 HB2 a0
        obtain ⟨_, b0, f0, _⟩ := HN3.out
        go_wp2
        refine bodyPost_ret (v := .tuple #[.agg #[.slice ud2 (P.kept (P.insOk (o, t) l) (P.putF (o, t) false l)).length uc2], .bool (P.insOk (o, t) l)]) (by simp [results, Tryz.results26, go_sem, b0]) rfl ⟨_, by rw [HC.out], ?_, ?_⟩
        · rw [HC.out]
          refine ents_done (w.heap.size + 1) HI.out fun b hb => ?_
          have h1 := hb.1; have h2 := hb.2; have h3 := HZ.out
          omega
        · exact HB3.out.setCell (by simp) _
      · have HD := Lib.hid (show P.briefOk o t l = false by
          unfold P.briefOk
          cases hcc : P.confl o l with
          | nil => exact absurd hcc hc
          | cons a b => simp)
        have hcl : (0 : Int) < ((P.confl o l).length : Int) := by
          cases hcc : P.confl o l with
          | nil => exact absurd hcc hc
          | cons a b => simp
        have HCL := Lib.hid hcl
        generalize (P.confl o l).length = q at *
        clear hc
        obtain ⟨_, b0, f0, _⟩ := HN2.out
        go_wp2
        refine bodyPost_ret (v := .tuple #[.agg #[.slice none 0 0], .bool false]) (by simp [results, Tryz.results26, go_sem, b0]) rfl ⟨_, by rw [HD.out], ?_, ?_⟩
        · rw [HD.out]; exact RowO.nil _ _
        · exact HB2.out.setCell (by simp) _
    · have HD := Lib.hid (show P.briefOk o t l = false by unfold P.briefOk; rw [hh]; simp); clear hh
      obtain ⟨_, b0, f0, _⟩ := HN1.out
      go_wp2
      refine bodyPost_ret (v := .tuple #[.agg #[.slice none 0 0], .bool false]) (by simp [results, Tryz.results26, go_sem, b0]) rfl ⟨_, by rw [HD.out], ?_, ?_⟩
      · rw [HD.out]; exact RowO.nil _ _
      · exact HB1.out.setCell (by simp) _
theorem impl_addBrief (dv ov : Value) (l : P.Dic) (o : List Int) (t : Str) (w : World) (hu : EntR w dv l) (ho : IntR w ov o) (hs : Small l) (h1 : o.length ≤ 2 ^ 20) (h2 : t.length ≤ 2 ^ 30) (hE : Env w) :
    Calls Tryz.prog 28 #[.agg #[dv], ov, .string (S t)] w (DkPost (P.briefOk o t l) (P.putF (o, t) false l) w) := by
  have hb0 : Below w.heap.size w ((w.alloc (.cells #[dv] 32)).alloc (.cells #[.slice none 0 0] 32)) := ((Below.refl w.heap.size w).alloc (Nat.le_refl _) _).alloc (by simp) _
  have HU := Lib.hid (hu.below hb0); have HO := Lib.hid (ho.below hb0); have HB0 := Lib.hid hb0
  have HN := Lib.hid (DBox.new dv w 32); have HSM := Lib.hid hs; have HL1 := Lib.hid h1; have HL2 := Lib.hid h2
  have HE := Lib.hid (hE.below hb0 hE.size)
  obtain ⟨ad, cap, rfl, hll, _⟩ := hu
  obtain ⟨od, oc, rfl, _, _⟩ := ho
  obtain ⟨a0, _⟩ := HN.out
  clear hb0 hs h1 h2
  go_enter Tryz.func28, Tryz.ntmps28
  go_wp2_with fail
  refine (impl_isFree _ _ l o _ HU.out HO.out HSM.out HE.out).mono ?_
  rintro e w1 ⟨rfl, hb⟩
  have HU1 := Lib.hid (HU.out.below hb); have HO1 := Lib.hid (HO.out.below hb); have HN1 := Lib.hid (HN.out.below hb)
  have HB1 := Lib.hid (HB0.out.trans (hb.mono (by simp; omega)))
  have HE1 := Lib.hid (HE.out.below hb HE.out.size)
  clear hb HU HO HB0 HN a0
  cases hf : P.freeOk o l
  · have HD := Lib.hid (show P.briefOk o t l = false by unfold P.briefOk; rw [hf]; rfl); clear hf
    obtain ⟨_, b0, f0, _⟩ := HN1.out
    go_wp2
    refine bodyPost_ret (v := .tuple #[.agg #[.slice none 0 0], .bool false]) (by simp [results, Tryz.results28, go_sem, b0]) rfl ⟨_, by rw [HD.out], ?_, ?_⟩
    · rw [HD.out]; exact RowO.nil _ _
    · exact HB1.out.setCell (by simp) _
  · have HF := Lib.hid hf; clear hf
    cases hh : P.hasE o l
    · have HH := Lib.hid hh; clear hh
      obtain ⟨a0, _⟩ := HN1.out
      go_wp2_with fail
      refine (conflicts _ _ l o _ HU1.out HO1.out HSM.out).mono ?_
      rintro e w2 ⟨u, rfl, hI, hb⟩
      have HU2 := Lib.hid (HU1.out.below hb); have HO2 := Lib.hid (HO1.out.below hb); have HN2 := Lib.hid (HN1.out.below hb)
      have HB2 := Lib.hid (HB1.out.trans (hb.mono HB1.out.size))
      have HE2 := Lib.hid (HE1.out.below hb HE1.out.size)
      obtain ⟨ud, uc, rfl, _, _⟩ := hI
      clear hb HU1 HO1 HB1 HN1 a0
      by_cases hc : P.confl o l = []
      · have HC := Lib.hid (show P.briefOk o t l = P.insOk (o, t) l by unfold P.briefOk; rw [HF.out, HH.out, hc]; rfl)
        rw [hc]
        clear hc
        obtain ⟨a0, _⟩ := HN2.out
        go_wp2_with fail
        refine (impl_insert _ _ l o t _ HU2.out HO2.out HSM.out HL1.out HL2.out HE2.out).mono ?_
        rintro e w3 ⟨u, rfl, hI, hb⟩
        have HN3 := Lib.hid (HN2.out.below hb)
        have HB3 := Lib.hid (HB2.out.trans (hb.mono HB2.out.size))
        have HI := Lib.hid hI
        obtain ⟨ud2, uc2, rfl, _, _⟩ := hI
        have HZ := Lib.hid (show w.heap.size + 1 < w2.heap.size ∧ w2.heap.size ≤ w3.heap.size from ⟨HN2.out.2.2.2, hb.size⟩)
        clear hb HN2 HB2 a0
        obtain ⟨_, b0, f0, _⟩ := HN3.out
        go_wp2
        refine bodyPost_ret (v := .tuple #[.agg #[.slice ud2 (P.kept (P.insOk (o, t) l) (P.putF (o, t) false l)).length uc2], .bool (P.insOk (o, t) l)]) (by simp [results, Tryz.results28, go_sem, b0]) rfl ⟨_, by rw [HC.out], ?_, ?_⟩
        · rw [HC.out]
          refine ents_done (w.heap.size + 1) HI.out fun b hb => ?_
          have h1 := hb.1; have h2 := hb.2; have h3 := HZ.out
          omega
        · exact HB3.out.setCell (by simp) _
      · have HD := Lib.hid (show P.briefOk o t l = false by
          unfold P.briefOk
          cases hcc : P.confl o l with
          | nil => exact absurd hcc hc
          | cons a b => simp)
        have hcl : (0 : Int) < ((P.confl o l).length : Int) := by
          cases hcc : P.confl o l with
          | nil => exact absurd hcc hc
          | cons a b => simp
        have HCL := Lib.hid hcl
        generalize (P.confl o l).length = q at *
        clear hc
        obtain ⟨_, b0, f0, _⟩ := HN2.out
        go_wp2
        refine bodyPost_ret (v := .tuple #[.agg #[.slice none 0 0], .bool false]) (by simp [results, Tryz.results28, go_sem, b0]) rfl ⟨_, by rw [HD.out], ?_, ?_⟩
        · rw [HD.out]; exact RowO.nil _ _
        · exact HB2.out.setCell (by simp) _
    · have HD := Lib.hid (show P.briefOk o t l = false by unfold P.briefOk; rw [hh]; simp); clear hh
      obtain ⟨_, b0, f0, _⟩ := HN1.out
      go_wp2
      refine bodyPost_ret (v := .tuple #[.agg #[.slice none 0 0], .bool false]) (by simp [results, Tryz.results28, go_sem, b0]) rfl ⟨_, by rw [HD.out], ?_, ?_⟩
      · rw [HD.out]; exact RowO.nil _ _
      · exact HB1.out.setCell (by simp) _
end Go.Proofs.YtonhkglilnplbaaGreatDoor
