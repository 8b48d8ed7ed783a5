/- The law of an added brief: strokes that do not hold it are segmented as before. -/
import Derived.Deep.DeepCutAuto
import Derived.Test.YtngbkdlicknmhaaGreatDoorPut3
import Derived.Test.YtngbkdlicknmhaaGreatDoorBrief1
import Derived.BigQuiet
import Derived.IntWalk
import Derived.Deep.RegionHeld
import Derived.Test.YtngbkdlicknmhaaGreatDoorCurE5
import Derived.Test.YtngbkdlicknmhaaGreatDoorCurE8
import Derived.Test.YtngbkdlicknmhaaGreatDoorLook1
import Derived.Test.YtngbkdlicknmhaaGreatDoorDrawBA
import Derived.Test.YtngbkdlicknmhaaGreatDoorSeg
import Derived.Test.YtngbkdlicknmhaaGreatDoorRDict
namespace Go.Proofs.YtngbkdlicknmhaaGreatDoor
open Go Go.RowKit
set_option maxHeartbeats 4000000
set_option maxRecDepth 100000
theorem spec_insert (dv x : Value) (l : P.Dic) (o : List Int) (t : Str) (w : World) (hu : EntR w dv l) (ho : IntR w x o) (hs : Small l) (h1 : o.length ≤ 2 ^ 20) (h2 : t.length ≤ 2 ^ 30) :
    Calls Tryz.prog 116 #[.agg #[dv], .agg #[x, .string (S t)]] w (InsPost (o, t) l w) := by
  have hb0 : Below w.heap.size w (((w.alloc (.cells #[dv] 26)).alloc (.cells #[x, .string (S t)] 47)).alloc (.cells #[.slice none 0 0] 26)) := (((Below.refl w.heap.size w).alloc (Nat.le_refl _) _).alloc (by simp) _).alloc (by simp; omega) _
  have HU := Lib.hid (hu.below hb0); have HO := Lib.hid (ho.below hb0)
  have HB0 := Lib.hid hb0; clear hb0
  have HN := Lib.hid (IBox.new dv x t w)
  have HSM := Lib.hid hs; clear hs
  have HL1 := Lib.hid h1; have HL2 := Lib.hid h2; clear h1 h2
  obtain ⟨ad, cap, rfl, _, _⟩ := hu
  obtain ⟨od, oc, rfl, _, _⟩ := ho
  go_enter Tryz.func116, Tryz.ntmps116
  go_wp2_with fail
  refine (l6Good _ l _ HU.out HSM.out.texts).mono ?_
  rintro e w1 ⟨rfl, hb⟩
  have HU1 := Lib.hid (HU.out.below hb); have HO1 := Lib.hid (HO.out.below hb)
  have HN1 := Lib.hid (HN.out.below hb)
  have HB1 := Lib.hid (HB0.out.trans (hb.mono (by simp; omega)))
  clear hb HU HB0 HN HO
  cases hd : P.dic l
  · have HD := Lib.hid (show P.insOk (o, t) l = false by unfold P.insOk; rw [hd]; rfl); clear hd
    obtain ⟨_, _, _, b0, f0, _⟩ := HN1.out
    go_wp2
    refine bodyPost_ret (v := .tuple #[.agg #[.slice none 0 0], .bool false]) (by simp [results, Tryz.results116, go_sem, b0]) rfl ⟨_, by rw [HD.out], ?_, ?_⟩
    · rw [HD.out]; exact RowO.nil _ _
    · exact HB1.out.setCell (by simp; omega) _
  · have HDC := Lib.hid hd; clear hd
    obtain ⟨a0, a1, a2, _⟩ := HN1.out
    go_wp2_with fail
    refine (l6Entry _ o t _ HO1.out HL2.out).mono ?_
    rintro e w2 ⟨rfl, hb⟩
    have HU2 := Lib.hid (HU1.out.below hb); have HO2 := Lib.hid (HO1.out.below hb)
    have HN2 := Lib.hid (HN1.out.below hb)
    have HB2 := Lib.hid (HB1.out.trans (hb.mono HB1.out.size))
    clear hb HU1 HB1 HN1 HO1 a0 a1 a2
    cases he : P.entry (o, t)
    · have HD := Lib.hid (show P.insOk (o, t) l = false by unfold P.insOk; rw [he, Bool.false_and, Bool.and_false]); clear he
      obtain ⟨_, _, _, b0, f0, _⟩ := HN2.out
      go_wp2
      refine bodyPost_ret (v := .tuple #[.agg #[.slice none 0 0], .bool false]) (by simp [results, Tryz.results116, go_sem, b0]) rfl ⟨_, by rw [HD.out], ?_, ?_⟩
      · rw [HD.out]; exact RowO.nil _ _
      · exact HB2.out.setCell (by simp; omega) _
    · have HEN := Lib.hid he; clear he
      obtain ⟨a0, a1, a2, _⟩ := HN2.out
      go_wp2_with fail
      refine (l6Put _ _ l o t _ HU2.out HO2.out HSM.out.len HSM.out.outs HL1.out).mono ?_
      rintro e w4 ⟨u4, rfl, hI, hb⟩
      have HZ2 := Lib.hid HN2.out.2.2.2.2.2
      have HN5 := Lib.hid (HN2.out.below hb)
      have HB6 := Lib.hid (HB2.out.trans (hb.mono HB2.out.size))
      have hba := (Below.refl w4.heap.size w4).alloc (Nat.le_refl _) (.cells #[u4] 26)
      have HI := Lib.hid hI
      obtain ⟨u4d, u4c, rfl, hlp, _⟩ := hI
      have HZ4 := Lib.hid (show w2.heap.size ≤ w4.heap.size from hb.size)
      clear hb HN2 HB2 a0 a1 a2
      have HI2 := Lib.hid (show Ents _ _ _ (P.putF (o, t) false l) from HI.out.below entE_ok hba)
      have HN6 := Lib.hid (HN5.out.below hba)
      have HB7 := Lib.hid (HB6.out.trans (hba.mono HB6.out.size))
      clear hba HN5 HB6
      obtain ⟨_, _, _, b0, f0, _⟩ := HN6.out
      by_cases hlen : (40 : Int) < ((P.putF (o, t) false l).length : Int)
      · have HD := Lib.hid (show P.insOk (o, t) l = false by unfold P.insOk; rw [HDC.out, HEN.out, decide_eq_false (by omega)]; rfl)
        go_wp2
        refine bodyPost_ret (v := .tuple #[.agg #[.slice none 0 0], .bool false]) (by simp [results, Tryz.results116, go_sem, b0]) rfl ⟨_, by rw [HD.out], ?_, ?_⟩
        · rw [HD.out]; exact RowO.nil _ _
        · exact HB7.out.setCell (by simp; omega) _
      · have HD := Lib.hid (show P.insOk (o, t) l = true by unfold P.insOk; rw [HDC.out, HEN.out, decide_eq_true (by omega)]; rfl)
        go_wp2
        refine bodyPost_ret (v := .tuple #[.agg #[.slice u4d (P.putF (o, t) false l).length u4c], .bool true]) (by simp [results, Tryz.results116, go_sem, b0]) rfl ⟨_, by rw [HD.out], ?_, ?_⟩
        · rw [HD.out]
          show Ents _ _ _ (P.putF (o, t) false l)
          refine ents_done (w.heap.size + 2) HI2.out fun b hb => ?_
          have h1 := hb.1; have h2 := hb.2; have h3 := HZ2.out
          simp
          omega
        · exact HB7.out.setCell (by simp; omega) _
end Go.Proofs.YtngbkdlicknmhaaGreatDoor

namespace Go.Proofs.YtngbkdlicknmhaaGreatDoor
namespace P
def freeOk (o : List Int) (l : Dic) : Bool := dic l && outline o
def briefOk (o : List Int) (t : Bs) (l : Dic) : Bool := freeOk o l && (!hasE o l && ((confl o l).isEmpty && insOk (o, t) l))
end P
open Go Go.RowKit
set_option maxHeartbeats 4000000
set_option maxRecDepth 100000
def FreePost (o : List Int) (l : P.Dic) (w : World) (e : Ending) (w' : World) : Prop := e = .returned (.tuple #[.bool (P.freeOk o l && !P.hasE o l), .bool (P.freeOk o l)]) ∧ Below w.heap.size w w'
def ConfPost (o : List Int) (l : P.Dic) (w : World) (e : Ending) (w' : World) : Prop := ∃ u, e = .returned (.tuple #[u, .bool (P.freeOk o l)]) ∧ OutsO w' (Bet w.heap.size w'.heap.size) u (P.keptO (P.freeOk o l) (P.confl o l)) ∧ Below w.heap.size w w'
theorem free_neg (o : List Int) (l : P.Dic) : (!P.hasE o l) = decide (P.place o l < 0) := by
  unfold P.hasE
  by_cases h : P.place o l < 0
  · rw [decide_eq_true h, decide_eq_false (by omega)]; rfl
  · rw [decide_eq_false h, decide_eq_true (by omega)]; rfl
theorem spec_isFree (dv ov : Value) (l : P.Dic) (o : List Int) (w : World) (hu : EntR w dv l) (ho : IntR w ov o) (hs : Small l) :
    Calls Tryz.prog 125 #[.agg #[dv], ov] w (FreePost o l w) := by
  have hb0 := (Below.refl w.heap.size w).alloc (Nat.le_refl _) (.cells #[dv] 26)
  have HU := Lib.hid (hu.below hb0); have HO := Lib.hid (ho.below hb0); have HB0 := Lib.hid hb0
  have HBX := Lib.hid (Box1.new dv 26 w); have HSM := Lib.hid hs
  obtain ⟨ad, cap, rfl, hll, _⟩ := hu
  obtain ⟨od, oc, rfl, _, _⟩ := ho
  clear hb0 hs
  go_enter Tryz.func125, Tryz.ntmps125
  go_wp2_with fail
  refine (l6Good _ l _ HU.out HSM.out.texts).mono ?_
  rintro e w1 ⟨rfl, hb⟩
  have HU1 := Lib.hid (HU.out.below hb); have HO1 := Lib.hid (HO.out.below hb)
  have HBX1 := Lib.hid (HBX.out.below hb)
  have HB1 := Lib.hid (HB0.out.trans (hb.mono (by simp)))
  clear hb HU HO HB0 HBX
  cases hd : P.dic l
  · have HD := Lib.hid (show P.freeOk o l = false by unfold P.freeOk; rw [hd]; rfl); clear hd
    go_wp2
    go_ret2
    exact ⟨by rw [HD.out]; rfl, HB1.out⟩
  · have HDC := Lib.hid hd; clear hd
    go_wp2_with fail
    refine (l4Good _ o _ HO1.out).mono ?_
    rintro e w2 ⟨rfl, rfl⟩
    cases ho : P.outline o
    · have HD := Lib.hid (show P.freeOk o l = false by unfold P.freeOk; rw [ho, Bool.and_false]); clear ho
      go_wp2
      go_ret2
      exact ⟨by rw [HD.out]; rfl, HB1.out⟩
    · have HD := Lib.hid (show P.freeOk o l = true by unfold P.freeOk; rw [HDC.out, ho]; rfl); clear ho
      obtain ⟨b0, _⟩ := HBX1.out
      go_wp2_with fail
      refine (l6At _ _ l o _ HU1.out HO1.out).mono ?_
      rintro e w3 ⟨rfl, hb⟩
      have HB3 := Lib.hid (HB1.out.trans (hb.mono HB1.out.size))
      have HF := Lib.hid (free_neg o l)
      clear hb b0
      generalize P.place o l = q at *
      go_wp2
      go_ret2
      exact ⟨by rw [HD.out, HF.out]; rfl, HB3.out⟩
theorem impl_isFree (dv ov : Value) (l : P.Dic) (o : List Int) (w : World) (hu : EntR w dv l) (ho : IntR w ov o) (hs : Small l) (hE : Env w) :
    Calls Tryz.prog 123 #[.agg #[dv], ov] w (FreePost o l w) := by
  have hb0 := (Below.refl w.heap.size w).alloc (Nat.le_refl _) (.cells #[dv] 26)
  have HU := Lib.hid (hu.below hb0); have HO := Lib.hid (ho.below hb0); have HB0 := Lib.hid hb0
  have HBX := Lib.hid (Box1.new dv 26 w); have HSM := Lib.hid hs
  have HE := Lib.hid (hE.below hb0 hE.size)
  obtain ⟨ad, cap, rfl, hll, _⟩ := hu
  obtain ⟨od, oc, rfl, _, _⟩ := ho
  clear hb0 hs
  go_enter Tryz.func123, Tryz.ntmps123
  go_wp2_with fail
  refine (isValidDictionary _ l _ HU.out HSM.out.texts HE.out).mono ?_
  rintro e w1 ⟨rfl, hb⟩
  have HU1 := Lib.hid (HU.out.below hb); have HO1 := Lib.hid (HO.out.below hb)
  have HBX1 := Lib.hid (HBX.out.below hb)
  have HB1 := Lib.hid (HB0.out.trans (hb.mono (by simp)))
  clear hb HU HO HB0 HBX
  cases hd : P.dic l
  · have HD := Lib.hid (show P.freeOk o l = false by unfold P.freeOk; rw [hd]; rfl); clear hd
    go_wp2
    go_ret2
    exact ⟨by rw [HD.out]; rfl, HB1.out⟩
  · have HDC := Lib.hid hd; clear hd
    go_wp2_with fail
    refine (isValidOutline _ o _ HO1.out).mono ?_
    rintro e w2 ⟨rfl, hb⟩
    have HU2 := Lib.hid (HU1.out.below hb); have HO2 := Lib.hid (HO1.out.below hb); have HBX2 := Lib.hid (HBX1.out.below hb)
    have HB2 := Lib.hid (HB1.out.trans (hb.mono HB1.out.size))
    clear hb HU1 HO1 HB1 HBX1
    cases ho : P.outline o
    · have HD := Lib.hid (show P.freeOk o l = false by unfold P.freeOk; rw [ho, Bool.and_false]); clear ho
      go_wp2
      go_ret2
      exact ⟨by rw [HD.out]; rfl, HB2.out⟩
    · have HD := Lib.hid (show P.freeOk o l = true by unfold P.freeOk; rw [HDC.out, ho]; rfl); clear ho
      obtain ⟨b0, _⟩ := HBX2.out
      go_wp2_with fail
      refine (dicFind _ _ l o _ HU2.out HO2.out).mono ?_
      rintro e w3 ⟨rfl, hb⟩
      have HB3 := Lib.hid (HB2.out.trans (hb.mono HB2.out.size))
      have HF := Lib.hid (free_neg o l)
      clear hb b0
      generalize P.place o l = q at *
      go_wp2
      go_ret2
      exact ⟨by rw [HD.out, HF.out]; rfl, HB3.out⟩
theorem spec_prefixConflicts (dv ov : Value) (l : P.Dic) (o : List Int) (w : World) (hu : EntR w dv l) (ho : IntR w ov o) (hs : Small l) :
    Calls Tryz.prog 37 #[.agg #[dv], ov] w (ConfPost o l w) := by
  have hb0 := (Below.refl w.heap.size w).alloc (Nat.le_refl _) (.cells #[dv] 26)
  have HU := Lib.hid (hu.below hb0); have HO := Lib.hid (ho.below hb0); have HB0 := Lib.hid hb0
  have HBX := Lib.hid (Box1.new dv 26 w); have HSM := Lib.hid hs
  obtain ⟨ad, cap, rfl, hll, _⟩ := hu
  obtain ⟨od, oc, rfl, _, _⟩ := ho
  clear hb0 hs
  go_enter Tryz.func37, Tryz.ntmps37
  go_wp2_with fail
  refine (l6Good _ l _ HU.out HSM.out.texts).mono ?_
  rintro e w1 ⟨rfl, hb⟩
  have HU1 := Lib.hid (HU.out.below hb); have HO1 := Lib.hid (HO.out.below hb)
  have HBX1 := Lib.hid (HBX.out.below hb)
  have HB1 := Lib.hid (HB0.out.trans (hb.mono (by simp)))
  clear hb HU HO HB0 HBX
  cases hd : P.dic l
  · have HD := Lib.hid (show P.freeOk o l = false by unfold P.freeOk; rw [hd]; rfl); clear hd
    go_wp2
    go_ret2
    exact ⟨.slice none 0 0, by rw [HD.out]; rfl, by rw [HD.out]; exact RowO.nil _ _, HB1.out⟩
  · have HDC := Lib.hid hd; clear hd
    go_wp2_with fail
    refine (l4Good _ o _ HO1.out).mono ?_
    rintro e w2 ⟨rfl, rfl⟩
    cases ho : P.outline o
    · have HD := Lib.hid (show P.freeOk o l = false by unfold P.freeOk; rw [ho, Bool.and_false]); clear ho
      go_wp2
      go_ret2
      exact ⟨.slice none 0 0, by rw [HD.out]; rfl, by rw [HD.out]; exact RowO.nil _ _, HB1.out⟩
    · have HD := Lib.hid (show P.freeOk o l = true by unfold P.freeOk; rw [HDC.out, ho]; rfl); clear ho
      obtain ⟨b0, _⟩ := HBX1.out
      go_wp2_with fail
      refine (l17Conflicts _ _ l o _ HU1.out HO1.out HSM.out).mono ?_
      rintro e w3 ⟨u, rfl, hI, hb⟩
      have HB3 := Lib.hid (HB1.out.trans (hb.mono HB1.out.size))
      have HI := Lib.hid (show OutsO w3 (Bet w.heap.size w3.heap.size) u (P.confl o l) from hI.wide (fun b hb => ⟨by have h1 := hb.1; have h2 := HB1.out.size; omega, hb.2⟩) (fun b hb => hb.2))
      obtain ⟨ud, uc, rfl, _, _⟩ := hI
      clear hb b0
      go_wp2
      go_ret2
      exact ⟨.slice ud (P.confl o l).length uc, by rw [HD.out]; rfl, by rw [HD.out]; exact HI.out, HB3.out⟩
theorem impl_prefixConflicts (dv ov : Value) (l : P.Dic) (o : List Int) (w : World) (hu : EntR w dv l) (ho : IntR w ov o) (hs : Small l) (hE : Env w) :
    Calls Tryz.prog 36 #[.agg #[dv], ov] w (ConfPost o l w) := by
  have hb0 := (Below.refl w.heap.size w).alloc (Nat.le_refl _) (.cells #[dv] 26)
  have HU := Lib.hid (hu.below hb0); have HO := Lib.hid (ho.below hb0); have HB0 := Lib.hid hb0
  have HBX := Lib.hid (Box1.new dv 26 w); have HSM := Lib.hid hs
  have HE := Lib.hid (hE.below hb0 hE.size)
  obtain ⟨ad, cap, rfl, hll, _⟩ := hu
  obtain ⟨od, oc, rfl, _, _⟩ := ho
  clear hb0 hs
  go_enter Tryz.func36, Tryz.ntmps36
  go_wp2_with fail
  refine (isValidDictionary _ l _ HU.out HSM.out.texts HE.out).mono ?_
  rintro e w1 ⟨rfl, hb⟩
  have HU1 := Lib.hid (HU.out.below hb); have HO1 := Lib.hid (HO.out.below hb)
  have HBX1 := Lib.hid (HBX.out.below hb)
  have HB1 := Lib.hid (HB0.out.trans (hb.mono (by simp)))
  clear hb HU HO HB0 HBX
  cases hd : P.dic l
  · have HD := Lib.hid (show P.freeOk o l = false by unfold P.freeOk; rw [hd]; rfl); clear hd
    go_wp2
    go_ret2
    exact ⟨.slice none 0 0, by rw [HD.out]; rfl, by rw [HD.out]; exact RowO.nil _ _, HB1.out⟩
  · have HDC := Lib.hid hd; clear hd
    go_wp2_with fail
    refine (isValidOutline _ o _ HO1.out).mono ?_
    rintro e w2 ⟨rfl, hb⟩
    have HU2 := Lib.hid (HU1.out.below hb); have HO2 := Lib.hid (HO1.out.below hb); have HBX2 := Lib.hid (HBX1.out.below hb)
    have HB2 := Lib.hid (HB1.out.trans (hb.mono HB1.out.size))
    clear hb HU1 HO1 HB1 HBX1
    cases ho : P.outline o
    · have HD := Lib.hid (show P.freeOk o l = false by unfold P.freeOk; rw [ho, Bool.and_false]); clear ho
      go_wp2
      go_ret2
      exact ⟨.slice none 0 0, by rw [HD.out]; rfl, by rw [HD.out]; exact RowO.nil _ _, HB2.out⟩
    · have HD := Lib.hid (show P.freeOk o l = true by unfold P.freeOk; rw [HDC.out, ho]; rfl); clear ho
      obtain ⟨b0, _⟩ := HBX2.out
      go_wp2_with fail
      refine (conflicts _ _ l o _ HU2.out HO2.out HSM.out).mono ?_
      rintro e w3 ⟨u, rfl, hI, hb⟩
      have HB3 := Lib.hid (HB2.out.trans (hb.mono HB2.out.size))
      have HI := Lib.hid (show OutsO w3 (Bet w.heap.size w3.heap.size) u (P.confl o l) from hI.wide (fun b hb => ⟨by have h1 := hb.1; have h2 := HB2.out.size; omega, hb.2⟩) (fun b hb => hb.2))
      obtain ⟨ud, uc, rfl, _, _⟩ := hI
      clear hb b0
      go_wp2
      go_ret2
      exact ⟨.slice ud (P.confl o l).length uc, by rw [HD.out]; rfl, by rw [HD.out]; exact HI.out, HB3.out⟩
theorem spec_addBrief (dv ov : Value) (l : P.Dic) (o : List Int) (t : Str) (w : World) (hu : EntR w dv l) (ho : IntR w ov o) (hs : Small l) (h1 : o.length ≤ 2 ^ 20) (h2 : t.length ≤ 2 ^ 30) :
    Calls Tryz.prog 35 #[.agg #[dv], ov, .string (S t)] w (DkPost (P.briefOk o t l) (P.putF (o, t) false l) w) := by
  have hb0 : Below w.heap.size w ((w.alloc (.cells #[dv] 26)).alloc (.cells #[.slice none 0 0] 26)) := ((Below.refl w.heap.size w).alloc (Nat.le_refl _) _).alloc (by simp) _
  have HU := Lib.hid (hu.below hb0); have HO := Lib.hid (ho.below hb0); have HB0 := Lib.hid hb0
  have HN := Lib.hid (DBox.new dv w 26); have HSM := Lib.hid hs; have HL1 := Lib.hid h1; have HL2 := Lib.hid h2
  obtain ⟨ad, cap, rfl, hll, _⟩ := hu
  obtain ⟨od, oc, rfl, _, _⟩ := ho
  obtain ⟨a0, _⟩ := HN.out
  clear hb0 hs h1 h2
  go_enter Tryz.func35, Tryz.ntmps35
  go_wp2_with fail
  refine (spec_isFree _ _ l o _ HU.out HO.out HSM.out).mono ?_
  rintro e w1 ⟨rfl, hb⟩
  have HU1 := Lib.hid (HU.out.below hb); have HO1 := Lib.hid (HO.out.below hb); have HN1 := Lib.hid (HN.out.below hb)
  have HB1 := Lib.hid (HB0.out.trans (hb.mono (by simp; omega)))
  clear hb HU HO HB0 HN a0
  cases hf : P.freeOk o l
  · have HD := Lib.hid (show P.briefOk o t l = false by unfold P.briefOk; rw [hf]; rfl); clear hf
    obtain ⟨_, b0, f0, _⟩ := HN1.out
    go_wp2
    refine bodyPost_ret (v := .tuple #[.agg #[.slice none 0 0], .bool false]) (by simp [results, Tryz.results35, go_sem, b0]) rfl ⟨_, by rw [HD.out], ?_, ?_⟩
    · rw [HD.out]; exact RowO.nil _ _
    · exact HB1.out.setCell (by simp) _
  · have HF := Lib.hid hf; clear hf
    cases hh : P.hasE o l
    · have HH := Lib.hid hh; clear hh
      obtain ⟨a0, _⟩ := HN1.out
      go_wp2_with fail
      refine (l17Conflicts _ _ l o _ HU1.out HO1.out HSM.out).mono ?_
      rintro e w2 ⟨u, rfl, hI, hb⟩
      have HU2 := Lib.hid (HU1.out.below hb); have HO2 := Lib.hid (HO1.out.below hb); have HN2 := Lib.hid (HN1.out.below hb)
      have HB2 := Lib.hid (HB1.out.trans (hb.mono HB1.out.size))
      obtain ⟨ud, uc, rfl, _, _⟩ := hI
      clear hb HU1 HO1 HB1 HN1 a0
      by_cases hc : P.confl o l = []
      · have HC := Lib.hid (show P.briefOk o t l = P.insOk (o, t) l by unfold P.briefOk; rw [HF.out, HH.out, hc]; rfl)
        rw [hc]
        clear hc
        obtain ⟨a0, _⟩ := HN2.out
        go_wp2_with fail
        refine (spec_insert _ _ l o t _ HU2.out HO2.out HSM.out HL1.out HL2.out).mono ?_
        rintro e w3 ⟨u, rfl, hI, hb⟩
        have HN3 := Lib.hid (HN2.out.below hb)
        have HB3 := Lib.hid (HB2.out.trans (hb.mono HB2.out.size))
        have HI := Lib.hid hI
        obtain ⟨ud2, uc2, rfl, _, _⟩ := hI
        have HZ := Lib.hid (show w.heap.size + 1 < w2.heap.size ∧ w2.heap.size ≤ w3.heap.size from ⟨HN2.out.2.2.2, hb.size⟩)
        clear hb HN2 HB2 a0
        obtain ⟨_, b0, f0, _⟩ := HN3.out
        go_wp2
        refine bodyPost_ret (v := .tuple #[.agg #[.slice ud2 (P.kept (P.insOk (o, t) l) (P.putF (o, t) false l)).length uc2], .bool (P.insOk (o, t) l)]) (by simp [results, Tryz.results35, go_sem, b0]) rfl ⟨_, by rw [HC.out], ?_, ?_⟩
        · rw [HC.out]
          refine ents_done (w.heap.size + 1) HI.out fun b hb => ?_
          have h1 := hb.1; have h2 := hb.2; have h3 := HZ.out
          omega
        · exact HB3.out.setCell (by simp) _
      · have HD := Lib.hid (show P.briefOk o t l = false by
          unfold P.briefOk
          cases hcc : P.confl o l with
          | nil => exact absurd hcc hc
          | cons a b => simp)
        have hcl : (0 : Int) < ((P.confl o l).length : Int) := by
          cases hcc : P.confl o l with
          | nil => exact absurd hcc hc
          | cons a b => simp
        have HCL := Lib.hid hcl
        generalize (P.confl o l).length = q at *
        clear hc
        obtain ⟨_, b0, f0, _⟩ := HN2.out
        go_wp2
        refine bodyPost_ret (v := .tuple #[.agg #[.slice none 0 0], .bool false]) (by simp [results, Tryz.results35, go_sem, b0]) rfl ⟨_, by rw [HD.out], ?_, ?_⟩
        · rw [HD.out]; exact RowO.nil _ _
        · exact HB2.out.setCell (by simp) _
    · have HD := Lib.hid (show P.briefOk o t l = false by unfold P.briefOk; rw [hh]; simp); clear hh
      obtain ⟨_, b0, f0, _⟩ := HN1.out
      go_wp2
      refine bodyPost_ret (v := .tuple #[.agg #[.slice none 0 0], .bool false]) (by simp [results, Tryz.results35, go_sem, b0]) rfl ⟨_, by rw [HD.out], ?_, ?_⟩
      · rw [HD.out]; exact RowO.nil _ _
      · exact HB1.out.setCell (by simp) _
theorem impl_addBrief (dv ov : Value) (l : P.Dic) (o : List Int) (t : Str) (w : World) (hu : EntR w dv l) (ho : IntR w ov o) (hs : Small l) (h1 : o.length ≤ 2 ^ 20) (h2 : t.length ≤ 2 ^ 30) (hE : Env w) :
    Calls Tryz.prog 34 #[.agg #[dv], ov, .string (S t)] w (DkPost (P.briefOk o t l) (P.putF (o, t) false l) w) := by
  have hb0 : Below w.heap.size w ((w.alloc (.cells #[dv] 26)).alloc (.cells #[.slice none 0 0] 26)) := ((Below.refl w.heap.size w).alloc (Nat.le_refl _) _).alloc (by simp) _
  have HU := Lib.hid (hu.below hb0); have HO := Lib.hid (ho.below hb0); have HB0 := Lib.hid hb0
  have HN := Lib.hid (DBox.new dv w 26); have HSM := Lib.hid hs; have HL1 := Lib.hid h1; have HL2 := Lib.hid h2
  have HE := Lib.hid (hE.below hb0 hE.size)
  obtain ⟨ad, cap, rfl, hll, _⟩ := hu
  obtain ⟨od, oc, rfl, _, _⟩ := ho
  obtain ⟨a0, _⟩ := HN.out
  clear hb0 hs h1 h2
  go_enter Tryz.func34, Tryz.ntmps34
  go_wp2_with fail
  refine (impl_isFree _ _ l o _ HU.out HO.out HSM.out HE.out).mono ?_
  rintro e w1 ⟨rfl, hb⟩
  have HU1 := Lib.hid (HU.out.below hb); have HO1 := Lib.hid (HO.out.below hb); have HN1 := Lib.hid (HN.out.below hb)
  have HB1 := Lib.hid (HB0.out.trans (hb.mono (by simp; omega)))
  have HE1 := Lib.hid (HE.out.below hb HE.out.size)
  clear hb HU HO HB0 HN a0
  cases hf : P.freeOk o l
  · have HD := Lib.hid (show P.briefOk o t l = false by unfold P.briefOk; rw [hf]; rfl); clear hf
    obtain ⟨_, b0, f0, _⟩ := HN1.out
    go_wp2
    refine bodyPost_ret (v := .tuple #[.agg #[.slice none 0 0], .bool false]) (by simp [results, Tryz.results34, go_sem, b0]) rfl ⟨_, by rw [HD.out], ?_, ?_⟩
    · rw [HD.out]; exact RowO.nil _ _
    · exact HB1.out.setCell (by simp) _
  · have HF := Lib.hid hf; clear hf
    cases hh : P.hasE o l
    · have HH := Lib.hid hh; clear hh
      obtain ⟨a0, _⟩ := HN1.out
      go_wp2_with fail
      refine (conflicts _ _ l o _ HU1.out HO1.out HSM.out).mono ?_
      rintro e w2 ⟨u, rfl, hI, hb⟩
      have HU2 := Lib.hid (HU1.out.below hb); have HO2 := Lib.hid (HO1.out.below hb); have HN2 := Lib.hid (HN1.out.below hb)
      have HB2 := Lib.hid (HB1.out.trans (hb.mono HB1.out.size))
      have HE2 := Lib.hid (HE1.out.below hb HE1.out.size)
      obtain ⟨ud, uc, rfl, _, _⟩ := hI
      clear hb HU1 HO1 HB1 HN1 a0
      by_cases hc : P.confl o l = []
      · have HC := Lib.hid (show P.briefOk o t l = P.insOk (o, t) l by unfold P.briefOk; rw [HF.out, HH.out, hc]; rfl)
        rw [hc]
        clear hc
        obtain ⟨a0, _⟩ := HN2.out
        go_wp2_with fail
        refine (impl_insert _ _ l o t _ HU2.out HO2.out HSM.out HL1.out HL2.out HE2.out).mono ?_
        rintro e w3 ⟨u, rfl, hI, hb⟩
        have HN3 := Lib.hid (HN2.out.below hb)
        have HB3 := Lib.hid (HB2.out.trans (hb.mono HB2.out.size))
        have HI := Lib.hid hI
        obtain ⟨ud2, uc2, rfl, _, _⟩ := hI
        have HZ := Lib.hid (show w.heap.size + 1 < w2.heap.size ∧ w2.heap.size ≤ w3.heap.size from ⟨HN2.out.2.2.2, hb.size⟩)
        clear hb HN2 HB2 a0
        obtain ⟨_, b0, f0, _⟩ := HN3.out
        go_wp2
        refine bodyPost_ret (v := .tuple #[.agg #[.slice ud2 (P.kept (P.insOk (o, t) l) (P.putF (o, t) false l)).length uc2], .bool (P.insOk (o, t) l)]) (by simp [results, Tryz.results34, go_sem, b0]) rfl ⟨_, by rw [HC.out], ?_, ?_⟩
        · rw [HC.out]
          refine ents_done (w.heap.size + 1) HI.out fun b hb => ?_
          have h1 := hb.1; have h2 := hb.2; have h3 := HZ.out
          omega
        · exact HB3.out.setCell (by simp) _
      · have HD := Lib.hid (show P.briefOk o t l = false by
          unfold P.briefOk
          cases hcc : P.confl o l with
          | nil => exact absurd hcc hc
          | cons a b => simp)
        have hcl : (0 : Int) < ((P.confl o l).length : Int) := by
          cases hcc : P.confl o l with
          | nil => exact absurd hcc hc
          | cons a b => simp
        have HCL := Lib.hid hcl
        generalize (P.confl o l).length = q at *
        clear hc
        obtain ⟨_, b0, f0, _⟩ := HN2.out
        go_wp2
        refine bodyPost_ret (v := .tuple #[.agg #[.slice none 0 0], .bool false]) (by simp [results, Tryz.results34, go_sem, b0]) rfl ⟨_, by rw [HD.out], ?_, ?_⟩
        · rw [HD.out]; exact RowO.nil _ _
        · exact HB2.out.setCell (by simp) _
    · have HD := Lib.hid (show P.briefOk o t l = false by unfold P.briefOk; rw [hh]; simp); clear hh
      obtain ⟨_, b0, f0, _⟩ := HN1.out
      go_wp2
      refine bodyPost_ret (v := .tuple #[.agg #[.slice none 0 0], .bool false]) (by simp [results, Tryz.results34, go_sem, b0]) rfl ⟨_, by rw [HD.out], ?_, ?_⟩
      · rw [HD.out]; exact RowO.nil _ _
      · exact HB1.out.setCell (by simp) _
end Go.Proofs.YtngbkdlicknmhaaGreatDoor

namespace Go.Proofs.YtngbkdlicknmhaaGreatDoor
namespace P
theorem ins_dic {e : Ent} {l : Dic} (h : insOk e l = true) : dic (putF e false l) = true ∧ dic l = true := by
  unfold insOk at h
  simp only [Bool.and_eq_true] at h
  exact ⟨by rw [put_dic h.1 h.2.1]; exact h.2.2, h.1⟩
theorem ins_look {e : Ent} {l : Dic} (h : insOk e l = true) : lookD e.1 (putF e false l) = (e.2, true) := by
  obtain ⟨h1, h2⟩ := ins_dic h
  have hm : e ∈ putF e false l := (putF_mem e l e).2 (.inl rfl)
  unfold lookD
  rw [h1, if_pos rfl, textAt_mem (pair_of_dic h1) hm, hasE_iff.2 ⟨e, hm, rfl⟩]
end P
open Go Go.RowKit
set_option maxHeartbeats 4000000
set_option maxRecDepth 100000
end Go.Proofs.YtngbkdlicknmhaaGreatDoor

namespace Go.Proofs.YtngbkdlicknmhaaGreatDoor
namespace P
theorem brief_facts {o : List Int} {t : Bs} {l : Dic} (h : briefOk o t l = true) : dic l = true ∧ outline o = true ∧ confl o l = [] ∧ insOk (o, t) l = true := by
  unfold briefOk freeOk at h
  simp only [Bool.and_eq_true] at h
  exact ⟨h.1.1, h.1.2, List.isEmpty_iff.1 h.2.2.1, h.2.2.2⟩
theorem outline_strokes {o : List Int} (h : outline o = true) : o.length ≤ 6 ∧ ∀ x ∈ o, stroke x = true := by
  unfold outline at h
  simp only [Bool.and_eq_true, decide_eq_true_eq, List.all_eq_true] at h
  exact ⟨by omega, h.2⟩
theorem dic_outline {l : Dic} (h : dic l = true) {e : Ent} (he : e ∈ l) : outline e.1 = true := by
  unfold dic at h
  simp only [Bool.and_eq_true, List.all_eq_true] at h
  have := h.2.1 e he
  unfold entry at this
  simp only [Bool.and_eq_true] at this
  exact this.1
theorem slist_of {st : List Int} (h1 : st.length ≤ 60) (h2 : ∀ x ∈ st, stroke x = true) : slist st = true := by
  unfold slist
  simp only [Bool.and_eq_true, decide_eq_true_eq, List.all_eq_true]
  exact ⟨h1, h2⟩
end P
open Go Go.RowKit
set_option maxHeartbeats 8000000
set_option maxRecDepth 100000
theorem rIntsU (u v : Value) (l m : List Int) (w : World) (hu : IntR w u l) (hv : IntR w v m) :
    Calls Tryz.prog 41 #[u, v] w fun e w' => e = .returned (.bool (decide (l = m))) ∧ Below w.heap.size w w' := by
  have HU := Lib.hid hu; have HV := Lib.hid hv
  obtain ⟨ad, cap, rfl, hla, _⟩ := hu
  obtain ⟨bd, dap, rfl, hlb, _⟩ := hv
  go_enter Tryz.func41, Tryz.ntmps41
  by_cases hlen : l.length = m.length
  · have hli : (l.length : Int) = (m.length : Int) := by omega
    go_wp2
    go_loopw [5] (fun i wr => ∃ j : Nat, j ≤ l.length ∧ i = .int .i64 j ∧ (∀ k (h : k < j) (h1 : k < l.length) (h2 : k < m.length), l[k] = m[k]) ∧ Below w.heap.size w wr) (fun i _ => l.length - (intOf i).toNat)
    case atStart => exact ⟨0, Nat.zero_le _, rfl, fun k h => absurd h (Nat.not_lt_zero _), Below.refl _ _⟩
    case round =>
      obtain ⟨j, hj, rfl, hsame, hb⟩ := hrel
      have HB := Lib.hid hb; have HS := Lib.hid hsame
      clear hsame
      by_cases hlt : j < l.length
      · obtain ⟨g, o, hga, hgl, c0⟩ := (HU.out.below hb).at j hlt
        obtain ⟨g', o', hgb, hgl', d0⟩ := (HV.out.below hb).at j (by omega)
        subst hga hgb
        clear hb
        have i1 : (j : Int) < (l.length : Int) := by omega
        have i2 : (j : Int) < (m.length : Int) := by omega
        have hjm : j < m.length := by omega
        by_cases hx : l[j] = m[j]
        · have HX := Lib.hid hx
          rw [hx] at c0
          go_wp2_with fail
          go_quiet (fail)
          go_wp2
          go_roundw
          case rel =>
            refine ⟨j + 1, by omega, by go_num, fun k hk h1 h2 => ?_, below_drewN HB.out _⟩
            by_cases e : k = j
            · subst e; exact HX.out
            · exact HS.out k (by omega) h1 h2
          case measure => simp [intOf]; omega
        · have hne : ¬ l = m := fun e => hx (by subst e; rfl)
          go_wp2_with fail
          go_quiet (fail)
          go_wp2
          go_ret
          exact ⟨by rw [decide_eq_false hne]; rfl, below_drewN HB.out _⟩
      · clear hb
        have he : l = m := List.ext_getElem hlen fun k h1 h2 => HS.out k (by omega) h1 h2
        go_wp2
        go_ret
        exact ⟨by rw [decide_eq_true he]; rfl, HB.out⟩
  · have hli : ¬ (l.length : Int) = (m.length : Int) := by omega
    have hne : ¬ l = m := fun e => hlen (by rw [e])
    go_wp2
    go_ret
    exact ⟨by rw [decide_eq_false hne]; rfl, Below.refl _ _⟩
theorem small_putB {e : P.Ent} {l : P.Dic} (h : Small l) (hl : l.length < 2 ^ 20) (h1 : e.1.length ≤ 2 ^ 20) (h2 : e.2.length ≤ 2 ^ 30) : Small (P.putF e false l) := by
  refine ⟨by have := P.put_len e l; omega, fun x hx => ?_, fun x hx => ?_⟩
  · rcases (P.putF_mem e l x).1 hx with rfl | hx
    · exact h1
    · exact h.outs x (P.del_sub hx)
  · rcases (P.putF_mem e l x).1 hx with rfl | hx
    · exact h2
    · exact h.texts x (P.del_sub hx)
/-- a byte of the code, or one made of its length -/
theorem rAt (cv : Value) (i : Nat) (w : World) (hc : CodeIs w cv) (hi : i ≤ 4) :
    Calls Tryz.prog 40 #[cv, .int .i64 i] w fun e w' => ∃ k : Nat, e = .returned (.int .i64 k) ∧ w = w' := by
  obtain ⟨ad, n, cap, rfl, hn, hr⟩ := hc
  by_cases h : i < n
  · obtain ⟨g, o, hga, hgl, hcell⟩ := hr.resolve_left (by omega)
    subst hga
    obtain ⟨b, hb, c0⟩ := hcell i h
    have i1 : (i : Int) < (n : Int) := by omega
    clear hcell hr
    go_enter Tryz.func40, Tryz.ntmps40
    go_wp2
    go_ret
    exact ⟨b, rfl, rfl⟩
  · have i1 : ¬ (i : Int) < (n : Int) := by omega
    clear hr
    go_enter Tryz.func40, Tryz.ntmps40
    go_wp2
    go_ret
    exact ⟨⟨(i * 11 + 3 * n) % 256, ret_int (by omega)⟩, rfl⟩
theorem CodeIs.onB {w w' : World} {v : Value} (h : CodeIs w v) (hb : Below w.heap.size w w') : CodeIs w' v := by
  obtain ⟨ad, n, cap, rfl, hn, hc⟩ := h
  refine ⟨ad, n, cap, rfl, hn, hc.imp id ?_⟩
  rintro ⟨g, o, h1, h2, h3⟩
  refine ⟨g, o, h1, Nat.lt_of_lt_of_le h2 hb.size, fun j hj => ?_⟩
  obtain ⟨b, hb1, hb2⟩ := h3 j hj
  exact ⟨b, hb1, (hb.cell (p := ⟨g, o + j, none⟩) h2).trans hb2⟩
/-- the dictionaries and the outline of the law -/
structure BAB (D X : Nat) (w : World) (dv : Value) (l : P.Dic) (ov : Value) (o : List Int) (xv : Value) (xl : P.Dic) (v : World) : Prop where
  bd : DBx D dv v
  bx : DBx X xv v
  rd : EntR v dv l
  ro : IntR v ov o
  rx : EntR v xv xl
  bel : Below w.heap.size w v
  env : Env v
theorem BAB.below {D X : Nat} {w : World} {dv : Value} {l : P.Dic} {ov : Value} {o : List Int} {xv : Value} {xl : P.Dic} {v v' : World} (h : BAB D X w dv l ov o xv xl v) (hb : Below v.heap.size v v') : BAB D X w dv l ov o xv xl v' := by
  obtain ⟨h1, h2, h3, h4, h5, h6, h7⟩ := h
  exact ⟨h1.below hb, h2.below hb, h3.below hb, h4.below hb, h5.below hb, h6.trans (hb.mono h6.size), h7.below hb h7.size⟩
/-- the strokes that the law gathers -/
structure StO (w5 : World) (s : Value) (st : List Int) (v : World) : Prop where
  own : v.ownsRow w5.heap.size 3 1 s st.length (ints st)
  bel : Below w5.heap.size w5 v
  all : ∀ x ∈ st, P.stroke x = true
theorem StO.form {w5 v : World} {s : Value} {st : List Int} (h : StO w5 s st v) : ∃ a c, s = .slice a st.length c := by
  rcases h.own.2 with ⟨rfl, h0⟩ | ⟨g, cap, cur, hv, _⟩
  · exact ⟨none, 0, by rw [h0]⟩
  · exact ⟨_, cap, hv⟩
theorem StO.below {w5 v v' : World} {s : Value} {st : List Int} (h : StO w5 s st v) (hb : Below v.heap.size v v') : StO w5 s st v' :=
  ⟨owns_stand h.own (Below.chg hb fun _ => False) (fun _ _ h => h), h.bel.trans (hb.mono h.bel.size), h.all⟩
theorem StO.app {w5 v v' : World} {s s' : Value} {st o : List Int} (h : StO w5 s st v) (ho : ∀ x ∈ o, P.stroke x = true)
    (hown : v'.ownsRow w5.heap.size 3 1 s' (st.length + o.length) (ints st ++ ints o)) (hgr : v.grownBy v' s.ownBlock) : StO w5 s' (st ++ o) v' := by
  refine ⟨by rw [List.length_append, show ints (st ++ o) = ints st ++ ints o by simp [ints]]; exact hown, h.bel.trans ((Chg.grown hgr).below h.bel.size (fun b e => (World.ownsRow.lt h.own b e).1)), fun x hx => ?_⟩
  rcases List.mem_append.1 hx with hx | hx
  · exact h.all x hx
  · exact ho x hx
theorem law_briefAdded (v : Value) (w : World) (hc : CodeAny w v) (hE : Env w) :
    Calls Tryz.prog 5 #[v] w fun e w' => e = .returned (.bool true) ∧ Below w.heap.size w w' := by
  obtain ⟨i0, hi, hz0, hz1, hz2⟩ := info_parts info_int
  obtain ⟨ad, n, cap, rfl, hn, hr⟩ := hc
  have HE := Lib.hid hE
  clear hE
  go_enter Tryz.func5, Tryz.ntmps5
  go_wp2_with fail
  refine (rBig _ n ad cap rfl hn _).mono ?_
  rintro e w' ⟨rfl, rfl⟩
  cases hbig : decide (65536 < n)
  · have hn2 : n ≤ 65536 := by have := of_decide_eq_false hbig; omega
    have HCD := Lib.hid (show CodeIs w (.slice ad n cap) from ⟨ad, n, cap, rfl, hn2, hr⟩)
    clear hbig hr
    go_wp2_with fail
    refine (drawAddBrief _ _ HCD.out).mono ?_
    rintro e w1 ⟨l, o, t, u, ov, rfl, hdl, hol, htl, hu, hov, hb⟩
    have HDL := Lib.hid hdl
    have HSM := Lib.hid hdl.small
    have hba : Below w1.heap.size w1 (w1.alloc (.cells #[u] 26)) := (Below.refl _ _).alloc (Nat.le_refl _) _
    have HB1 := Lib.hid (hb.trans (hba.mono hb.size))
    have HE1 := Lib.hid (HE.out.below HB1.out HE.out.size)
    have HD1 := Lib.hid (show DBx w1.heap.size u (w1.alloc (.cells #[u] 26)) from DBx.new _ _ _)
    have HU1 := Lib.hid (hu.below hba); have HV1 := Lib.hid (hov.below hba)
    obtain ⟨da, dc, rfl, _, _⟩ := hu
    obtain ⟨oa, oc, rfl, ⟨_, hoc⟩, _⟩ := hov
    clear hdl hba hb HE
    obtain ⟨d0, _⟩ := HD1.out
    go_wp2_with fail
    refine (impl_addBrief _ _ l o t _ HU1.out HV1.out HSM.out (by omega) (by omega) HE1.out).mono ?_
    rintro e w2 ⟨x2, rfl, hO, hb⟩
    have HBF := Lib.hid (fun h => P.brief_facts (o := o) (t := t) (l := l) h)
    generalize hok : P.briefOk o t l = ok at *
    have HOK := Lib.hid hok; clear hok
    generalize hk : P.kept ok (P.putF (o, t) false l) = xl at *
    have HK := Lib.hid hk; clear hk
    have hba : Below w2.heap.size w2 (w2.alloc (.cells #[x2] 26)) := (Below.refl _ _).alloc (Nat.le_refl _) _
    have hb2 := hb.trans (hba.mono hb.size)
    have HG2 := Lib.hid (show BAB w1.heap.size w2.heap.size w (.slice da l.length dc) l (.slice oa o.length oc) o x2 xl (w2.alloc (.cells #[x2] 26)) from
      ⟨HD1.out.below hb2, DBx.new _ _ _, HU1.out.below hb2, HV1.out.below hb2, (Ents.read hO).below hba, HB1.out.trans (hb2.mono HB1.out.size), HE1.out.below hb2 HE1.out.size⟩)
    obtain ⟨xa, xc, rfl, _, _⟩ := Ents.read hO
    clear hO hb hba hb2 d0 HB1 HE1 HD1 HU1 HV1
    obtain ⟨d0, _⟩ := HG2.out.bd
    go_wp2_with fail
    refine (spec_addBrief _ _ l o t _ HG2.out.rd HG2.out.ro HSM.out (by omega) (by omega)).mono ?_
    rintro e w3 ⟨x3, rfl, hO, hb⟩
    rw [HOK.out, HK.out] at hO
    rw [HOK.out]
    have hba : Below w3.heap.size w3 (w3.alloc (.cells #[x3] 26)) := (Below.refl _ _).alloc (Nat.le_refl _) _
    have hb2 := hb.trans (hba.mono hb.size)
    have HG3 := Lib.hid (HG2.out.below hb2)
    have HY3 := Lib.hid (show DBx w3.heap.size x3 (w3.alloc (.cells #[x3] 26)) from DBx.new _ _ _)
    have HRY3 := Lib.hid ((Ents.read hO).below hba)
    obtain ⟨ya, yc, rfl, _, _⟩ := Ents.read hO
    clear hO hb hba hb2 d0 HG2
    obtain ⟨d0, _⟩ := HG3.out.bd
    go_wp2_with fail
    refine (impl_prefixConflicts _ _ l o _ HG3.out.rd HG3.out.ro HSM.out HG3.out.env).mono ?_
    rintro e w4 ⟨c4, rfl, hO, hb⟩
    have HKC0 := Lib.hid (show P.confl o l = [] → P.keptO (P.freeOk o l) (P.confl o l) = [] from fun h => by rw [h]; cases P.freeOk o l <;> rfl)
    generalize hfr : P.freeOk o l = fr at *
    have HFR := Lib.hid hfr; clear hfr
    generalize hkc : P.keptO fr (P.confl o l) = kc at *
    have HKC := Lib.hid hkc; clear hkc
    have HG4 := Lib.hid (HG3.out.below hb); have HY4 := Lib.hid (HY3.out.below hb); have HRY4 := Lib.hid (HRY3.out.below hb)
    have HC4 := Lib.hid (OutsO.read hO)
    obtain ⟨ca, cc, rfl, _, _⟩ := OutsO.read hO
    clear hO hb d0 HG3 HY3 HRY3
    obtain ⟨d0, _⟩ := HG4.out.bd
    go_wp2_with fail
    refine (spec_prefixConflicts _ _ l o _ HG4.out.rd HG4.out.ro HSM.out).mono ?_
    rintro e w5 ⟨c5, rfl, hO, hb⟩
    rw [HFR.out, HKC.out] at hO
    rw [HFR.out]
    have HG5 := Lib.hid (HG4.out.below hb); have HY5 := Lib.hid (HY4.out.below hb); have HRY5 := Lib.hid (HRY4.out.below hb); have HC5 := Lib.hid (HC4.out.below hb)
    have HM5 := Lib.hid (OutsO.read hO)
    obtain ⟨ma, mc, rfl, _, _⟩ := OutsO.read hO
    clear hO hb d0 HG4 HY4 HRY4 HC4
    obtain ⟨x0, _⟩ := HG5.out.bx
    obtain ⟨y0, _⟩ := HY5.out
    go_wp2_with fail
    refine (rDict _ _ xl _ HG5.out.rx HRY5.out).mono ?_
    rintro e w6 ⟨rfl, hb⟩
    have HG6 := Lib.hid (HG5.out.below hb); have HC6 := Lib.hid (HC5.out.below hb); have HM6 := Lib.hid (HM5.out.below hb)
    clear hb x0 y0 HG5 HY5 HRY5 HC5 HM5
    go_wp2_with fail
    refine (rLists _ _ kc _ HC6.out HM6.out).mono ?_
    rintro e w7 ⟨rfl, hb⟩
    have HG7 := Lib.hid (HG6.out.below hb)
    clear hb HG6 HC6 HM6
    cases ok
    · go_wp2
      go_ret
      exact ⟨rfl, HG7.out.bel⟩
    · obtain ⟨hdl, hol2, hcf, hin⟩ := HBF.out rfl
      have hkc : kc = [] := HKC0.out hcf
      subst hkc
      have hxl : xl = P.putF (o, t) false l := HK.out.symm
      subst hxl
      have HDC := Lib.hid hdl; have HIN := Lib.hid hin; have HOL := Lib.hid hol2
      have HSX := Lib.hid (show Small (P.putF (o, t) false l) from small_putB HSM.out (by have := P.dic_len hdl; omega) (by simp; omega) (by simp; omega))
      clear hdl hol2 hcf hin
      have HCD7 := Lib.hid (show CodeIs w7 (.slice ad n cap) by
        obtain ⟨ad', n', cap', he, hn, hc⟩ := HCD.out
        refine ⟨ad', n', cap', he, hn, hc.imp id ?_⟩
        rintro ⟨g, o, h1, h2, h3⟩
        refine ⟨g, o, h1, Nat.lt_of_lt_of_le h2 HG7.out.bel.size, fun j hj => ?_⟩
        obtain ⟨b, hb1, hb2⟩ := h3 j hj
        exact ⟨b, hb1, (HG7.out.bel.cell (p := ⟨g, o + j, none⟩) h2).trans hb2⟩)
      have HST := Lib.hid (show StO w7 (.slice (some ⟨w7.heap.size, 0, none⟩) 0 0) [] (w7.alloc (.cells #[] 3)) from
        ⟨by have h := World.ownsRow_lit (base := w7.heap.size) (e := 3) (size := 1) w7 #[] 0 (Nat.le_refl _) (Nat.zero_le _) (by simp); simpa using h, (Below.refl _ _).alloc (Nat.le_refl _) _, fun x hx => by cases hx⟩)
      clear HCD HKC0 HBF
      go_wp2_with fail
      go_loopw [14, 15] (fun s i wr => ∃ (st : List Int) (j : Nat), j ≤ 4 ∧ st.length ≤ 6 * j ∧ i = .int .i64 j ∧ StO w7 s st wr) (fun _ i _ => 4 - (intOf i).toNat)
      case atStart => exact ⟨[], 0, by omega, by simp, rfl, HST.out⟩
      case round =>
        obtain ⟨st, j, hj4, hst6, rfl, hso⟩ := hrel
        have HSO := Lib.hid hso
        obtain ⟨sa, sc, rfl⟩ := hso.form
        have HGR := Lib.hid (HG7.out.below hso.bel)
        clear hso
        obtain ⟨d0, _⟩ := HGR.out.bd
        by_cases hq : j < 4 ∧ j < l.length
        · obtain ⟨hq1, hq2⟩ := hq
          have i1 : (j : Int) < 4 := by omega
          have i2 : (j : Int) < (l.length : Int) := by omega
          have hl0 : 0 < l.length := by omega
          have hdw := (Below.refl wr.heap.size wr).drew
          have HGW := Lib.hid (HGR.out.below hdw); have HSW := Lib.hid (HSO.out.below hdw)
          have HCW := Lib.hid (CodeIs.onB HCD7.out (HSW.out.bel))
          have HS := Lib.hid (show wr.drew.cell? ⟨w1.heap.size, 0, none⟩ = some (.slice da l.length dc) from HGW.out.bd.1)
          clear hdw
          go_upto_region 16 with fail
          clear d0
          refine wp_region_held_drew (S := fun v => v.cell? ⟨w1.heap.size, 0, none⟩ = some (.slice da l.length dc)) (by kernel_rfl) HS.out (fun hS0 => ?_)
          generalize wr.drew = v0 at *
          refine wpAnyH_take (i := 0) (v := .pointer (some ⟨w1.heap.size, 0, none⟩)) rfl (by kernel_rfl) (by kernel_rfl) (by kernel_rfl) (fun _ _ _ h => h) (Or.inl ⟨by rfl, fun z hz => ?_⟩) hS0 ?_
          · obtain z1 := hz
            go_simp
          try simp only [qA, qB, Act.put, qD, qE, qF]
          refine wpAnyH_take (i := 1) (v := .slice da l.length dc) rfl (by kernel_rfl) (by kernel_rfl) (by kernel_rfl) (fun _ _ _ h => h) (Or.inl ⟨by rfl, fun z hz => ?_⟩) hS0 ?_
          · obtain z1 := hz
            go_simp
          try simp only [qA, qB, qC, Act.put, qD, qE, qF]
          refine wpAnyH_take (i := 2) (v := .slice ad n cap) rfl (by kernel_rfl) (by kernel_rfl) (by kernel_rfl) (fun _ _ _ h => h) (Or.inl ⟨by rfl, fun z hz => ?_⟩) hS0 ?_
          · obtain z1 := hz
            go_simp
          try simp only [qA, qB, qC, Act.put, qD, qE, qF]
          refine wpAnyH_take (i := 3) (v := .int .i64 (j : Int)) rfl (by kernel_rfl) (by kernel_rfl) (by kernel_rfl) (fun _ _ _ h => h) (Or.inl ⟨by rfl, fun z hz => ?_⟩) hS0 ?_
          · obtain z1 := hz
            go_simp
          try simp only [qA, qB, qC, Act.put, qD, qE, qF]
          refine wpAnyH_take (i := 5) (v := .pointer (some ⟨w1.heap.size, 0, none⟩)) rfl (by kernel_rfl) (by kernel_rfl) (by kernel_rfl) (fun _ _ _ h => h) (Or.inl ⟨by rfl, fun z hz => ?_⟩) hS0 ?_
          · obtain z1 := hz
            go_simp
          try simp only [qA, qB, qC, Act.put, qD, qE, qF]
          refine wpAnyH_take (i := 6) (v := .slice da l.length dc) rfl (by kernel_rfl) (by kernel_rfl) (by kernel_rfl) (fun _ _ _ h => h) (Or.inl ⟨by rfl, fun z hz => ?_⟩) hS0 ?_
          · obtain z1 := hz
            go_simp
          try simp only [qA, qB, qC, Act.put, qD, qE, qF]
          refine wpAnyH_take (i := 7) (v := .int .i64 (l.length : Int)) rfl (by kernel_rfl) (by kernel_rfl) (by kernel_rfl) (fun _ _ _ h => h) (Or.inl ⟨by rfl, fun z hz => ?_⟩) hS0 ?_
          · obtain z1 := hz
            go_simp
          try simp only [qA, qB, qC, Act.put, qD, qE, qF]
          refine wpAnyH_ready (rs := [4]) (by kernel_rfl) (by simp) ?_
          refine AllReadyH.cons rfl (fun K hK => ?_) AllReadyH.nil
          go_simp
          refine (rAt _ j _ HCW.out (by omega)).mono ?_
          rintro e v1 ⟨k, rfl, rfl⟩
          refine hK.out _ _ hS0 (fun hS1 => ?_)
          clear hK K
          obtain ⟨q, hqk⟩ : ∃ q, k % l.length = q := ⟨_, rfl⟩
          have hql : q < l.length := by rw [← hqk]; exact Nat.mod_lt _ hl0
          have e1 : (k : Int) % (l.length : Int) = (q : Int) := by rw [← hqk]; simp
          have e2 : Int.tmod (k : Int) (l.length : Int) = (q : Int) := by rw [← e1]; exact Int.tmod_eq_emod_of_nonneg (by omega)
          have e3 : ¬ (l.length : Int) = 0 := by omega
          have e4 : ¬ l = [] := fun h => by rw [h] at hl0; exact absurd hl0 (Nat.lt_irrefl _)
          obtain ⟨g, p, hga, hgl, x, c0, c1, hx⟩ := HGW.out.rd.at q hql
          subst hga
          have HXX := Lib.hid hx
          have HOE := Lib.hid (P.dic_outline HDC.out (List.getElem_mem hql))
          obtain ⟨xd, xc, rfl, _, _⟩ := id hx
          generalize l[q] = en at *
          obtain ⟨eo, et⟩ := en
          simp only at HXX HOE c0
          have i3 : (q : Int) < (l.length : Int) := by omega
          clear hx hqk
          try simp only [qA, qB, qC, Act.put, qD, qE, qF]
          refine wpAnyH_take (i := 8) (v := .int .i64 (q : Int)) rfl (by kernel_rfl) (by kernel_rfl) (by kernel_rfl) (fun _ _ _ h => h) (Or.inl ⟨by rfl, fun z hz => ?_⟩) hS1 ?_
          · obtain z1 := hz
            go_simp
          try simp only [qA, qB, qC, Act.put, qD, qE, qF]
          refine wpAnyH_take (i := 9) (v := .pointer (some ⟨g, p + q * 2, none⟩)) rfl (by kernel_rfl) (by kernel_rfl) (by kernel_rfl) (fun _ _ _ h => h) (Or.inl ⟨by rfl, fun z hz => ?_⟩) hS1 ?_
          · obtain z1 := hz
            go_simp
          try simp only [qA, qB, qC, Act.put, qD, qE, qF]
          refine wpAnyH_take (i := 10) (v := .pointer (some ⟨g, p + q * 2, none⟩)) rfl (by kernel_rfl) (by kernel_rfl) (by kernel_rfl) (fun _ _ _ h => h) (Or.inl ⟨by rfl, fun z hz => ?_⟩) hS1 ?_
          · obtain z1 := hz
            go_simp
          try simp only [qA, qB, qC, Act.put, qD, qE, qF]
          refine wpAnyH_ready (rs := [11]) (by kernel_rfl) (by simp) ?_
          refine AllReadyH.cons rfl (fun K hK => ?_) AllReadyH.nil
          go_simp
          refine hK.out _ _ hS1 (fun hS2 => ?_)
          clear hK K
          try simp only [qA, qB, qC, Act.put, qD, qE, qF]
          refine wpAnyH_take (i := 12) (v := .slice xd eo.length xc) rfl (by kernel_rfl) (by kernel_rfl) (by kernel_rfl) (fun _ _ _ h => h) (Or.inl ⟨by rfl, fun z hz => ?_⟩) hS2 ?_
          · obtain z1 := hz
            go_simp
          try simp only [qA, qB, qC, Act.put, qD, qE, qF]
          refine wpAnyH_done (by kernel_rfl) ?_ _
          clear hS0 hS1 hS2 HS
          have HSRC := Lib.hid (src_of_ints HXX.out)
          obtain ⟨hoe6, hoes⟩ := P.outline_strokes HOE.out
          go_wp2_with (at_builtin; refine wpList_append_src rfl _ _ 27 rfl w7.heap.size 3 i0 (.int .i64 0) 1 8 Tryz.underlying27 hi hz0 hz1 hz2 rfl (by decide) _ st.length (ints st) rfl HSW.out.own _ eo.length (ints eo) rfl HSRC.out ?_ ?_ ?_ ?_)
          · unfold maxLen; omega
          · omega
          · exact HSW.out.bel.size
          intro s4 w8 hown hgr _
          have HS8 := Lib.hid (HSW.out.app hoes hown hgr)
          obtain ⟨sa8, sc8, rfl⟩ := HS8.out.form
          clear hown hgr HSW HSRC HGW HCW
          go_wp2
          go_roundw
          case rel => exact ⟨st ++ eo, j + 1, by omega, by rw [List.length_append]; omega, by go_num, HS8.out⟩
          case measure => simp [intOf]; omega
        · have hst24 : st.length ≤ 24 := by omega
          have HSZ := Lib.hid hst24
          clear hst6
          have hcs : (¬ (j : Int) < 4) ∨ ((j : Int) < 4 ∧ ¬ (j : Int) < (l.length : Int)) := by omega
          clear hq
          have HOL6 := Lib.hid (P.outline_strokes HOL.out)
          have HO1 := Lib.hid (show 1 ≤ o.length by have h := HOL.out; unfold P.outline at h; simp only [Bool.and_eq_true, decide_eq_true_eq] at h; omega)
          have HSL := Lib.hid (P.slist_of (by omega) HSO.out.all)
          have HIS := Lib.hid (Ints.read (ints_of_owns HSO.out.own (by omega)))
          rcases hcs with i1 | ⟨i1, i2⟩
          all_goals
            go_wp2_with fail
            go_loopw [17] (fun i wx => ∃ b : Nat, b ≤ st.length + 1 ∧ i = .int .i64 b ∧ (∀ k, k < b → (st.drop k).take o.length ≠ o) ∧ Below wr.heap.size wr wx) (fun i _ => st.length + 1 - (intOf i).toNat)
            case atStart => exact ⟨0, by omega, rfl, fun k h => absurd h (Nat.not_lt_zero _), Below.refl _ _⟩
            case round =>
              obtain ⟨b, hbs, rfl, hnw, hb⟩ := hrel
              have HNW := Lib.hid hnw; have HB := Lib.hid hb
              have HGX := Lib.hid (HGR.out.below hb); have HIX := Lib.hid (HIS.out.below hb)
              have ho1 := HO1.out
              have ho6 := HOL6.out.1
              clear hnw hb d0
              by_cases hlt : b + o.length ≤ st.length
              · obtain ⟨g, p, hga, _⟩ := HIX.out.at 0 (by omega)
                subst hga
                have hsc : st.length ≤ sc := by
                  obtain ⟨_, _, he, hh, _⟩ := HIX.out
                  injection he with _ _ he
                  omega
                have j1 : (b : Int) + (o.length : Int) ≤ (st.length : Int) := by omega
                have j2 : (b : Int) + (o.length : Int) ≤ (sc : Int) := by omega
                have j3 : ¬ sc = b := by omega
                have j4 : IntKind.i64.wrap ((b : Int) + (o.length : Int)) = (b : Int) + (o.length : Int) := by rw [IntKind.wrap_i64]; omega
                have j5 : (0 : Int) ≤ (b : Int) + (o.length : Int) := by omega
                have j6 : b ≤ ((b : Int) + (o.length : Int)).toNat := by omega
                have j7 : ((b : Int) + (o.length : Int)).toNat - b = o.length := by omega
                have HCT := Lib.hid (IntR.cut HIX.out hlt (sc - b) (by omega))
                go_wp2_with fail
                refine (rIntsU _ _ ((st.drop b).take o.length) o _ HCT.out HGX.out.ro).mono ?_
                rintro e w9 ⟨rfl, hb9⟩
                have HB9 := Lib.hid (HB.out.trans (hb9.mono HB.out.size)); have HG9 := Lib.hid (HGX.out.below hb9)
                clear hb9 HCT
                by_cases heq : (st.drop b).take o.length = o
                · rw [decide_eq_true heq]
                  clear heq
                  go_wp2
                  go_ret
                  exact ⟨rfl, HG9.out.bel⟩
                · rw [decide_eq_false heq]
                  have HQ := Lib.hid heq
                  clear heq
                  go_wp2
                  go_roundw
                  case rel => exact ⟨b + 1, by omega, by go_num, fun k hk => by
                    by_cases e : k = b
                    · subst e; exact HQ.out
                    · exact HNW.out k (by omega), HB9.out⟩
                  case measure => simp [intOf]; omega
              · have j1 : ¬ (b : Int) + (o.length : Int) ≤ (st.length : Int) := by omega
                have j4 : IntKind.i64.wrap ((b : Int) + (o.length : Int)) = (b : Int) + (o.length : Int) := by rw [IntKind.wrap_i64]; omega
                have HNO := Lib.hid (show P.nowhere o st from fun k hk => HNW.out k (by omega))
                have HSEG := Lib.hid (P.seg_put (e := (o, t)) (P.pair_of_dic HDC.out) HNO.out)
                obtain ⟨hdx, _⟩ := P.ins_dic HIN.out
                have HLK := Lib.hid (P.ins_look HIN.out)
                have Q1 := Lib.hid (show (P.dic l && P.slist st) = true by rw [HDC.out, HSL.out]; rfl)
                have Q2 := Lib.hid (show (P.dic (P.putF (o, t) false l) && P.slist st) = true by rw [hdx, HSL.out]; rfl)
                clear hdx
                obtain ⟨d0, _⟩ := HGX.out.bd
                go_wp2_with fail
                refine (impl_segment _ _ l st _ HGX.out.rd HIX.out HSM.out HGX.out.env).mono ?_
                rintro e wA ⟨pa, rfl, hp, hb⟩
                rw [Q1.out] at hp ⊢
                have HPA := Lib.hid (show PcR wA pa (P.segA l st) from hp)
                have HGA := Lib.hid (HGX.out.below hb); have HIA := Lib.hid (HIX.out.below hb)
                clear hp hb d0 HGX HIX
                obtain ⟨aa, ac, rfl, _, _⟩ := HPA.out
                obtain ⟨x0, _⟩ := HGA.out.bx
                go_wp2_with fail
                refine (impl_segment _ _ _ st _ HGA.out.rx HIA.out HSX.out HGA.out.env).mono ?_
                rintro e wB ⟨pb, rfl, hp, hb⟩
                rw [Q2.out] at hp ⊢
                have HPB := Lib.hid (show PcR wB pb (P.segA l st) by rw [← HSEG.out]; exact hp)
                have HGB := Lib.hid (HGA.out.below hb); have HPA2 := Lib.hid (HPA.out.below hb)
                clear hp hb x0 HGA HIA HPA
                obtain ⟨ba, bc, rfl, _, _⟩ := HPB.out
                obtain ⟨x0, _⟩ := HGB.out.bx
                go_wp2_with fail
                refine (impl_lookup _ _ _ o _ HGB.out.rx HGB.out.ro HSX.out HGB.out.env).mono ?_
                rintro e wC ⟨rfl, hb⟩
                rw [HLK.out]
                have HGC := Lib.hid (HGB.out.below hb); have HPA3 := Lib.hid (HPA2.out.below hb); have HPB3 := Lib.hid (HPB.out.below hb)
                clear hb x0 HGB HPA2 HPB
                go_wp2_with fail
                refine (rPieces _ _ (P.segA l st) _ HPA3.out HPB3.out).mono ?_
                rintro e wD ⟨rfl, hb⟩
                have HGD := Lib.hid (HGC.out.below hb)
                clear hb HGC HPA3 HPB3
                go_wp2
                go_ret
                exact ⟨rfl, HGD.out.bel⟩
  · have hn2 := of_decide_eq_true hbig
    go_wp2
    go_ret
    exact ⟨rfl, Below.refl _ _⟩
end Go.Proofs.YtngbkdlicknmhaaGreatDoor
