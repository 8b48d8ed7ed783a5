/- Walks: folds (reference): the look-up with folds. -/
import Derived.Deep.DeepCutAuto
import Derived.Deep.RegionHeld
import Derived.Test.YtmlklnimoknojaaGreatDoorFoldS3
import Derived.Test.YtmlklnimoknojaaGreatDoorOutD
namespace Go.Proofs.YtmlklnimoknojaaGreatDoor
open Go Go.RowKit
set_option maxHeartbeats 2000000
set_option maxRecDepth 100000
theorem unf_len {k : Nat} {o r : List Int} (h : P.unf (k : Int) o = some r) : 0 < r.length := by
  unfold P.unf at h
  split at h
  · injection h with h
    rw [← h, List.length_append]; simp
  · cases h
theorem spec_lookupFolded (dv fv ov : Value) (d : P.Dic) (l : P.Folds) (o : List Int) (w : World) (hd : EntR w dv d) (hf : FldR w fv l) (ho : IntR w ov o) (hs : ∀ e ∈ d, e.2.length ≤ 2 ^ 29) (hdd : P.dic d = true) (hol : P.outline o = true) (hfo : P.foldsOk l = true) (hft : ∀ f ∈ l, f.2.length ≤ 2 ^ 30) :
    Calls Tryz.prog 85 #[.agg #[dv], fv, ov] w (LkPost (P.lookF d l o) w) := by
  have hb0 : Below w.heap.size w (w.alloc (.cells #[dv] 26)) := (Below.refl _ _).alloc (Nat.le_refl _) _
  have HD := Lib.hid hd; have HFR := Lib.hid hf; have HO := Lib.hid ho; have HB0 := Lib.hid hb0
  have HX := Lib.hid (DBx.new dv 26 w)
  have HOL := Lib.hid hol; have HS := Lib.hid hs; have HDD := Lib.hid hdd; have HFK := Lib.hid hfo; have HFT := Lib.hid hft
  have HFO := Lib.hid (show ∀ f ∈ l, P.fold f = true by unfold P.foldsOk at hfo; simp only [Bool.and_eq_true, List.all_eq_true] at hfo; exact hfo.2.1)
  clear hb0 hs hol hfo hdd hft
  obtain ⟨ad, cap, rfl, _, _⟩ := hd
  obtain ⟨oa, oc, rfl, _, _⟩ := ho
  obtain ⟨fa, fc, rfl, ⟨hl45, _⟩, _, _⟩ := hf
  go_enter Tryz.func85, Tryz.ntmps85
  go_wp2_with fail
  refine (l6Good _ d _ (HD.out.below HB0.out) (fun e he => by have := HS.out e he; omega)).mono ?_
  rintro e w1 ⟨rfl, hb⟩
  rw [HDD.out]
  have HB1 := Lib.hid (HB0.out.trans (hb.mono HB0.out.size)); have HX1 := Lib.hid (HX.out.below hb)
  clear hb HB0 HX
  go_wp2_with fail
  refine (spec_isValidFolds _ l _ (HFR.out.below HB1.out) HFT.out).mono ?_
  rintro e w2 ⟨rfl, hb⟩
  rw [HFK.out]
  have HB2 := Lib.hid (HB1.out.trans (hb.mono HB1.out.size)); have HX2 := Lib.hid (HX1.out.below hb)
  clear hb HB1 HX1
  go_wp2_with fail
  refine (l4Good _ o _ (HO.out.below HB2.out)).mono ?_
  rintro e w3 ⟨rfl, rfl⟩
  rw [HOL.out]
  obtain ⟨k0, _⟩ := HX2.out
  go_wp2_with fail
  refine (l6Find _ _ d o _ (HD.out.below HB2.out) (HO.out.below HB2.out)).mono ?_
  rintro e w3 ⟨rfl, hb⟩
  have HB1 := Lib.hid (HB2.out.trans (hb.mono HB2.out.size)); have HX1 := Lib.hid (HX2.out.below hb)
  clear hb HB2 HX2 k0
  have HLH := Lib.hid (fun h => P.lookF_has (d := d) (l := l) (o := o) h); have HLN := Lib.hid (fun h => P.lookF_not (d := d) (l := l) (o := o) h)
  obtain ⟨q, hq⟩ : ∃ q, P.hasE o d = q := ⟨_, rfl⟩
  have HQ := Lib.hid hq
  obtain ⟨tx, htx⟩ : ∃ tx, P.textAt o d = tx := ⟨_, rfl⟩
  rw [hq, htx]
  have HTX := Lib.hid htx
  clear hq htx
  cases q
  · have HL := Lib.hid (HLN.out HQ.out)
    clear HLH HLN HTX
    go_wp2_with fail
    go_loopw [11] (fun i wr => ∃ j : Nat, j ≤ l.length ∧ i = .int .i64 j ∧ P.lookG d o 0 l = P.lookG d o j (l.drop j) ∧ DBx w.heap.size (.slice ad d.length cap) wr ∧ Below w.heap.size w wr) (fun i _ => l.length - (intOf i).toNat)
    case atStart => exact ⟨0, by omega, rfl, rfl, HX1.out, HB1.out⟩
    case round =>
      clear HX1 HB1
      obtain ⟨j, hj, rfl, hlk, hbx, hb⟩ := hrel
      have HLK := Lib.hid hlk; have HBX := Lib.hid hbx; have HB := Lib.hid hb
      clear hlk hbx
      by_cases hlt : j < l.length
      · have i1 : (j : Int) < (l.length : Int) := by omega
        obtain ⟨g, p, hga, hgl, c0, c1⟩ := (HFR.out.below hb).at j hlt
        subst hga
        have HFJ := Lib.hid (HFO.out l[j] (List.getElem_mem hlt))
        have HHIT := Lib.hid (fun x (h : P.hit d o l[j] = some x) => P.lookG_hit hlt h)
        have HMIS := Lib.hid (fun (h : P.hit d o l[j] = none) => P.lookG_miss hlt h)
        have HHD := Lib.hid (show P.hit d o l[j] = (P.unf l[j].1 o).bind fun r => if P.hasE r d then P.foldT (P.textAt r d) l[j] else none from rfl)
        generalize l[j] = en at *
        obtain ⟨k, s⟩ := en
        obtain ⟨k, rfl, hk1, hk2, hs8⟩ := P.fold_key HFJ.out
        simp only at HHD c0 c1
        have HKK := Lib.hid (fun r (h : P.unf (k : Int) o = some r) => unf_len h)
        have HG := Lib.hid hgl
        go_wp2_with fail
        refine (l10Unfold k s _ o _ (HO.out.below HB.out) HOL.out hk2).mono ?_
        rintro e w2 ⟨x, rfl, hI, hb2⟩
        have HB3 := Lib.hid (HB.out.trans (hb2.mono HB.out.size)); have HX3 := Lib.hid (HBX.out.below hb2)
        have C0 := Lib.hid ((hb2.cell (p := ⟨g, p + j * 2, none⟩) hgl).trans c0); have C1 := Lib.hid ((hb2.cell (p := ⟨g, p + j * 2 + 1, none⟩) hgl).trans c1)
        have HG2 := Lib.hid (Nat.lt_of_lt_of_le hgl hb2.size)
        have HI := Lib.hid (Ints.read hI)
        clear hI hb hb2 c0 c1 hgl HB HBX HG
        obtain ⟨r, hr⟩ : ∃ r, P.unf (k : Int) o = r := ⟨_, rfl⟩
        have HR := Lib.hid hr
        rw [hr] at HI
        clear hr
        obtain ⟨xa, xc, rfl, _, _⟩ := HI.out
        cases r with
        | none =>
          have HM := Lib.hid (HMIS.out (by rw [HHD.out, HR.out]; rfl))
          go_wp2
          go_roundw
          case rel => exact ⟨j + 1, by omega, by go_num, by rw [HLK.out, HM.out], HX3.out, HB3.out⟩
          case measure => simp [intOf]; omega
        | some r =>
          have hrl := HKK.out r HR.out
          have hrl2 : ¬ r.length = 0 := by omega
          have hrl3 : ¬ (r.length : Int) = 0 := by omega
          have hrl4 : ¬ r = [] := fun e => by rw [e] at hrl; exact absurd hrl (Nat.lt_irrefl _)
          simp only [Option.getD_some] at HI ⊢
          obtain ⟨b0, _⟩ := HX3.out
          go_wp2_with fail
          refine (l6Find _ _ d r _ (HD.out.below HB3.out) HI.out).mono ?_
          rintro e w3 ⟨rfl, hb⟩
          have HB4 := Lib.hid (HB3.out.trans (hb.mono HB3.out.size)); have HX4 := Lib.hid (HX3.out.below hb); have D1 := Lib.hid (HB4.out.size)
          have C04 := (hb.cell (p := ⟨g, p + j * 2, none⟩) HG2.out).trans C0.out; have C14 := (hb.cell (p := ⟨g, p + j * 2 + 1, none⟩) HG2.out).trans C1.out
          clear hb b0 HB3 HX3 HI hrl hrl2 hrl3 hrl4
          have HTL := Lib.hid (textAt_len (o := r) HS.out)
          obtain ⟨q, hq⟩ : ∃ q, P.hasE r d = q := ⟨_, rfl⟩
          have HQ2 := Lib.hid hq
          obtain ⟨tx, htx⟩ : ∃ tx, P.textAt r d = tx := ⟨_, rfl⟩
          have HT2 := Lib.hid htx
          rw [htx] at HTL
          rw [hq, htx]
          clear hq htx
          cases q
          · have HM := Lib.hid (HMIS.out (by rw [HHD.out, HR.out]; show (if P.hasE r d then P.foldT (P.textAt r d) ((k : Int), s) else none) = _; rw [HQ2.out]; rfl))
            go_wp2
            go_roundw
            case rel => exact ⟨j + 1, by omega, by go_num, by rw [HLK.out, HM.out], HX4.out, HB4.out⟩
            case measure => simp [intOf]; omega
          · go_wp2_with fail
            refine (l10Text tx (k : Int) s _ HTL.out HFJ.out).mono ?_
            rintro e w4 ⟨rfl, hb⟩
            have HB5 := Lib.hid (HB4.out.trans (hb.mono HB4.out.size)); have HX5 := Lib.hid (HX4.out.below hb)
            clear hb HB4 HX4 C04 C14
            have hhit : P.hit d o ((k : Int), s) = P.foldT tx ((k : Int), s) := by rw [HHD.out, HR.out]; show (if P.hasE r d then P.foldT (P.textAt r d) ((k : Int), s) else none) = _; rw [HQ2.out, HT2.out]; rfl
            have HHH := Lib.hid hhit
            clear hhit
            obtain ⟨y, hy⟩ : ∃ y, P.foldT tx ((k : Int), s) = y := ⟨_, rfl⟩
            rw [hy] at HHH
            rw [hy]
            clear hy
            cases y with
            | none =>
              have HM := Lib.hid (HMIS.out HHH.out)
              go_wp2
              go_roundw
              case rel => exact ⟨j + 1, by omega, by go_num, by rw [HLK.out, HM.out], HX5.out, HB5.out⟩
              case measure => simp [intOf]; omega
            | some y =>
              have HM := Lib.hid (HHIT.out y HHH.out)
              simp only [Option.isSome_some, Option.getD_some]
              go_wp2
              go_ret3
              exact ⟨by rw [HL.out, HLK.out, HM.out]; rfl, HB5.out⟩
      · have HEND := Lib.hid (P.lookG_end (d := d) (o := o) (l := l) (j := j) (by omega))
        clear hb
        go_wp2
        go_ret3
        exact ⟨by rw [HL.out, HLK.out, HEND.out]; rfl, HB.out⟩
  · have HL := Lib.hid (HLH.out HQ.out)
    clear HLN
    go_wp2
    go_ret3
    exact ⟨by rw [HL.out, HTX.out]; rfl, HB1.out⟩
end Go.Proofs.YtmlklnimoknojaaGreatDoor
