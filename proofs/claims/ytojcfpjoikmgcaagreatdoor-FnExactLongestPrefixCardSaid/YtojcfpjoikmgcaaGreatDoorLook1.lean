/- Walks: an outline looked up in a dictionary and in a stack of layers (reference, program). -/
import Derived.Deep.DeepCutAuto
import Derived.Test.YtojcfpjoikmgcaaGreatDoorPlainLook
import Derived.Test.YtojcfpjoikmgcaaGreatDoorLawD
import Derived.Test.YtojcfpjoikmgcaaGreatDoorLayB
namespace Go.Proofs.YtojcfpjoikmgcaaGreatDoor
namespace P
def lookD (o : List Int) (l : Dic) : Bs × Bool := if dic l then (textAt o l, hasE o l) else ([], false)
def lookS (o : List Int) (l : Lays) : Bs × Int × Bool := if stack l then (layText o l, layIdx o l, layOk o l) else ([], 0, false)
end P
open Go Go.RowKit
set_option maxHeartbeats 2000000
set_option maxRecDepth 100000
def FindPost (o : List Int) (l : P.Dic) (w : World) (e : Ending) (w' : World) : Prop := e = .returned (.tuple #[.string (S (P.textAt o l)), .bool (P.hasE o l)]) ∧ Below w.heap.size w w'
theorem dicLookup (dv ov : Value) (l : P.Dic) (o : List Int) (w : World) (hu : EntR w dv l) (ho : IntR w ov o) :
    Calls Tryz.prog 73 #[.agg #[dv], ov] w (FindPost o l w) := by
  have hb0 := (Below.refl w.heap.size w).alloc (Nat.le_refl _) (.cells #[dv] 26)
  have HU := Lib.hid (hu.below hb0); have HO := Lib.hid (ho.below hb0); have HB0 := Lib.hid hb0
  have HBX := Lib.hid (Box1.new dv 26 w)
  have hl0 := P.place_lo o l; have hl1 := P.place_lt (o := o) (l := l)
  obtain ⟨ad, cap, rfl, hll, _⟩ := hu
  obtain ⟨od, oc, rfl, _, _⟩ := ho
  clear hb0
  go_enter Tryz.func73, Tryz.ntmps73
  go_wp2_with fail
  refine (dicFind _ _ l o _ HU.out HO.out).mono ?_
  rintro e w1 ⟨rfl, hb⟩
  have HU1 := Lib.hid (HU.out.below hb)
  obtain ⟨b0, _⟩ := HBX.out.below hb
  have HB1 := Lib.hid (HB0.out.trans (hb.mono (by simp)))
  clear hb HU HO HB0 HBX
  by_cases hneg : P.place o l < 0
  · have HN := Lib.hid (show P.hasE o l = false by unfold P.hasE; exact decide_eq_false (by omega))
    go_wp2
    refine bodyPost_ret (v := .tuple #[.string (S []), .bool false]) (by simp [results, Tryz.results73, go_sem]) rfl ⟨by rw [P.textAt_not HN.out, HN.out], HB1.out⟩
  · have HN := Lib.hid (show P.hasE o l = true by unfold P.hasE; exact decide_eq_true (by omega))
    obtain ⟨i, hi⟩ := Int.eq_ofNat_of_zero_le (show 0 ≤ P.place o l by omega)
    have hil : i < l.length := by omega
    obtain ⟨g, p, rfl, hgl, x, c0, c1, hx⟩ := HU1.out.at i hil
    rw [P.textAt_place hi hil] at c1
    rw [hi] at hneg ⊢
    have i1 : (i : Int) < (l.length : Int) := by omega
    clear hl0 hl1 hi c0 hx
    go_wp2
    refine bodyPost_ret (v := .tuple #[.string (S (P.textAt o l)), .bool true]) (by simp [results, Tryz.results73, go_sem]) rfl ⟨by rw [HN.out], HB1.out⟩
theorem impl_lookup (dv ov : Value) (l : P.Dic) (o : List Int) (w : World) (hu : EntR w dv l) (ho : IntR w ov o) (hs : Small l) (hE : Env w) :
    Calls Tryz.prog 44 #[.agg #[dv], ov] w fun e w' => e = .returned (.tuple #[.string (S (P.lookD o l).1), .bool (P.lookD o l).2]) ∧ Below w.heap.size w w' := by
  have hb0 := (Below.refl w.heap.size w).alloc (Nat.le_refl _) (.cells #[dv] 26)
  have HU := Lib.hid (hu.below hb0); have HO := Lib.hid (ho.below hb0); have HB0 := Lib.hid hb0
  have HBX := Lib.hid (Box1.new dv 26 w); have HSM := Lib.hid hs
  have HE := Lib.hid (hE.below hb0 hE.size)
  obtain ⟨ad, cap, rfl, hll, _⟩ := hu
  obtain ⟨od, oc, rfl, _, _⟩ := ho
  clear hb0 hs
  go_enter Tryz.func44, Tryz.ntmps44
  go_wp2_with fail
  refine (isValidDictionary _ l _ HU.out HSM.out.texts HE.out).mono ?_
  rintro e w1 ⟨rfl, hb⟩
  have HU1 := Lib.hid (HU.out.below hb); have HO1 := Lib.hid (HO.out.below hb)
  obtain ⟨b0, _⟩ := HBX.out.below hb
  have HB1 := Lib.hid (HB0.out.trans (hb.mono (by simp)))
  clear hb HU HO HB0 HBX
  cases hd : P.dic l
  · have HD := Lib.hid (show P.lookD o l = ([], false) by unfold P.lookD; rw [hd]; rfl); clear hd
    go_wp2
    refine bodyPost_ret (v := .tuple #[.string (S []), .bool false]) (by simp [results, Tryz.results44, go_sem]) rfl ⟨by rw [HD.out], HB1.out⟩
  · have HD := Lib.hid (show P.lookD o l = (P.textAt o l, P.hasE o l) by unfold P.lookD; rw [hd]; rfl); clear hd
    go_wp2_with fail
    refine (dicLookup _ _ l o _ HU1.out HO1.out).mono ?_
    rintro e w2 ⟨rfl, hb⟩
    have HB2 := Lib.hid (HB1.out.trans (hb.mono HB1.out.size))
    clear hb
    go_wp2
    refine bodyPost_ret (v := .tuple #[.string (S (P.textAt o l)), .bool (P.hasE o l)]) (by simp [results, Tryz.results44, go_sem]) rfl ⟨by rw [HD.out], HB2.out⟩
theorem l8Find (dv ov : Value) (l : P.Lays) (o : List Int) (w : World) (hu : LayR w dv l) (ho : IntR w ov o) :
    Calls Tryz.prog 94 #[.agg #[dv], ov] w fun e w' => e = .returned (.int .i64 (P.layAt o l)) ∧ Below w.heap.size w w' := by
  have hb0 := (Below.refl w.heap.size w).alloc (Nat.le_refl _) (.cells #[dv] 68)
  have HU := Lib.hid hu; have HO := Lib.hid ho; have HB0 := Lib.hid hb0
  have HBX := Lib.hid (Box1.new dv 68 w)
  obtain ⟨ad, cap, rfl, hll, _⟩ := hu
  obtain ⟨od, oc, rfl, _, _⟩ := ho
  clear hb0
  go_enter Tryz.func94, Tryz.ntmps94
  go_wp2
  go_loopw [5] (fun i wr => ∃ j : Nat, j ≤ l.length ∧ i = .int .i64 j ∧ (∀ (k : Nat) (h : k < j) (h' : k < l.length), P.shows o (l[k]'h') = false) ∧ Box1 w.heap.size (.slice ad l.length cap) wr ∧ Below w.heap.size w wr) (fun i _ => l.length - (intOf i).toNat)
  case atStart => exact ⟨0, Nat.zero_le _, rfl, (fun k h => absurd h (Nat.not_lt_zero _)), HBX.out, HB0.out⟩
  case round =>
    clear HBX HB0
    obtain ⟨j, hj, rfl, hn, hbx, hb⟩ := hrel
    have HN := Lib.hid hn; have HB := Lib.hid hb; have HBX := Lib.hid hbx
    obtain ⟨b0, _⟩ := hbx
    clear hn
    by_cases hlt : j < l.length
    · obtain ⟨g, p, hga, hgl, x, c0, c1, hx⟩ := (HU.out.below hb).at j hlt
      have HX := Lib.hid hx
      have HO2 := Lib.hid (HO.out.below hb)
      have HYES := Lib.hid (show P.shows o l[j] = true → P.layAt o l = j from fun h => (P.layAt_at j hlt h fun k hk => HN.out k hk (by omega)).1)
      have HNO := Lib.hid (show P.shows o l[j] = false → ∀ (k : Nat) (h : k < j + 1) (h' : k < l.length), P.shows o (l[k]'h') = false from fun h k hk hk' => by
        by_cases e : k = j
        · subst e; exact h
        · exact HN.out k (by omega) hk')
      obtain ⟨xd, xc, rfl, _, _⟩ := hx
      subst hga
      generalize l[j] = en at *
      obtain ⟨d, t⟩ := en
      simp only at HX HYES HNO c1
      have i1 : (j : Int) < (l.length : Int) := by omega
      clear hb
      cases t
      · have HNN := Lib.hid (HNO.out (by unfold P.shows; rfl))
        clear HYES HNO
        go_wp2
        go_roundw
        case rel => exact ⟨j + 1, by omega, by go_num, HNN.out, HBX.out, HB.out⟩
        case measure => simp [intOf]; omega
      · go_wp2_with fail
        refine (l6At _ _ d o _ HX.out HO2.out).mono ?_
        rintro e w1 ⟨rfl, hb⟩
        have HB1 := Lib.hid (HB.out.trans (hb.mono HB.out.size))
        have HBX1 := Lib.hid (HBX.out.below hb)
        clear hb b0 HBX HB
        by_cases h0 : 0 ≤ P.place o d
        · have HYY := Lib.hid (HYES.out (by unfold P.shows P.hasE; simp [h0]))
          clear HYES HNO
          go_wp2
          go_ret
          exact ⟨ret_int HYY.out.symm, HB1.out⟩
        · have HNN := Lib.hid (HNO.out (by unfold P.shows P.hasE; simp [h0]))
          obtain ⟨b0, _⟩ := HBX1.out
          clear HYES HNO
          go_wp2
          go_roundw
          case rel => exact ⟨j + 1, by omega, by go_num, HNN.out, HBX1.out, HB1.out⟩
          case measure => simp [intOf]; omega
    · have HP := Lib.hid (show P.layAt o l = -1 from P.layAt_none fun k hk => HN.out k (by omega) hk)
      clear hb
      go_wp2
      go_ret
      exact ⟨ret_int HP.out.symm, HB.out⟩
def StackFind (o : List Int) (l : P.Lays) (w : World) (e : Ending) (w' : World) : Prop := e = .returned (.tuple #[.string (S (P.layText o l)), .int .i64 (P.layIdx o l), .bool (P.layOk o l)]) ∧ Below w.heap.size w w'
theorem stackLookup (dv ov : Value) (l : P.Lays) (o : List Int) (w : World) (hu : LayR w dv l) (ho : IntR w ov o) :
    Calls Tryz.prog 92 #[.agg #[dv], ov] w (StackFind o l w) := by
  have hb0 := (Below.refl w.heap.size w).alloc (Nat.le_refl _) (.cells #[dv] 68)
  have HU := Lib.hid hu; have HO := Lib.hid ho; have HB0 := Lib.hid hb0
  have HBX := Lib.hid (Box1.new dv 68 w)
  obtain ⟨ad, cap, rfl, hll, _⟩ := hu
  obtain ⟨od, oc, rfl, _, _⟩ := ho
  clear hb0
  go_enter Tryz.func92, Tryz.ntmps92
  go_wp2
  go_loopw [14] (fun i wr => ∃ j : Nat, j ≤ l.length ∧ i = .int .i64 j ∧ (∀ (k : Nat) (h : k < j) (h' : k < l.length), P.shows o (l[k]'h') = false) ∧ Below w.heap.size w wr) (fun i _ => l.length - (intOf i).toNat)
  case atStart => exact ⟨0, Nat.zero_le _, rfl, (fun k h => absurd h (Nat.not_lt_zero _)), HB0.out⟩
  case round =>
    clear HBX HB0
    obtain ⟨j, hj, rfl, hn, hb⟩ := hrel
    have HN := Lib.hid hn; have HB := Lib.hid hb
    clear hn
    by_cases hlt : j < l.length
    · obtain ⟨g, p, hga, hgl, x, c0, c1, hx⟩ := (HU.out.below hb).at j hlt
      have hba := (Below.refl wr.heap.size wr).alloc (Nat.le_refl _) (.cells #[x, .bool l[j].2] 113)
      have HBA := Lib.hid hba
      have HX := Lib.hid (hx.below hba)
      have HO2 := Lib.hid ((HO.out.below hb).below hba)
      have hc1 : (wr.alloc (.cells #[x, .bool l[j].2] 113)).cell? ⟨wr.heap.size, 1, none⟩ = some (.bool l[j].2) := by go_simp
      have HC1 := Lib.hid hc1
      have HYES := Lib.hid (show P.shows o l[j] = true → P.layAt o l = j ∧ P.layText o l = P.textAt o l[j].1 from fun h => P.layAt_at j hlt h fun k hk => HN.out k hk (by omega))
      have HNO := Lib.hid (show P.shows o l[j] = false → ∀ (k : Nat) (h : k < j + 1) (h' : k < l.length), P.shows o (l[k]'h') = false from fun h k hk hk' => by
        by_cases e : k = j
        · subst e; exact h
        · exact HN.out k (by omega) hk')
      obtain ⟨xd, xc, rfl, _, _⟩ := hx
      subst hga
      generalize l[j] = en at *
      obtain ⟨d, t⟩ := en
      simp only at HX HYES HNO c1 HC1 HBA HO2
      have i1 : (j : Int) < (l.length : Int) := by omega
      clear hb hba hc1
      go_wp2_with fail
      refine (dicLookup _ _ d o _ HX.out HO2.out).mono ?_
      rintro e w1 ⟨rfl, hb⟩
      have HB1 := Lib.hid (HB.out.trans ((HBA.out.trans (hb.mono (by simp))).mono HB.out.size))
      have d1 := (hb.cell (p := ⟨wr.heap.size, 1, none⟩) (by simp)).trans HC1.out
      clear hb HBA HC1 HB HX HO2
      cases hh : P.hasE o d
      · have HNN := Lib.hid (HNO.out (by unfold P.shows; rw [hh]; simp))
        clear HYES HNO hh
        go_wp2
        go_roundw
        case rel => exact ⟨j + 1, by omega, by go_num, HNN.out, HB1.out⟩
        case measure => simp [intOf]; omega
      · cases t
        · have HNN := Lib.hid (HNO.out (by unfold P.shows; rfl))
          clear HYES HNO hh
          go_wp2
          go_roundw
          case rel => exact ⟨j + 1, by omega, by go_num, HNN.out, HB1.out⟩
          case measure => simp [intOf]; omega
        · have hyy := HYES.out (by unfold P.shows; rw [hh]; rfl)
          have HYY := Lib.hid hyy
          have HIX := Lib.hid (show P.layIdx o l = j by unfold P.layIdx; rw [hyy.1, if_neg (by omega)])
          have HOK := Lib.hid (show P.layOk o l = true by unfold P.layOk; rw [hyy.1]; exact decide_eq_true (by omega))
          clear HYES HNO hh hyy
          go_wp2
          refine bodyPost_ret (v := .tuple #[.string (S (P.textAt o d)), .int .i64 j, .bool true]) (by simp [results, Tryz.results92, go_sem]) rfl ⟨by rw [HYY.out.2, HIX.out, HOK.out], HB1.out⟩
    · have HP := Lib.hid (show P.layAt o l = -1 from P.layAt_none fun k hk => HN.out k (by omega) hk)
      have HIX := Lib.hid (show P.layIdx o l = 0 by unfold P.layIdx; rw [HP.out]; rfl)
      have HOK := Lib.hid (show P.layOk o l = false by unfold P.layOk; rw [HP.out]; rfl)
      have HTX := Lib.hid (show P.layText o l = [] from P.layText_not (by rw [HP.out]; decide))
      clear hb
      go_wp2
      refine bodyPost_ret (v := .tuple #[.string (S []), .int .i64 0, .bool false]) (by simp [results, Tryz.results92, go_sem]) rfl ⟨by rw [HTX.out, HIX.out, HOK.out], HB.out⟩
def LookSPost (o : List Int) (l : P.Lays) (w : World) (e : Ending) (w' : World) : Prop := e = .returned (.tuple #[.string (S (P.lookS o l).1), .int .i64 (P.lookS o l).2.1, .bool (P.lookS o l).2.2]) ∧ Below w.heap.size w w'
theorem impl_lookupStack (dv ov : Value) (l : P.Lays) (o : List Int) (w : World) (hu : LayR w dv l) (ho : IntR w ov o) (hs : SmallS l) (hE : Env w) :
    Calls Tryz.prog 52 #[.agg #[dv], ov] w (LookSPost o l w) := by
  have hb0 := (Below.refl w.heap.size w).alloc (Nat.le_refl _) (.cells #[dv] 68)
  have HU := Lib.hid (hu.below hb0); have HO := Lib.hid (ho.below hb0); have HB0 := Lib.hid hb0; have HE := Lib.hid (hE.below hb0 hE.size)
  have HBX := Lib.hid (Box1.new dv 68 w); have HSM := Lib.hid hs
  obtain ⟨ad, cap, rfl, hll, _⟩ := hu
  obtain ⟨od, oc, rfl, _, _⟩ := ho
  clear hb0 hs
  go_enter Tryz.func52, Tryz.ntmps52
  go_wp2_with fail
  refine (impl_isValidStack _ l _ HU.out HSM.out.each HE.out).mono ?_
  rintro e w1 ⟨rfl, hb⟩
  have HU1 := Lib.hid (HU.out.below hb); have HO1 := Lib.hid (HO.out.below hb)
  obtain ⟨b0, _⟩ := HBX.out.below hb
  have HB1 := Lib.hid (HB0.out.trans (hb.mono (by simp)))
  clear hb HU HO HB0 HBX HE
  cases hd : P.stack l
  · have HD := Lib.hid (show P.lookS o l = ([], 0, false) by unfold P.lookS; rw [hd]; rfl); clear hd
    go_wp2
    refine bodyPost_ret (v := .tuple #[.string (S []), .int .i64 0, .bool false]) (by simp [results, Tryz.results52, go_sem]) rfl ⟨by rw [HD.out], HB1.out⟩
  · have HD := Lib.hid (show P.lookS o l = (P.layText o l, P.layIdx o l, P.layOk o l) by unfold P.lookS; rw [hd]; rfl); clear hd
    go_wp2_with fail
    refine (stackLookup _ _ l o _ HU1.out HO1.out).mono ?_
    rintro e w2 ⟨rfl, hb⟩
    have HB2 := Lib.hid (HB1.out.trans (hb.mono HB1.out.size))
    clear hb
    go_wp2
    refine bodyPost_ret (v := .tuple #[.string (S (P.layText o l)), .int .i64 (P.layIdx o l), .bool (P.layOk o l)]) (by simp [results, Tryz.results52, go_sem]) rfl ⟨by rw [HD.out], HB2.out⟩
end Go.Proofs.YtojcfpjoikmgcaaGreatDoor
