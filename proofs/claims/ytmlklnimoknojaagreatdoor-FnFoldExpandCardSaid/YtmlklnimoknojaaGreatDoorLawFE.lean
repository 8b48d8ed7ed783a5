/- The law FnFoldExpand: after the expansion a plain look-up gives what a folded look-up gave. -/
import Derived.Deep.DeepCutAuto
import Derived.Deep.RegionHeld
import Derived.Test.YtmlklnimoknojaaGreatDoorDrawF3
import Derived.Test.YtmlklnimoknojaaGreatDoorExpI2
import Derived.Test.YtmlklnimoknojaaGreatDoorOvI
import Derived.Test.YtmlklnimoknojaaGreatDoorOvS
import Derived.Test.YtmlklnimoknojaaGreatDoorRLists
import Derived.Test.YtmlklnimoknojaaGreatDoorRDict
import Derived.Test.YtmlklnimoknojaaGreatDoorLawD
namespace Go.Proofs.YtmlklnimoknojaaGreatDoor
open Go Go.RowKit
set_option maxHeartbeats 4000000
set_option maxRecDepth 100000
/-- what the folded look-up reads -/
def FeS (a b g q : Nat) (dv nv x : Value) (z : World) : Prop := Box1 a dv z ∧ Box1 b nv z ∧ z.cell? ⟨g, q, none⟩ = some x ∧ g < z.heap.size
theorem FeS.below {a b g q : Nat} {dv nv x : Value} {z z' : World} (h : FeS a b g q dv nv x z) (hb : Below z.heap.size z z') : FeS a b g q dv nv x z' :=
  ⟨h.1.below hb, h.2.1.below hb, (hb.cell (p := ⟨g, q, none⟩) h.2.2.2).trans h.2.2.1, Nat.lt_of_lt_of_le h.2.2.2 hb.size⟩
theorem fe_kept {l : P.Dic} {fl : P.Folds} {m : P.Dic} {ok : Bool} (ho : P.expOk l fl = ok) (hm : P.kept ok (P.expS l fl) = m) :
    (ok = true → l.length ≤ m.length) ∧ ∀ x ∈ m, ∃ i : Int, P.lookFD l fl x.1 = (x.2, i, true) := by
  cases ok with
  | false =>
    have hm0 : m = [] := hm.symm
    refine ⟨fun h => (by cases h), fun x hx => ?_⟩
    rw [hm0] at hx
    cases hx
  | true =>
    have hm1 : P.expS l fl = m := hm
    refine ⟨fun _ => ?_, fun x hx => P.expOk_look ho (hm1 ▸ hx)⟩
    have h := ho
    unfold P.expOk at h
    simp only [Bool.and_eq_true] at h
    rw [← hm1]
    exact P.exp_len (P.pair_of_dic h.1)
theorem law_foldExpand (v : Value) (w : World) (hc : CodeAny w v) (hE : Env w) :
    Calls Tryz.prog 5 #[v] w fun e w' => e = .returned (.bool true) ∧ Below w.heap.size w w' := by
  obtain ⟨ad0, n0, cap0, rfl, hn, hr⟩ := hc
  have HE := Lib.hid hE
  clear hE
  go_enter Tryz.func5, Tryz.ntmps5
  go_wp2_with fail
  refine (rBig _ n0 ad0 cap0 rfl hn _).mono ?_
  rintro e w' ⟨rfl, rfl⟩
  cases hbig : decide (65536 < n0)
  · have HCD := Lib.hid (show CodeIs w (.slice ad0 n0 cap0) from ⟨ad0, n0, cap0, rfl, by have := of_decide_eq_false hbig; omega, hr⟩)
    clear hbig hr
    go_wp2_with fail
    refine (drawExpandFolds _ _ HCD.out).mono ?_
    rintro e w1 ⟨l, u, fl, fu, rfl, hdl, hrd, hfl, hf12, hft, hb⟩
    have HSM := Lib.hid hdl.small
    have H29 := Lib.hid (show ∀ e ∈ l, e.2.length ≤ 2 ^ 29 from fun e he => Nat.le_trans (hdl.texts e he) (by decide))
    have H30 := Lib.hid (show ∀ f ∈ fl, f.2.length ≤ 2 ^ 30 from fun f hf => Nat.le_trans (hft f hf) (by decide))
    have hba := (Below.refl w1.heap.size w1).alloc (Nat.le_refl _) (.cells #[u] 26)
    have HU := Lib.hid (hrd.now.below hba); have HF := Lib.hid ((hfl.read (by omega)).below hba); have HA := Lib.hid (Box1.new u 26 w1)
    have HB := Lib.hid (hb.trans (hba.mono hb.size))
    obtain ⟨da, dc, rfl, _, _⟩ := id hrd.now
    obtain ⟨fa, fc, rfl, _, _⟩ := id (hfl.read (by omega))
    clear hrd hfl hdl hft hb hba HCD
    obtain ⟨ok, hok⟩ : ∃ ok, P.expOk l fl = ok := ⟨_, rfl⟩
    obtain ⟨m, hm⟩ : ∃ m, P.kept ok (P.expS l fl) = m := ⟨_, rfl⟩
    have HK := Lib.hid (fe_kept hok hm)
    have HOK := Lib.hid hok; have HM := Lib.hid hm
    clear hok hm
    go_upto_region 4 with fail
    generalize w1.alloc (.cells #[.slice da l.length dc] 26) = v0 at *
    obtain ⟨c0, _⟩ := HA.out
    go_wp2_with fail
    refine (impl_expandFolds _ _ l fl _ HU.out HF.out HSM.out H29.out H30.out (HE.out.below HB.out HE.out.size)).mono ?_
    rintro e w2 ⟨x, rfl, hX, hb⟩
    rw [HOK.out, HM.out] at hX
    rw [HOK.out]
    have hba := (Below.refl w2.heap.size w2).alloc (Nat.le_refl _) (.cells #[x] 26)
    have HU2 := Lib.hid ((HU.out.below hb).below hba); have HF2 := Lib.hid ((HF.out.below hb).below hba); have HA2 := Lib.hid ((HA.out.below hb).below hba)
    have HX2 := Lib.hid ((Ents.read hX).below hba); have HN2 := Lib.hid (Box1.new x 26 w2)
    have HB2 := Lib.hid ((HB.out.trans (hb.mono HB.out.size)).trans (hba.mono (Nat.le_trans HB.out.size hb.size)))
    obtain ⟨xa, xc, rfl, _, _⟩ := id HX2.out
    clear c0 hX hb hba HU HF HA HB
    go_upto_region 5 with fail
    generalize w2.alloc (.cells #[.slice xa m.length xc] 26) = v1 at *
    obtain ⟨c0, _⟩ := HA2.out
    go_wp2_with fail
    refine (spec_expandFolds _ _ l fl _ HU2.out HF2.out HSM.out H29.out H30.out).mono ?_
    rintro e w3 ⟨y, rfl, hY, hb⟩
    rw [HOK.out, HM.out] at hY
    rw [HOK.out]
    have hba := (Below.refl w3.heap.size w3).alloc (Nat.le_refl _) (.cells #[y] 26)
    have HU3 := Lib.hid ((HU2.out.below hb).below hba); have HF3 := Lib.hid ((HF2.out.below hb).below hba); have HA3 := Lib.hid ((HA2.out.below hb).below hba)
    have HX3 := Lib.hid ((HX2.out.below hb).below hba); have HN3 := Lib.hid ((HN2.out.below hb).below hba)
    have HY3 := Lib.hid ((Ents.read hY).below hba); have HM3 := Lib.hid (Box1.new y 26 w3)
    have HB3 := Lib.hid ((HB2.out.trans (hb.mono HB2.out.size)).trans (hba.mono (Nat.le_trans HB2.out.size hb.size)))
    obtain ⟨ya, yc, rfl, _, _⟩ := id HY3.out
    clear c0 hY hb hba HU2 HF2 HA2 HB2 HX2 HN2
    go_upto_region 6 with fail
    generalize w3.alloc (.cells #[.slice ya m.length yc] 26) = v2 at *
    obtain ⟨c5, _⟩ := HN3.out
    obtain ⟨c7, _⟩ := HM3.out
    go_wp2_with fail
    refine (rDict _ _ m _ HX3.out HY3.out).mono ?_
    rintro e w4 ⟨rfl, hb⟩
    have HU4 := Lib.hid (HU3.out.below hb); have HF4 := Lib.hid (HF3.out.below hb); have HA4 := Lib.hid (HA3.out.below hb)
    have HX4 := Lib.hid (HX3.out.below hb); have HN4 := Lib.hid (HN3.out.below hb); have HB4 := Lib.hid (HB3.out.trans (hb.mono HB3.out.size))
    clear c5 c7 hb HU3 HF3 HA3 HB3 HX3 HN3 HY3 HM3
    obtain ⟨c0, _⟩ := HA4.out
    go_wp2_with fail
    refine (impl_foldOverrides _ _ l fl _ HU4.out HF4.out HSM.out H30.out (HE.out.below HB4.out HE.out.size)).mono ?_
    rintro e w5 ⟨p, rfl, hP, hb⟩
    have HU5 := Lib.hid (HU4.out.below hb); have HF5 := Lib.hid (HF4.out.below hb); have HA5 := Lib.hid (HA4.out.below hb)
    have HX5 := Lib.hid (HX4.out.below hb); have HN5 := Lib.hid (HN4.out.below hb); have HB5 := Lib.hid (HB4.out.trans (hb.mono HB4.out.size))
    have HP5 := Lib.hid (OutsO.read hP)
    obtain ⟨pa, pc, rfl, _, _⟩ := id HP5.out
    clear c0 hP hb HU4 HF4 HA4 HB4 HX4 HN4
    obtain ⟨c0, _⟩ := HA5.out
    go_wp2_with fail
    refine (spec_foldOverrides _ _ l fl _ HU5.out HF5.out HSM.out H30.out).mono ?_
    rintro e w6 ⟨q, rfl, hQ, hb⟩
    have HU6 := Lib.hid (HU5.out.below hb); have HF6 := Lib.hid (HF5.out.below hb); have HA6 := Lib.hid (HA5.out.below hb)
    have HX6 := Lib.hid (HX5.out.below hb); have HN6 := Lib.hid (HN5.out.below hb); have HB6 := Lib.hid (HB5.out.trans (hb.mono HB5.out.size))
    have HP6 := Lib.hid (HP5.out.below hb); have HQ6 := Lib.hid (OutsO.read hQ)
    obtain ⟨qa, qc, rfl, _, _⟩ := id HQ6.out
    clear c0 hQ hb HU5 HF5 HA5 HB5 HX5 HN5 HP5
    generalize P.keptO (P.dic l && P.foldsOk fl) (P.overs l fl) = ov at *
    generalize (P.dic l && P.foldsOk fl) = okO at *
    go_wp2_with fail
    refine (rLists _ _ ov _ HP6.out HQ6.out).mono ?_
    rintro e w7 ⟨rfl, hb⟩
    have HU7 := Lib.hid (HU6.out.below hb); have HF7 := Lib.hid (HF6.out.below hb); have HA7 := Lib.hid (HA6.out.below hb)
    have HX7 := Lib.hid (HX6.out.below hb); have HN7 := Lib.hid (HN6.out.below hb); have HB7 := Lib.hid (HB6.out.trans (hb.mono HB6.out.size))
    clear hb HU6 HF6 HA6 HB6 HX6 HN6 HP6 HQ6
    go_wp2
    go_loopw [13] (fun i wr => ∃ j : Nat, j ≤ m.length ∧ i = .int .i64 j ∧ Below w7.heap.size w7 wr) (fun i _ => m.length - (intOf i).toNat)
    case atStart => exact ⟨0, Nat.zero_le _, rfl, Below.refl _ _⟩
    case round =>
      obtain ⟨j, hj, rfl, hbk⟩ := hrel
      have HBK := Lib.hid hbk
      have HU8 := Lib.hid (HU7.out.below hbk); have HF8 := Lib.hid (HF7.out.below hbk); have HA8 := Lib.hid (HA7.out.below hbk); have HX8 := Lib.hid (HX7.out.below hbk); have HN8 := Lib.hid (HN7.out.below hbk)
      clear hbk
      obtain ⟨c5, _⟩ := HN8.out
      by_cases hlt : j < m.length
      · have i1 : (j : Int) < (m.length : Int) := by omega
        obtain ⟨g, q, hga, hgl, ox, d0, d1, hox⟩ := HX8.out.at j hlt
        subst hga
        obtain ⟨ii, hlk⟩ := HK.out.2 m[j] (List.getElem_mem hlt)
        have HLK := Lib.hid hlk
        obtain ⟨oo, ot, hoe⟩ : ∃ oo ot, m[j] = (oo, ot) := ⟨_, _, rfl⟩
        have HOE := Lib.hid (show m[j].2 = ot from by rw [hoe])
        rw [hoe] at d1 hox HLK
        simp only at d1 hox HLK
        have HOX := Lib.hid hox
        obtain ⟨oa, oc, rfl, _, _⟩ := id hox
        have hdd : Below wr.heap.size wr wr.drew := (Below.refl _ _).drew
        have HFS := Lib.hid (show FeS w1.heap.size w2.heap.size g (q + j * 2) (.slice da l.length dc) (.slice (some ⟨g, q, none⟩) m.length xc) (.slice oa oo.length oc) wr.drew from FeS.below ⟨HA8.out, HN8.out, d0, hgl⟩ hdd)
        have HU9 := Lib.hid (HU8.out.below hdd); have HF9 := Lib.hid (HF8.out.below hdd); have HX9 := Lib.hid (HX8.out.below hdd); have HN9 := Lib.hid (HN8.out.below hdd); have HOX9 := Lib.hid (HOX.out.below hdd)
        have HB9 := Lib.hid (HBK.out.trans (hdd.mono HBK.out.size))
        clear hlk hox hdd hoe HU8 HF8 HA8 HX8 HN8 HOX HBK d1
        go_upto_region 15 with fail
        refine wp_region_held_drew (S := FeS w1.heap.size w2.heap.size g (q + j * 2) (.slice da l.length dc) (.slice (some ⟨g, q, none⟩) m.length xc) (.slice oa oo.length oc)) (by kernel_rfl) HFS.out (fun hS0 => ?_)
        clear HFS c5 d0
        generalize wr.drew = v5 at *
        refine wpAnyH_take (i := 0) (v := .agg #[.slice da l.length dc]) rfl (by kernel_rfl) (by kernel_rfl) (by kernel_rfl) (fun _ _ _ h => h) (Or.inl ⟨by rfl, fun z hz => ?_⟩) hS0 ?_
        · obtain ⟨⟨z1, z2⟩, ⟨z3, z4⟩, z5, z6⟩ := hz
          go_simp
        try simp only [qA, qB, Act.put, qD, qE, qF]
        refine wpAnyH_take (i := 1) (v := .slice fa fl.length fc) rfl (by kernel_rfl) (by kernel_rfl) (by kernel_rfl) (fun _ _ _ h => h) (Or.inl ⟨by rfl, fun z hz => ?_⟩) hS0 ?_
        · obtain ⟨⟨z1, z2⟩, ⟨z3, z4⟩, z5, z6⟩ := hz
          go_simp
        try simp only [qA, qB, qC, Act.put, qD, qE, qF]
        refine wpAnyH_take (i := 2) (v := .pointer (some ⟨w2.heap.size, 0, none⟩)) rfl (by kernel_rfl) (by kernel_rfl) (by kernel_rfl) (fun _ _ _ h => h) (Or.inl ⟨by rfl, fun z hz => ?_⟩) hS0 ?_
        · obtain ⟨⟨z1, z2⟩, ⟨z3, z4⟩, z5, z6⟩ := hz
          go_simp
        try simp only [qA, qB, qC, Act.put, qD, qE, qF]
        refine wpAnyH_take (i := 3) (v := .slice (some ⟨g, q, none⟩) m.length xc) rfl (by kernel_rfl) (by kernel_rfl) (by kernel_rfl) (fun _ _ _ h => h) (Or.inl ⟨by rfl, fun z hz => ?_⟩) hS0 ?_
        · obtain ⟨⟨z1, z2⟩, ⟨z3, z4⟩, z5, z6⟩ := hz
          go_simp
        try simp only [qA, qB, qC, Act.put, qD, qE, qF]
        refine wpAnyH_take (i := 4) (v := .int .i64 (j : Int)) rfl (by kernel_rfl) (by kernel_rfl) (by kernel_rfl) (fun _ _ _ h => h) (Or.inl ⟨by rfl, fun z hz => ?_⟩) hS0 ?_
        · obtain ⟨⟨z1, z2⟩, ⟨z3, z4⟩, z5, z6⟩ := hz
          go_simp
        try simp only [qA, qB, qC, Act.put, qD, qE, qF]
        refine wpAnyH_take (i := 5) (v := .pointer (some ⟨g, q + j * 2, none⟩)) rfl (by kernel_rfl) (by kernel_rfl) (by kernel_rfl) (fun _ _ _ h => h) (Or.inl ⟨by rfl, fun z hz => ?_⟩) hS0 ?_
        · obtain ⟨⟨z1, z2⟩, ⟨z3, z4⟩, z5, z6⟩ := hz
          go_simp
        try simp only [qA, qB, qC, Act.put, qD, qE, qF]
        refine wpAnyH_take (i := 6) (v := .pointer (some ⟨g, q + j * 2, none⟩)) rfl (by kernel_rfl) (by kernel_rfl) (by kernel_rfl) (fun _ _ _ h => h) (Or.inl ⟨by rfl, fun z hz => ?_⟩) hS0 ?_
        · obtain ⟨⟨z1, z2⟩, ⟨z3, z4⟩, z5, z6⟩ := hz
          go_simp
        try simp only [qA, qB, qC, Act.put, qD, qE, qF]
        refine wpAnyH_take (i := 7) (v := .slice oa oo.length oc) rfl (by kernel_rfl) (by kernel_rfl) (by kernel_rfl) (fun _ _ _ h => h) (Or.inl ⟨by rfl, fun z hz => ?_⟩) hS0 ?_
        · obtain ⟨⟨z1, z2⟩, ⟨z3, z4⟩, z5, z6⟩ := hz
          go_simp
        try simp only [qA, qB, qC, Act.put, qD, qE, qF]
        refine wpAnyH_ready (rs := [8]) (by kernel_rfl) (by simp) ?_
        refine AllReadyH.cons rfl (fun K hK => ?_) AllReadyH.nil
        go_simp
        refine (impl_lookupFoldedD _ _ _ l fl oo _ HU9.out HF9.out HOX9.out H29.out H30.out (HE.out.below (HB7.out.trans (HB9.out.mono HB7.out.size)) HE.out.size)).mono ?_
        rintro e w8 ⟨rfl, hb⟩
        rw [HLK.out]
        simp only
        have HX10 := Lib.hid (HX9.out.below hb); have HN10 := Lib.hid (HN9.out.below hb); have HB10 := Lib.hid (HB9.out.trans (hb.mono HB9.out.size))
        refine hK.out _ _ (hS0.below hb) (fun hS1 => ?_)
        clear hK K hb hS0 HU9 HF9 HX9 HN9 HOX9 HB9
        try simp only [qA, qB, qC, Act.put, qD, qE, qF]
        refine wpAnyH_take (i := 9) (v := .tuple #[.string (S ot), .int .i64 ii, .bool true]) rfl (by kernel_rfl) (by kernel_rfl) (by kernel_rfl) (fun _ _ _ h => h) (Or.inl ⟨by rfl, fun z hz => ?_⟩) hS1 ?_
        · obtain ⟨⟨z1, z2⟩, ⟨z3, z4⟩, z5, z6⟩ := hz
          go_simp
        try simp only [qA, qB, qC, Act.put, qD, qE, qF]
        refine wpAnyH_take (i := 10) (v := .string (S ot)) rfl (by kernel_rfl) (by kernel_rfl) (by kernel_rfl) (fun _ _ _ h => h) (Or.inl ⟨by rfl, fun z hz => ?_⟩) hS1 ?_
        · obtain ⟨⟨z1, z2⟩, ⟨z3, z4⟩, z5, z6⟩ := hz
          go_simp
        try simp only [qA, qB, qC, Act.put, qD, qE, qF]
        refine wpAnyH_take (i := 11) (v := .int .i64 ii) rfl (by kernel_rfl) (by kernel_rfl) (by kernel_rfl) (fun _ _ _ h => h) (Or.inl ⟨by rfl, fun z hz => ?_⟩) hS1 ?_
        · obtain ⟨⟨z1, z2⟩, ⟨z3, z4⟩, z5, z6⟩ := hz
          go_simp
        try simp only [qA, qB, qC, Act.put, qD, qE, qF]
        refine wpAnyH_take (i := 12) (v := .bool true) rfl (by kernel_rfl) (by kernel_rfl) (by kernel_rfl) (fun _ _ _ h => h) (Or.inl ⟨by rfl, fun z hz => ?_⟩) hS1 ?_
        · obtain ⟨⟨z1, z2⟩, ⟨z3, z4⟩, z5, z6⟩ := hz
          go_simp
        try simp only [qA, qB, qC, Act.put, qD, qE, qF]
        refine wpAnyH_ready (rs := [13]) (by kernel_rfl) (by simp) ?_
        refine AllReadyH.cons rfl (fun K hK => ?_) AllReadyH.nil
        go_simp
        refine hK.out _ _ hS1 (fun hS1 => ?_)
        clear hK K
        try simp only [qA, qB, qC, Act.put, qD, qE, qF]
        refine wpAnyH_ready (rs := [14]) (by kernel_rfl) (by simp) ?_
        refine AllReadyH.cons rfl (fun K hK => ?_) AllReadyH.nil
        go_simp
        refine hK.out _ _ hS1 (fun hS1 => ?_)
        clear hK K
        try simp only [qA, qB, qC, Act.put, qD, qE, qF]
        refine wpAnyH_ready (rs := [15]) (by kernel_rfl) (by simp) ?_
        refine AllReadyH.cons rfl (fun K hK => ?_) AllReadyH.nil
        go_simp
        refine hK.out _ _ hS1 (fun hS1 => ?_)
        clear hK K
        try simp only [qA, qB, qC, Act.put, qD, qE, qF]
        refine wpAnyH_done (by kernel_rfl) ?_ _
        clear hS1
        obtain ⟨c5, _⟩ := HN10.out
        obtain ⟨g', q', hga, hgl', ox', d0, d1, hox⟩ := HX10.out.at j hlt
        injection hga with hga
        injection hga with e1 e2 _
        subst e1 e2
        have hot := HOE.out
        rw [hot] at d1
        clear hox
        go_wp2
        go_roundw
        case rel => exact ⟨j + 1, by omega, by go_num, HB10.out⟩
        case measure => simp [intOf]; omega
      · have i1 : ¬ (j : Int) < (m.length : Int) := by omega
        have HBZ := Lib.hid (HB7.out.trans (HBK.out.mono HB7.out.size))
        obtain ⟨c0, _⟩ := HA8.out
        cases ok
        · go_wp2
          go_ret
          exact ⟨rfl, HBZ.out⟩
        · have hlen := HK.out.1 rfl
          have i2 : (l.length : Int) ≤ (m.length : Int) := by omega
          go_wp2
          go_ret
          exact ⟨by simp [], HBZ.out⟩
  · have hn2 := of_decide_eq_true hbig
    go_wp2
    go_ret
    exact ⟨rfl, Below.refl _ _⟩
end Go.Proofs.YtmlklnimoknojaaGreatDoor
