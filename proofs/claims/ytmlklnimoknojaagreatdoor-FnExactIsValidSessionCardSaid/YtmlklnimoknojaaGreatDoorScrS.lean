/- Walks: segments and screens (reference). -/
import Derived.Deep.DeepCutAuto
import Derived.Deep.RegionHeld
import Derived.Test.YtmlklnimoknojaaGreatDoorPlainScr2
import Derived.Test.YtmlklnimoknojaaGreatDoorSeg
import Derived.Test.YtmlklnimoknojaaGreatDoorFmtS3
import Derived.Test.YtmlklnimoknojaaGreatDoorCurE3
namespace Go.Proofs.YtmlklnimoknojaaGreatDoor
open Go Go.RowKit
set_option maxHeartbeats 4000000
set_option maxRecDepth 100000
theorem l11Strokes (u : Value) (l : List Int) (w : World) (hu : IntR w u l) :
    Calls Tryz.prog 138 #[u] w fun e w' => e = .returned (.bool (P.slist l)) ∧ w = w' := by
  have HU := Lib.hid hu
  obtain ⟨ad, cap, rfl, hl, _⟩ := hu
  go_enter Tryz.func138, Tryz.ntmps138
  go_wp2
  go_loop [3] (fun i => ∃ j : Nat, j ≤ l.length ∧ j ≤ 61 ∧ i = .int .i64 j ∧ (l.take j).all P.stroke = true) (fun i => l.length - (intOf i).toNat)
  case atStart => exact ⟨0, Nat.zero_le _, by omega, rfl, by simp⟩
  case round =>
    obtain ⟨j, hj, hj61, rfl, ha⟩ := hrel
    have HA := Lib.hid ha; clear ha
    by_cases hlt : j < l.length
    · by_cases h60 : j ≤ 60
      · obtain ⟨g, o, hga, _, hc⟩ := HU.out.at j hlt
        subst hga
        have HSN := Lib.hid (take_snoc l j hlt)
        generalize l[j] = x at *
        have i1 : (j : Int) < (l.length : Int) := by omega
        have i2 : (j : Int) ≤ 60 := by omega
        cases hx : P.stroke x
        · have HNO := Lib.hid (show P.slist l = false by
            unfold P.slist
            rw [← List.take_append_drop (j + 1) l, HSN.out, List.all_append, List.all_append]
            simp [hx])
          have HX := Lib.hid hx
          go_wp2_with (go_at_call 97; refine (l2Good _ _).mono ?_; rintro e w' ⟨rfl, rfl⟩)
          go_ret
          exact ⟨ret_bool HNO.out.symm, rfl⟩
        · have HX := Lib.hid hx
          go_wp2_with (go_at_call 97; refine (l2Good _ _).mono ?_; rintro e w' ⟨rfl, rfl⟩)
          go_round
          case rel => exact ⟨j + 1, by omega, by omega, by go_num, by rw [HSN.out, List.all_append, HA.out]; simp [HX.out]⟩
          case measure => simp [intOf]; omega
      · have HNO := Lib.hid (show P.slist l = false by unfold P.slist; rw [decide_eq_false (by omega)]; rfl)
        have i1 : (j : Int) < (l.length : Int) := by omega
        have i2 : ¬ (j : Int) ≤ 60 := by omega
        have i3 : ¬ (l.length : Int) ≤ 60 := by omega
        go_wp2
        go_ret
        exact ⟨ret_bool (by rw [HNO.out]), rfl⟩
    · have i1 : ¬ (j : Int) < (l.length : Int) := by omega
      have HE := Lib.hid (show P.slist l = decide ((l.length : Int) ≤ 60) by
        have h := HA.out
        rw [List.take_of_length_le (by omega)] at h
        unfold P.slist
        rw [h, Bool.and_true]
        exact decide_eq_decide.2 (by omega))
      go_wp2
      go_ret
      exact ⟨ret_bool (by rw [HE.out]), rfl⟩
theorem l14Raw (m : Nat) (w : World) (hm : P.stroke (m : Int) = true) :
    Calls Tryz.prog 190 #[.int .i64 (m : Int)] w fun e w' => e = .returned (.string (S (P.raw m))) ∧ Below w.heap.size w w' := by
  have HR := Lib.hid (P.raw_head (m : Int)); have HNE := Lib.hid (P.fmt_ne hm); have HFL := Lib.hid (P.fmt_len (m : Int))
  have HM := Lib.hid (show m < 2 ^ 23 by unfold P.stroke at hm; simp only [decide_eq_true_eq] at hm; omega)
  clear hm
  go_enter Tryz.func190, Tryz.ntmps190
  go_wp2_with fail
  refine (l2Format m w HM.out).mono ?_
  rintro e w1 ⟨rfl, hb⟩
  have HB := Lib.hid hb
  clear hb
  obtain ⟨f, hf⟩ : ∃ f, P.fmt (m : Int) = f := ⟨_, rfl⟩
  rw [hf] at HR HNE HFL ⊢
  clear hf
  cases f with
  | nil => exact absurd rfl HNE.out
  | cons b t =>
    obtain ⟨q, hq⟩ : ∃ q, (b == 35) = q := ⟨_, rfl⟩
    have f0 : ((b.toNat : Int) == 35) = q := (u8_beq b 35 (by decide)).trans hq
    cases q
    · have HE := Lib.hid (show P.raw m = b :: t from HR.out.2 fun u hu => by injection hu with hu _; rw [hu] at hq; exact absurd hq (by decide))
      clear hq
      go_wp2
      go_ret
      exact ⟨ret_str HE.out.symm, HB.out⟩
    · have HE := Lib.hid (show P.raw m = [61] ++ t from HR.out.1 t (by rw [eq_of_beq hq]))
      have hfl := HFL.out
      simp only [List.length_cons] at hfl
      clear hq
      go_wp2

      go_ret
      exact ⟨ret_str HE.out.symm, HB.out⟩
theorem l11Match (dv sv : Value) (l : P.Dic) (st : List Int) (a : Nat) (w : World) (hu : EntR w dv l) (hs : IntR w sv st) (ha : a < st.length) :
    Calls Tryz.prog 219 #[.agg #[dv], sv, .int .i64 a] w (PcPost (P.matchA l st a) w) := by
  have hb0 : Below w.heap.size w ((w.alloc (.cells #[dv] 26)).alloc (.cells #[.int .i64 0, .int .i64 0, .string (S [])] 148)) := ((Below.refl w.heap.size w).alloc (Nat.le_refl _) _).alloc (by simp) _
  have HB0 := Lib.hid hb0; have HU := Lib.hid hu; have HST := Lib.hid hs
  have HX := Lib.hid ((Box1.new dv 26 w).below ((Below.refl _ _).alloc (Nat.le_refl _) (.cells #[.int .i64 0, .int .i64 0, .string (S [])] 148)))
  have HR := Lib.hid (show PcBx (w.heap.size + 1) ((w.alloc (.cells #[dv] 26)).alloc (.cells #[.int .i64 0, .int .i64 0, .string (S [])] 148)) by refine ⟨?_, ?_, ?_, ⟨?_, ?_, ?_⟩, ?_⟩ <;> go_simp)
  clear hb0
  obtain ⟨ad, cap, rfl, _, _⟩ := hu
  obtain ⟨sd, sc, rfl, hsl, _⟩ := hs
  obtain ⟨g, o, hga, _⟩ := HST.out.at 0 (by omega)
  subst hga
  have i0 : (a : Int) < (st.length : Int) := by omega
  go_enter Tryz.func219, Tryz.ntmps219
  go_wp2_with fail
  go_loopw [7] (fun i wr => ∃ n : Nat, n ≤ 6 ∧ i = .int .i64 n ∧ P.matchA l st a = P.matchN l st a (min n (st.length - a)) ∧ Box1 w.heap.size (.slice ad l.length cap) wr ∧ PcBx (w.heap.size + 1) wr ∧ EntR wr (.slice ad l.length cap) l ∧ Below w.heap.size w wr) (fun i _ => (intOf i).toNat)
  case atStart => exact ⟨6, by omega, rfl, rfl, HX.out, HR.out, HU.out.below HB0.out, HB0.out⟩
  case round =>
    clear HX HR HB0
    obtain ⟨n, hn6, rfl, hbs0, hbx, hpb, hen, hb⟩ := hrel
    have HBX := Lib.hid hbx; have HPB := Lib.hid hpb; have HEN := Lib.hid hen; have HB := Lib.hid hb
    have HBS0 := Lib.hid hbs0
    clear hbs0 hen
    obtain ⟨k0, k1⟩ := hbx
    by_cases hn1 : 1 ≤ n
    · have i1 : (0 : Int) < (n : Int) := by omega
      by_cases hns : a + n ≤ st.length
      case neg =>
        have i4 : IntKind.i64.wrap ((a : Int) + (n : Int)) = (a : Int) + (n : Int) := by rw [IntKind.wrap_i64]; omega
        have i2 : (st.length : Int) < (a : Int) + (n : Int) := by omega
        go_wp2
        go_roundw
        case rel => exact ⟨n - 1, by omega, by congr 1; omega, by rw [HBS0.out]; congr 1; omega, HBX.out, HPB.out, HEN.out, HB.out⟩
        case measure => simp [intOf]; omega
      have HBS := Lib.hid (show P.matchA l st a = P.matchN l st a n by rw [HBS0.out]; congr 1; omega)
      have i8 : ¬ (st.length : Int) < (a : Int) + (n : Int) := by omega
      have i2 : (a : Int) + (n : Int) ≤ (sc : Int) := by omega
      have i3 : ¬ sc = a := by omega
      have i4 : IntKind.i64.wrap ((a : Int) + (n : Int)) = (a : Int) + (n : Int) := by rw [IntKind.wrap_i64]; omega
      have i5 : (0 : Int) ≤ (a : Int) + (n : Int) := by omega
      have i6 : a ≤ ((a : Int) + (n : Int)).toNat := by omega
      have i7 : ((a : Int) + (n : Int)).toNat - a = n := by omega
      clear HBS0
      have hbd := (Below.refl wr.heap.size wr).drew
      have HBD := Lib.hid (hb.trans (hbd.mono hb.size)); have HXD := Lib.hid (HBX.out.below hbd); have HPD := Lib.hid (HPB.out.below hbd); have HED := Lib.hid (HEN.out.below hbd)
      have HFR := Lib.hid (IntR.cut HST.out hns (sc - a) (by omega))
      clear hb hbd hpb
      go_upto_region 5 with fail
      refine wp_region_held_drew (S := Box1 w.heap.size (.slice ad l.length cap)) (by kernel_rfl) HXD.out (fun hS0 => ?_)
      generalize wr.drew = v0 at *
      refine wpAnyH_take (i := 0) (v := .agg #[.slice ad l.length cap]) rfl (by kernel_rfl) (by kernel_rfl) (by kernel_rfl) (fun _ _ _ h => h) (Or.inl ⟨by rfl, fun z hz => ?_⟩) hS0 ?_
      · obtain ⟨z1, z2⟩ := hz
        go_simp
      try simp only [qA, qB, Act.put, qD, qE, qF]
      refine wpAnyH_take (i := 1) (v := .slice (some ⟨g, o, none⟩) st.length sc) rfl (by kernel_rfl) (by kernel_rfl) (by kernel_rfl) (fun _ _ _ h => h) (Or.inl ⟨by rfl, fun z hz => ?_⟩) hS0 ?_
      · obtain ⟨z1, z2⟩ := hz
        go_simp
      try simp only [qA, qB, qC, Act.put, qD, qE, qF]
      refine wpAnyH_take (i := 2) (v := .int .i64 a) rfl (by kernel_rfl) (by kernel_rfl) (by kernel_rfl) (fun _ _ _ h => h) (Or.inl ⟨by rfl, fun z hz => ?_⟩) hS0 ?_
      · obtain ⟨z1, z2⟩ := hz
        go_simp
      try simp only [qA, qB, qC, Act.put, qD, qE, qF]
      refine wpAnyH_take (i := 3) (v := .int .i64 a) rfl (by kernel_rfl) (by kernel_rfl) (by kernel_rfl) (fun _ _ _ h => h) (Or.inl ⟨by rfl, fun z hz => ?_⟩) hS0 ?_
      · obtain ⟨z1, z2⟩ := hz
        go_simp
      try simp only [qA, qB, qC, Act.put, qD, qE, qF]
      refine wpAnyH_take (i := 4) (v := .int .i64 n) rfl (by kernel_rfl) (by kernel_rfl) (by kernel_rfl) (fun _ _ _ h => h) (Or.inl ⟨by rfl, fun z hz => ?_⟩) hS0 ?_
      · obtain ⟨z1, z2⟩ := hz
        go_simp
      try simp only [qA, qB, qC, Act.put, qD, qE, qF]
      refine wpAnyH_take (i := 5) (v := .int .i64 ((a : Int) + (n : Int))) rfl (by kernel_rfl) (by kernel_rfl) (by kernel_rfl) (fun _ _ _ h => h) (Or.inl ⟨by rfl, fun z hz => ?_⟩) hS0 ?_
      · obtain ⟨z1, z2⟩ := hz
        go_simp
      try simp only [qA, qB, qC, Act.put, qD, qE, qF]
      refine wpAnyH_take (i := 6) (v := .slice (some ⟨g, o + a, none⟩) n (sc - a)) rfl (by kernel_rfl) (by kernel_rfl) (by kernel_rfl) (fun _ _ _ h => h) (Or.inl ⟨by rfl, fun z hz => ?_⟩) hS0 ?_
      · obtain ⟨z1, z2⟩ := hz
        go_simp
      try simp only [qA, qB, qC, Act.put, qD, qE, qF]
      refine wpAnyH_ready (rs := [7]) (by kernel_rfl) (by simp) ?_
      refine AllReadyH.cons rfl (fun K hK => ?_) AllReadyH.nil
      go_simp
      refine (l6Find _ _ l ((st.drop a).take n) _ HED.out (HFR.out.below HBD.out)).mono ?_
      rintro e v1 ⟨rfl, hb⟩
      have HB4 := Lib.hid (HBD.out.trans (hb.mono HBD.out.size)); have HX4 := Lib.hid (HXD.out.below hb); have HP4 := Lib.hid (HPD.out.below hb); have HE4 := Lib.hid (HED.out.below hb)
      refine hK.out _ _ (hS0.below hb) (fun hS1 => ?_)
      clear hK K hb hS0
      try simp only [qA, qB, qC, Act.put, qD, qE, qF]
      have HT := Lib.hid (show P.hasE ((st.drop a).take n) l = true → P.matchA l st a = (((a : Int), (n : Int)), P.textAt ((st.drop a).take n) l) from fun h => by
        obtain ⟨m, rfl⟩ : ∃ m, n = m + 1 := ⟨n - 1, by omega⟩
        rw [HBS.out]; unfold P.matchN; rw [if_pos h])
      have HN := Lib.hid (show P.hasE ((st.drop a).take n) l = false → P.matchA l st a = P.matchN l st a (n - 1) from fun h => by
        obtain ⟨m, rfl⟩ : ∃ m, n = m + 1 := ⟨n - 1, by omega⟩
        rw [HBS.out]; conv => lhs; unfold P.matchN
        rw [if_neg (by rw [h]; decide)]; rfl)
      generalize P.textAt ((st.drop a).take n) l = tx at *
      generalize P.hasE ((st.drop a).take n) l = q at *
      refine wpAnyH_take (i := 8) (v := .tuple #[.string (S tx), .bool q]) rfl (by kernel_rfl) (by kernel_rfl) (by kernel_rfl) (fun _ _ _ h => h) (Or.inl ⟨by rfl, fun z hz => ?_⟩) hS1 ?_
      · obtain ⟨z1, z2⟩ := hz
        go_simp
      try simp only [qA, qB, qC, Act.put, qD, qE, qF]
      refine wpAnyH_take (i := 9) (v := .string (S tx)) rfl (by kernel_rfl) (by kernel_rfl) (by kernel_rfl) (fun _ _ _ h => h) (Or.inl ⟨by rfl, fun z hz => ?_⟩) hS1 ?_
      · obtain ⟨z1, z2⟩ := hz
        go_simp
      try simp only [qA, qB, qC, Act.put, qD, qE, qF]
      refine wpAnyH_take (i := 10) (v := .bool q) rfl (by kernel_rfl) (by kernel_rfl) (by kernel_rfl) (fun _ _ _ h => h) (Or.inl ⟨by rfl, fun z hz => ?_⟩) hS1 ?_
      · obtain ⟨z1, z2⟩ := hz
        go_simp
      try simp only [qA, qB, qC, Act.put, qD, qE, qF]
      refine wpAnyH_take (i := 11) (v := .string (S tx)) rfl (by kernel_rfl) (by kernel_rfl) (by kernel_rfl) (fun _ _ _ h => h) (Or.inl ⟨by rfl, fun z hz => ?_⟩) hS1 ?_
      · obtain ⟨z1, z2⟩ := hz
        go_simp
      try simp only [qA, qB, qC, Act.put, qD, qE, qF]
      refine wpAnyH_take (i := 12) (v := .bool q) rfl (by kernel_rfl) (by kernel_rfl) (by kernel_rfl) (fun _ _ _ h => h) (Or.inl ⟨by rfl, fun z hz => ?_⟩) hS1 ?_
      · obtain ⟨z1, z2⟩ := hz
        go_simp
      try simp only [qA, qB, qC, Act.put, qD, qE, qF]
      refine wpAnyH_done (by kernel_rfl) ?_ _
      clear hS1
      cases q
      · have HNN := Lib.hid (HN.out rfl)
        clear HT HN
        go_wp2
        go_roundw
        case rel => exact ⟨n - 1, by omega, by congr 1; omega, by rw [HNN.out]; congr 1; omega, HX4.out, HP4.out, HE4.out, HB4.out⟩
        case measure => simp [intOf]; omega
      · have HTT := Lib.hid (HT.out rfl)
        clear HT HN
        obtain ⟨p0, p1, p2, ⟨p3, p4, p5⟩, p6⟩ := HP4.out
        go_wp2
        refine bodyPost_ret (v := .agg #[.int .i64 a, .int .i64 n, .string (S tx)]) (by simp [results, Tryz.results219, go_sem, p0, p1, p2]) rfl ⟨by rw [HTT.out], ?_⟩
        exact ((HB4.out.setCell (by simp) _).setCell (by simp) _).setCell (by simp) _
    · have i1 : ¬ (0 : Int) < (n : Int) := by omega
      have HTT := Lib.hid (show P.matchA l st a = (((a : Int), 1), []) by rw [HBS0.out, show n = 0 by omega, Nat.zero_min]; rfl)
      clear hb
      obtain ⟨p0, p1, p2, ⟨p3, p4, p5⟩, p6⟩ := HPB.out
      go_wp2
      refine bodyPost_ret (v := .agg #[.int .i64 a, .int .i64 1, .string (S [])]) (by simp [results, Tryz.results219, go_sem, p0, p1, p2]) rfl ⟨by rw [HTT.out], ?_⟩
      exact ((HB.out.setCell (by simp) _).setCell (by simp) _).setCell (by simp) _
end Go.Proofs.YtmlklnimoknojaaGreatDoor
