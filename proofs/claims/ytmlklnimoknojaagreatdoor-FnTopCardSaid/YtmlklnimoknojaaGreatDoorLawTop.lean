/- The law FnTop: a drawn replay's edits lead to the screen of a fresh translation, and undoing all leads back. -/
import Derived.Deep.DeepCutAuto
import Derived.Deep.RegionLaw
import Derived.Deep.RegionHeld
import Derived.Test.YtmlklnimoknojaaGreatDoorScrS8
import Derived.Test.YtmlklnimoknojaaGreatDoorScrS7
import Derived.Test.YtmlklnimoknojaaGreatDoorCompE
import Derived.Test.YtmlklnimoknojaaGreatDoorLawUnd
import Derived.Test.YtmlklnimoknojaaGreatDoorDrawRp
import Derived.Test.YtmlklnimoknojaaGreatDoorVBig
namespace Go.Proofs.YtmlklnimoknojaaGreatDoor
open Go Go.RowKit
set_option maxHeartbeats 8000000
set_option maxRecDepth 100000
theorem P.rpl_len (d : P.Dic) (st : List Int) : (P.replay d st).1.1.length ≤ st.length ∧ (P.replay d st).1.2.1.length ≤ st.length := by
  unfold P.replay
  split
  · split
    · exact ⟨Nat.zero_le _, Nat.zero_le _⟩
    · rename_i r h
      obtain ⟨es, t⟩ := r
      obtain ⟨h1, h2, _⟩ := P.replayN_small h
      exact ⟨Nat.le_of_eq h1, h2⟩
  · exact ⟨Nat.zero_le _, Nat.zero_le _⟩
theorem law_top (v : Value) (wz : World) (hc : CodeAny wz v) (hE : Env wz) :
    Calls Tryz.prog 3 #[v] wz fun e w' => e = .returned (.bool true) ∧ Below wz.heap.size wz w' := by
  obtain ⟨ad0, n0, cap0, rfl, hn, hr⟩ := hc
  have HEZ := Lib.hid hE
  clear hE
  go_enter Tryz.func3, Tryz.ntmps3
  go_wp2_with fail
  refine (vBig _ n0 ad0 cap0 rfl hn _).mono ?_
  rintro e w' ⟨rfl, rfl⟩
  cases hbig : decide (65536 < n0)
  · have HCD := Lib.hid (show CodeIs wz (.slice ad0 n0 cap0) from ⟨ad0, n0, cap0, rfl, by have := of_decide_eq_false hbig; omega, hr⟩)
    clear hbig hr
    go_wp2_with fail
    refine (drawReplay _ _ HCD.out).mono ?_
    rintro e w ⟨l, u, st, us, rfl, hdl, hrd, hrow, hst, hb⟩
    have HSL := Lib.hid hdl.small
    obtain ⟨ad, cap, rfl, _, _⟩ := id hrd
    obtain ⟨sd, sc0, rfl, _, _⟩ := id hrow
    have HU := Lib.hid hrd; have HST := Lib.hid hrow; have HBD := Lib.hid hb
    have HE := Lib.hid (HEZ.out.below hb HEZ.out.size)
    have HSM := Lib.hid (show st.length ≤ 2 ^ 20 by omega)
    clear hrd hrow hdl hst hb HCD HEZ
    obtain ⟨es, nx, sc, ok, hr⟩ : ∃ es nx sc ok, P.replay l st = ((es, (nx, sc)), ok) := ⟨_, _, _, _, rfl⟩
    have HR := Lib.hid hr
    have HLEN := Lib.hid (show es.length ≤ 2 ^ 20 ∧ nx.length ≤ 2 ^ 20 from by have h := P.rpl_len l st; rw [hr] at h; simp only at h; have := HSM.out; omega)
    have HFAL := Lib.hid (fun h : ok = false => P.replay_false (d := l) (st := st) (es := es) (t := (nx, sc)) (by rw [hr, h]))
    have HTRU := Lib.hid (fun h : ok = true => P.replay_true (d := l) (st := st) (es := es) (t := (nx, sc)) (by rw [hr, h]))
    clear hr
    have hb := (Below.refl w.heap.size w).alloc (Nat.le_refl _) (.cells #[.slice ad l.length cap] 26)
    have HB_0 := Lib.hid (hb)
    have A_0 := Lib.hid (Box1.new (.slice ad l.length cap) 26 w)
    clear hb
    go_upto_region 4 with fail
    generalize w.alloc (.cells #[.slice ad l.length cap] 26) = v0 at *
    obtain ⟨c_A, _⟩ := A_0.out
    go_wp2_with fail
    refine ((impl_replay _ _ l st _ (HU.out.below HB_0.out) (HST.out.below HB_0.out) HSL.out (HE.out.below HB_0.out HE.out.size)).mono (rp_read HR.out ⟨Nat.le_trans HLEN.out.1 (by decide), Nat.le_trans HLEN.out.2 (by decide)⟩)).mono ?_
    rintro e w1 ⟨d1, c1, d2, c2, rfl, hf, hi, hb⟩
    clear c_A
    have HB_1 := Lib.hid (HB_0.out.trans (hb.mono HB_0.out.size))
    have A_1 := Lib.hid (A_0.out.below hb)
    clear HB_0 A_0 hb
    have F1_0 := Lib.hid (hf)
    have I1_0 := Lib.hid (hi)
    clear hf hi
    have hb := (Below.refl w1.heap.size w1).alloc (Nat.le_refl _) (.cells #[.slice d2 nx.length c2, .string (S sc)] 32)
    have HB_2 := Lib.hid (HB_1.out.trans (hb.mono HB_1.out.size))
    have A_2 := Lib.hid (A_1.out.below hb)
    have F1_1 := Lib.hid (F1_0.out.below hb)
    have I1_1 := Lib.hid (I1_0.out.below hb)
    clear HB_1 A_1 F1_0 I1_0 hb
    have T6_0 := Lib.hid (Box2E.new (.slice d2 nx.length c2) sc 32 w1)
    go_upto_region 5 with fail
    obtain ⟨b6, hb6⟩ : ∃ b, w1.heap.size = b := ⟨_, rfl⟩
    generalize w1.alloc (.cells #[.slice d2 nx.length c2, .string (S sc)] 32) = v1 at *
    rw [hb6] at *
    clear hb6
    obtain ⟨c_A, _⟩ := A_2.out
    go_wp2_with fail
    refine ((spec_replay _ _ l st _ (HU.out.below HB_2.out) (HST.out.below HB_2.out) HSL.out).mono (rp_read HR.out ⟨Nat.le_trans HLEN.out.1 (by decide), Nat.le_trans HLEN.out.2 (by decide)⟩)).mono ?_
    rintro e w2 ⟨e1, f1, e2, f2, rfl, hf, hi, hb⟩
    clear c_A
    have HB_3 := Lib.hid (HB_2.out.trans (hb.mono HB_2.out.size))
    have A_3 := Lib.hid (A_2.out.below hb)
    have F1_2 := Lib.hid (F1_1.out.below hb)
    have I1_2 := Lib.hid (I1_1.out.below hb)
    have T6_1 := Lib.hid (T6_0.out.below hb)
    clear HB_2 A_2 F1_1 I1_1 T6_0 hb
    have F2_0 := Lib.hid (hf)
    have I2_0 := Lib.hid (hi)
    clear hf hi
    have hb := (Below.refl w2.heap.size w2).alloc (Nat.le_refl _) (.cells #[.slice e2 nx.length f2, .string (S sc)] 32)
    have HB_4 := Lib.hid (HB_3.out.trans (hb.mono HB_3.out.size))
    have A_4 := Lib.hid (A_3.out.below hb)
    have F1_3 := Lib.hid (F1_2.out.below hb)
    have I1_3 := Lib.hid (I1_2.out.below hb)
    have T6_2 := Lib.hid (T6_1.out.below hb)
    have F2_1 := Lib.hid (F2_0.out.below hb)
    have I2_1 := Lib.hid (I2_0.out.below hb)
    clear HB_3 A_3 F1_2 I1_2 T6_1 F2_0 I2_0 hb
    have T9_0 := Lib.hid (Box2E.new (.slice e2 nx.length f2) sc 32 w2)
    go_upto_region 6 with fail
    obtain ⟨b9, hb9⟩ : ∃ b, w2.heap.size = b := ⟨_, rfl⟩
    generalize w2.alloc (.cells #[.slice e2 nx.length f2, .string (S sc)] 32) = v2 at *
    rw [hb9] at *
    clear hb9
    go_wp2_with fail
    refine (vEdits _ _ es _ F1_3.out F2_1.out).mono ?_
    rintro e w3 ⟨rfl, hb⟩
    have HB_5 := Lib.hid (HB_4.out.trans (hb.mono HB_4.out.size))
    have A_5 := Lib.hid (A_4.out.below hb)
    have F1_4 := Lib.hid (F1_3.out.below hb)
    have I1_4 := Lib.hid (I1_3.out.below hb)
    have T6_3 := Lib.hid (T6_2.out.below hb)
    have F2_2 := Lib.hid (F2_1.out.below hb)
    have I2_2 := Lib.hid (I2_1.out.below hb)
    have T9_1 := Lib.hid (T9_0.out.below hb)
    clear HB_4 A_4 F1_3 I1_3 T6_2 F2_1 I2_1 T9_0 hb
    obtain ⟨c_T60, c_T61, _⟩ := T6_3.out
    obtain ⟨c_T90, c_T91, _⟩ := T9_1.out
    go_wp2_with fail
    refine (vTranslator _ _ nx sc _ I1_4.out I2_2.out).mono ?_
    rintro e w4 ⟨rfl, hb⟩
    clear c_T60 c_T61 c_T90 c_T91
    have HB_6 := Lib.hid (HB_5.out.trans (hb.mono HB_5.out.size))
    have A_6 := Lib.hid (A_5.out.below hb)
    have F1_5 := Lib.hid (F1_4.out.below hb)
    have I1_5 := Lib.hid (I1_4.out.below hb)
    have T6_4 := Lib.hid (T6_3.out.below hb)
    have F2_3 := Lib.hid (F2_2.out.below hb)
    have I2_3 := Lib.hid (I2_2.out.below hb)
    have T9_2 := Lib.hid (T9_1.out.below hb)
    clear HB_5 A_5 F1_4 I1_4 T6_3 F2_2 I2_2 T9_1 hb
    cases ok
    · have hes := HFAL.out rfl
      subst hes
      go_wp2
      go_ret
      exact ⟨rfl, HBD.out.trans (HB_6.out.mono HBD.out.size)⟩
    obtain ⟨hdic, hst, hN⟩ := HTRU.out rfl
    have HN := Lib.hid hN; have HD := Lib.hid hdic
    have hinv := P.replayN_inv hdic hN
    have HTR := Lib.hid hinv.2.1; have HPF := Lib.hid hinv.2.2; have HEL := Lib.hid (show es.length = st.length from hinv.1)
    have HUR := Lib.hid HU.out
    obtain ⟨ud, hud, hun, hul⟩ := P.undo_whole HTR.out HPF.out
    have HUD := Lib.hid hud; have HUN := Lib.hid hun; have HUL := Lib.hid (show ud.length = nx.length from hul)
    have HNL := Lib.hid (show nx.length ≤ 60 ∧ sc.length ≤ 2000 from P.trans_len HTR.out)
    clear hN hdic hinv hud hun hul hst
    have HBW := Lib.hid HB_6.out; have HA := Lib.hid A_6.out; have HF := Lib.hid F1_5.out; have HI := Lib.hid I1_5.out; have H6 := Lib.hid T6_4.out
    clear HB_6 A_6 F1_5 I1_5 T6_4 F2_3 I2_3 T9_2
    have hz4 : w.heap.size ≤ w4.heap.size := HBW.out.size
    have HB4 := Lib.hid (show Below w4.heap.size w4 (w4.alloc (.cells #[.int .i64 0, .string (S [])] 38)) from (Below.refl w4.heap.size w4).alloc (Nat.le_refl _) _)
    have HX0 := Lib.hid (show AllBx w4.heap.size 0 [] (w4.alloc (.cells #[.int .i64 0, .string (S [])] 38)) from ⟨by simp, by go_simp, by go_simp, by go_simp, by go_simp⟩)
    go_wp2
    go_loopw [11, 12, 14, 15] (fun sv fv cv i wr => ∃ (j : Nat) (t : P.Tr) (c : Bool) (x : Int) (y : Str), j ≤ es.length ∧ i = .int .i64 j ∧ sv = .string (S t.2) ∧ fv = .bool true ∧ cv = .bool c ∧ P.replayN l st j = some (es.take j, t) ∧ Below w4.heap.size w4 wr ∧ AllBx w4.heap.size x y wr ∧ (c = true → x = 0 ∧ y = t.2)) (fun _ _ _ i _ => es.length - (intOf i).toNat)
    case atStart => exact ⟨0, P.tr0, true, 0, [], Nat.zero_le _, rfl, rfl, rfl, rfl, rfl, HB4.out, HX0.out, fun _ => ⟨rfl, rfl⟩⟩
    case round =>
      obtain ⟨j, t, c, x, y, hj, rfl, rfl, rfl, rfl, hNj, hbw, hbx, hcc⟩ := hrel
      have HNJ := Lib.hid hNj; have HBB := Lib.hid hbw; have HBX := Lib.hid hbx; have HCC := Lib.hid hcc
      clear hNj hbw hbx hcc HB4 HX0
      by_cases hlt : j < es.length
      · have hlst : j < st.length := by have := HEL.out; omega
        obtain ⟨hl0, tj, h1, h2, h3, h4, h5⟩ := P.replay_edit HD.out HN.out hlst HNJ.out rfl
        have HJ1 := Lib.hid h1; have HJ2 := Lib.hid h2; have HJ3 := Lib.hid h3
        have hsl5 := P.screen_len h5; have hsl4 := P.screen_len h4
        have HCW := Lib.hid (fun h : (P.compE (0, t.2) (es[j])).2 = true => show (P.compE (0, t.2) (es[j])).1 = (0, tj.2) by rw [h2] at h ⊢; exact P.comp_write h)
        clear h1 h2 h3 h4 h5
        obtain ⟨gg, o, hga, hgs, d0, d1⟩ := (HF.out.below HBB.out).at j hlt
        subst hga
        have HLE := Lib.hid (show (es[j]).2.length ≤ 2000 from P.apply_text (by rw [HJ3.out]))
        obtain ⟨en, et, hee⟩ : ∃ en et, es[j] = (en, et) := ⟨_, _, rfl⟩
        rw [hee] at d0 d1 HJ3 HCW HLE
        simp only at d0 d1 HLE
        have HLE := HLE.out
        clear HJ2 hee
        have i2 : (j : Int) < (es.length : Int) := by omega
        go_wp2_with fail
        refine (applyEdit t.2 en et _ (by omega) (by omega)).mono ?_
        rintro e w5 ⟨rfl, hb⟩
        rw [HJ3.out]
        have HB5 := Lib.hid (HBB.out.trans (hb.mono HBB.out.size)); have HX5 := Lib.hid (HBX.out.below hb)
        have e0 := (hb.cell (p := ⟨gg, o + j * 2, none⟩) hgs).trans d0; have e1 := (hb.cell (p := ⟨gg, o + j * 2 + 1, none⟩) hgs).trans d1
        have hgs5 : gg < w5.heap.size := Nat.lt_of_lt_of_le hgs hb.size
        clear hb d0 d1 hgs HBB HBX
        cases c
        · clear e0 e1
          go_wp2
          go_roundw
          case rel => exact ⟨j + 1, tj, false, x, y, by omega, by go_num, rfl, rfl, rfl, HJ1.out, HB5.out, HX5.out, fun h => by cases h⟩
          case measure => simp [intOf]; omega
        · obtain ⟨rfl, rfl⟩ := HCC.out rfl
          obtain ⟨q0, q1, q2, q3, q4⟩ := HX5.out
          have HRD := Lib.hid (show AllRd w4.heap.size gg (o + j * 2) 0 en t.2 et w5.drew from AllRd.below ⟨q1, q2, e0, e1, q0, hgs5⟩ (Below.refl _ _).drew)
          have HX6 := Lib.hid (HX5.out.below (Below.refl _ _).drew); have HB6 := Lib.hid (HB5.out.trans ((Below.refl _ _).drew.mono HB5.out.size))
          clear q0 q1 q2 q3 q4 e0 e1 HX5 HB5 hgs5
          obtain ⟨rx, ry, rc, hrr⟩ : ∃ rx ry rc, P.compE (0, t.2) (en, et) = ((rx, ry), rc) := ⟨_, _, _, rfl⟩
          rw [hrr] at HCW
          simp only at HCW
          have HCR := Lib.hid hrr
          clear hrr
          go_upto_region 20 with fail
          refine Left.region [7, 8, 9, 10] (S := AllRd w4.heap.size gg (o + j * 2) 0 en t.2 et) (by kernel_rfl) HRD.out (fun hS0 => ?_)
          generalize w5.drew = v5 at *
          refine Left.take (i := 0) (v := .agg #[.int .i64 0, .string (S t.2)]) rfl (by kernel_rfl) (by kernel_rfl) (by kernel_rfl) (by kernel_rfl) (fun _ _ _ h => h) (Or.inl ⟨by rfl, fun z hz => ?_⟩) hS0 ?_
          · obtain ⟨z1, z2, z3, z4, z5, z6⟩ := hz
            go_simp
          try simp only [qA, qB, Act.put, qD, qE, qF]
          refine Left.take (i := 1) (v := .slice (some ⟨gg, o, none⟩) es.length c1) rfl (by kernel_rfl) (by kernel_rfl) (by kernel_rfl) (by kernel_rfl) (fun _ _ _ h => h) (Or.inl ⟨by rfl, fun z hz => ?_⟩) hS0 ?_
          · obtain ⟨z1, z2, z3, z4, z5, z6⟩ := hz
            go_simp
          try simp only [qA, qB, qC, Act.put, qD, qE, qF]
          refine Left.take (i := 2) (v := .int .i64 j) rfl (by kernel_rfl) (by kernel_rfl) (by kernel_rfl) (by kernel_rfl) (fun _ _ _ h => h) (Or.inl ⟨by rfl, fun z hz => ?_⟩) hS0 ?_
          · obtain ⟨z1, z2, z3, z4, z5, z6⟩ := hz
            go_simp
          try simp only [qA, qB, qC, Act.put, qD, qE, qF]
          refine Left.take (i := 3) (v := .pointer (some ⟨gg, o + j * 2, none⟩)) rfl (by kernel_rfl) (by kernel_rfl) (by kernel_rfl) (by kernel_rfl) (fun _ _ _ h => h) (Or.inl ⟨by rfl, fun z hz => ?_⟩) hS0 ?_
          · obtain ⟨z1, z2, z3, z4, z5, z6⟩ := hz
            go_simp
          try simp only [qA, qB, qC, Act.put, qD, qE, qF]
          refine Left.take (i := 4) (v := .agg #[.int .i64 en, .string (S et)]) rfl (by kernel_rfl) (by kernel_rfl) (by kernel_rfl) (by kernel_rfl) (fun _ _ _ h => h) (Or.inl ⟨by rfl, fun z hz => ?_⟩) hS0 ?_
          · obtain ⟨z1, z2, z3, z4, z5, z6⟩ := hz
            go_simp
          try simp only [qA, qB, qC, Act.put, qD, qE, qF]
          refine Left.ready (rs := [5]) (by kernel_rfl) (by simp) ?_
          refine Nexts.cons rfl (fun K hK => ?_) Nexts.nil
          go_simp
          refine (composeEdits 0 en t.2 et _ (by omega) (by omega)).mono ?_
          rintro e w6 ⟨rfl, hb⟩
          rw [HCR.out]
          simp only
          have HX7 := Lib.hid (HX6.out.below hb); have HB7 := Lib.hid (HB6.out.trans (hb.mono HB6.out.size))
          refine on_held hK (by decide) (hS0.below hb) (fun hS1 => ?_)
          clear hK K hb HX6 HB6 hS0
          try simp only [qA, qB, qC, Act.put, qD, qE, qF]
          refine Left.take (i := 6) (v := .tuple #[.agg #[.int .i64 rx, .string (S ry)], .bool rc]) rfl (by kernel_rfl) (by kernel_rfl) (by kernel_rfl) (by kernel_rfl) (fun _ _ _ h => h) (Or.inl ⟨by rfl, fun z hz => ?_⟩) hS1 ?_
          · obtain ⟨z1, z2, z3, z4, z5, z6⟩ := hz
            go_simp
          try simp only [qA, qB, qC, Act.put, qD, qE, qF]
          obtain ⟨q0, q1, q2, q3, q4⟩ := HX7.out
          obtain ⟨z1, z2, z3, z4, z5, z6⟩ := id hS1
          have hset : Chg (fun k => k = w4.heap.size) w6 ((w6.setCell ⟨w4.heap.size, 0, none⟩ (.int .i64 rx)).setCell ⟨w4.heap.size, 1, none⟩ (.string (S ry))) := ((Chg.refl (fun k => k = w4.heap.size) w6).setCell (p := ⟨w4.heap.size, 0, none⟩) rfl _).setCell (p := ⟨w4.heap.size, 1, none⟩) rfl _
          have HX8 := Lib.hid (show AllBx w4.heap.size rx ry ((w6.setCell ⟨w4.heap.size, 0, none⟩ (.int .i64 rx)).setCell ⟨w4.heap.size, 1, none⟩ (.string (S ry))) from ⟨by simpa [World.setCell] using q0, by go_simp, by go_simp, by go_simp, by go_simp⟩)
          have HB8 := Lib.hid (Chg.belowB HB7.out hset HB7.out.size (fun k hk => by have h9 : k = w4.heap.size := hk; omega))
          refine Left.ready (rs := [7, 8]) (by kernel_rfl) (by simp) ?_
          refine Nexts.cons rfl (fun K hK => ?_) (Nexts.cons rfl (fun K hK => ?_) Nexts.nil)
          · skip
            go_simp
            refine on_last hK (by decide) ?_
            clear hK K
            try simp only [qA, qB, qC, Act.put, qD, qE, qF]
            refine Left.ready (rs := [8, 9]) (by kernel_rfl) (by simp) ?_
            refine Nexts.cons rfl (fun K hK => ?_) (Nexts.cons rfl (fun K hK => ?_) Nexts.nil)
            · skip
              go_simp
              refine on_last hK (by decide) ?_
              clear hK K
              try simp only [qA, qB, qC, Act.put, qD, qE, qF]
              refine Left.ready (rs := [9]) (by kernel_rfl) (by simp) ?_
              refine Nexts.cons rfl (fun K hK => ?_) Nexts.nil
              go_simp
              refine on_last hK (by decide) ?_
              clear hK K
              try simp only [qA, qB, qC, Act.put, qD, qE, qF]
              refine Left.ready (rs := [10]) (by kernel_rfl) (by simp) ?_
              refine Nexts.cons rfl (fun K hK => ?_) Nexts.nil
              go_simp
              refine on_last hK (by decide) ?_
              clear hK K
              try simp only [qA, qB, qC, Act.put, qD, qE, qF]
              refine Left.done (by kernel_rfl) ?_ _
              clear q0 q1 q2 q3 q4 z1 z2 z3 z4 z5 z6 hS1 hset
              go_wp2
              go_roundw
              case rel => exact ⟨j + 1, tj, rc, rx, ry, by omega, by go_num, rfl, rfl, rfl, HJ1.out, HB8.out, HX8.out, fun h => by have h7 := HCW.out h; injection h7 with h8 h9; exact ⟨h8, h9⟩⟩
              case measure => simp [intOf]; omega
            · skip
              go_simp
              refine on_last hK (by decide) ?_
              clear hK K
              try simp only [qA, qB, qC, Act.put, qD, qE, qF]
              refine Left.ready (rs := [8]) (by kernel_rfl) (by simp) ?_
              refine Nexts.cons rfl (fun K hK => ?_) Nexts.nil
              go_simp
              refine on_last hK (by decide) ?_
              clear hK K
              try simp only [qA, qB, qC, Act.put, qD, qE, qF]
              refine Left.ready (rs := [10]) (by kernel_rfl) (by simp) ?_
              refine Nexts.cons rfl (fun K hK => ?_) Nexts.nil
              go_simp
              refine on_last hK (by decide) ?_
              clear hK K
              try simp only [qA, qB, qC, Act.put, qD, qE, qF]
              refine Left.done (by kernel_rfl) ?_ _
              clear q0 q1 q2 q3 q4 z1 z2 z3 z4 z5 z6 hS1 hset
              go_wp2
              go_roundw
              case rel => exact ⟨j + 1, tj, rc, rx, ry, by omega, by go_num, rfl, rfl, rfl, HJ1.out, HB8.out, HX8.out, fun h => by have h7 := HCW.out h; injection h7 with h8 h9; exact ⟨h8, h9⟩⟩
              case measure => simp [intOf]; omega
          · skip
            go_simp
            refine on_last hK (by decide) ?_
            clear hK K
            try simp only [qA, qB, qC, Act.put, qD, qE, qF]
            refine Left.ready (rs := [7]) (by kernel_rfl) (by simp) ?_
            refine Nexts.cons rfl (fun K hK => ?_) Nexts.nil
            go_simp
            refine on_last hK (by decide) ?_
            clear hK K
            try simp only [qA, qB, qC, Act.put, qD, qE, qF]
            refine Left.ready (rs := [9]) (by kernel_rfl) (by simp) ?_
            refine Nexts.cons rfl (fun K hK => ?_) Nexts.nil
            go_simp
            refine on_last hK (by decide) ?_
            clear hK K
            try simp only [qA, qB, qC, Act.put, qD, qE, qF]
            refine Left.ready (rs := [10]) (by kernel_rfl) (by simp) ?_
            refine Nexts.cons rfl (fun K hK => ?_) Nexts.nil
            go_simp
            refine on_last hK (by decide) ?_
            clear hK K
            try simp only [qA, qB, qC, Act.put, qD, qE, qF]
            refine Left.done (by kernel_rfl) ?_ _
            clear q0 q1 q2 q3 q4 z1 z2 z3 z4 z5 z6 hS1 hset
            go_wp2
            go_roundw
            case rel => exact ⟨j + 1, tj, rc, rx, ry, by omega, by go_num, rfl, rfl, rfl, HJ1.out, HB8.out, HX8.out, fun h => by have h7 := HCW.out h; injection h7 with h8 h9; exact ⟨h8, h9⟩⟩
            case measure => simp [intOf]; omega
      · have hjl : j = es.length := by omega
        subst hjl
        have ht : t = (nx, sc) := by
          have h1 := HNJ.out
          rw [HEL.out, HN.out] at h1
          injection h1 with h1
          injection h1 with _ h2
          exact h2.symm
        subst ht
        have HBR := Lib.hid (HBW.out.trans (HBB.out.mono HBW.out.size))
        have HA1 := Lib.hid (HA.out.below HBB.out); have H61 := Lib.hid (H6.out.below HBB.out); have HI1 := Lib.hid (HI.out.below HBB.out)
        have hscr : P.scr l nx = (sc, true) := by
          obtain ⟨h1, h2, _⟩ := P.trans_parts HTR.out
          exact Prod.ext h2 h1
        have HSCR := Lib.hid hscr
        have hnl := HNL.out
        clear hscr HNJ HN HF HI HA H6
        obtain ⟨c0, _⟩ := HA1.out
        obtain ⟨c1', c2', _⟩ := H61.out
        go_wp2_with fail
        refine (impl_screenOf _ _ l nx _ (HUR.out.below HBR.out) HI1.out HSL.out (HE.out.below HBR.out HE.out.size)).mono ?_
        rintro e w7 ⟨rfl, hb⟩
        rw [HSCR.out]
        have HB7 := Lib.hid (HBR.out.trans (hb.mono HBR.out.size)); have HA2 := Lib.hid (HA1.out.below hb); have H62 := Lib.hid (H61.out.below hb); have HI2 := Lib.hid (HI1.out.below hb); have HX2 := Lib.hid (HBX.out.below hb)
        clear hb c0 c1' c2' HA1 H61 HI1 HBX HBB HBR
        obtain ⟨c0, _⟩ := HA2.out
        obtain ⟨c1', c2', _⟩ := H62.out
        go_wp2_with fail
        refine ((impl_undoAll _ _ l nx sc _ (HUR.out.below HB7.out) HI2.out HSL.out (HE.out.below HB7.out HE.out.size)).mono (un_read HUD.out (by have := HUL.out; omega))).mono ?_
        rintro e w8 ⟨g1, g2, rfl, hfu, hb⟩
        have HB8 := Lib.hid (HB7.out.trans (hb.mono HB7.out.size)); have H63 := Lib.hid (H62.out.below hb); have HX3 := Lib.hid (HX2.out.below hb)
        clear hb c0 c1' c2' HA2 H62 HI2 HX2
        rw [HUL.out] at hfu ⊢
        have HFU := Lib.hid hfu; clear hfu
        obtain ⟨c1', c2', _⟩ := H63.out
        obtain ⟨q0, q1, q2, q3, q4⟩ := HX3.out
        have HSCN := Lib.hid (P.trans_screen HTR.out)
        cases c
        · go_wp2
          go_loopw [11, 12, 20] (fun sv fv i wr2 => ∃ (j : Nat) (s : Str), j ≤ nx.length ∧ i = .int .i64 j ∧ sv = .string (S s) ∧ fv = .bool true ∧ P.undoN l (nx, sc) j = some (ud.take j, s) ∧ Below w8.heap.size w8 wr2) (fun _ _ i _ => nx.length - (intOf i).toNat)
          case atStart => exact ⟨0, sc, Nat.zero_le _, rfl, rfl, rfl, rfl, Below.refl _ _⟩
          case round =>
            obtain ⟨k, s, hk, rfl, rfl, rfl, hNk, hbk⟩ := hrel
            have HNK := Lib.hid hNk; have HBK := Lib.hid hbk
            clear hNk hbk
            by_cases hkt : k < nx.length
            · have hku : k < ud.length := by rw [HUL.out]; exact hkt
              obtain ⟨hl0, h1, h2, h3⟩ := P.undo_edit (t := (nx, sc)) HSCN.out HUN.out hkt HNK.out
              have hs2 := P.screen_len (P.undoN_screen (t := (nx, sc)) HSCN.out HNK.out)
              have HK1 := Lib.hid h1; have HK3 := Lib.hid h3
              have hel := P.apply_text (by rw [h3])
              clear h1 h2 h3
              obtain ⟨gg, o, hga, hgs, d0, d1⟩ := (HFU.out.below HBK.out).at k hku
              subst hga
              obtain ⟨en, et, hee⟩ : ∃ en et, ud[k] = (en, et) := ⟨_, _, rfl⟩
              rw [hee] at d0 d1 HK3 hel
              simp only at d0 d1 hel
              clear hee
              have i2 : (k : Int) < (nx.length : Int) := by omega
              go_wp2_with fail
              refine (applyEdit s en et _ (by omega) (by omega)).mono ?_
              rintro e w9 ⟨rfl, hb⟩
              rw [HK3.out]
              have HB9 := Lib.hid (HBK.out.trans (hb.mono HBK.out.size))
              clear hb d0 d1 hgs HBK
              go_wp2
              go_roundw
              case rel => exact ⟨k + 1, _, by omega, by go_num, rfl, rfl, HK1.out, HB9.out⟩
              case measure => simp [intOf]; omega
            · have hkl : k = nx.length := by omega
              subst hkl
              have hs : s = [] := by
                have h1 := HNK.out
                rw [HUN.out] at h1
                injection h1 with h1
                injection h1 with _ h2
                exact h2.symm
              subst hs
              have HBZ := Lib.hid (HB8.out.trans (HBK.out.mono HB8.out.size))
              go_wp2
              go_ret
              exact ⟨by simp, HBD.out.trans (HBZ.out.mono HBD.out.size)⟩
        · obtain ⟨rfl, hy⟩ := HCC.out rfl
          try simp only at hy
          subst y
          go_wp2
          go_loopw [11, 12, 20] (fun sv fv i wr2 => ∃ (j : Nat) (s : Str), j ≤ nx.length ∧ i = .int .i64 j ∧ sv = .string (S s) ∧ fv = .bool true ∧ P.undoN l (nx, sc) j = some (ud.take j, s) ∧ Below w8.heap.size w8 wr2) (fun _ _ i _ => nx.length - (intOf i).toNat)
          case atStart => exact ⟨0, sc, Nat.zero_le _, rfl, rfl, rfl, rfl, Below.refl _ _⟩
          case round =>
            obtain ⟨k, s, hk, rfl, rfl, rfl, hNk, hbk⟩ := hrel
            have HNK := Lib.hid hNk; have HBK := Lib.hid hbk
            clear hNk hbk
            by_cases hkt : k < nx.length
            · have hku : k < ud.length := by rw [HUL.out]; exact hkt
              obtain ⟨hl0, h1, h2, h3⟩ := P.undo_edit (t := (nx, sc)) HSCN.out HUN.out hkt HNK.out
              have hs2 := P.screen_len (P.undoN_screen (t := (nx, sc)) HSCN.out HNK.out)
              have HK1 := Lib.hid h1; have HK3 := Lib.hid h3
              have hel := P.apply_text (by rw [h3])
              clear h1 h2 h3
              obtain ⟨gg, o, hga, hgs, d0, d1⟩ := (HFU.out.below HBK.out).at k hku
              subst hga
              obtain ⟨en, et, hee⟩ : ∃ en et, ud[k] = (en, et) := ⟨_, _, rfl⟩
              rw [hee] at d0 d1 HK3 hel
              simp only at d0 d1 hel
              clear hee
              have i2 : (k : Int) < (nx.length : Int) := by omega
              go_wp2_with fail
              refine (applyEdit s en et _ (by omega) (by omega)).mono ?_
              rintro e w9 ⟨rfl, hb⟩
              rw [HK3.out]
              have HB9 := Lib.hid (HBK.out.trans (hb.mono HBK.out.size))
              clear hb d0 d1 hgs HBK
              go_wp2
              go_roundw
              case rel => exact ⟨k + 1, _, by omega, by go_num, rfl, rfl, HK1.out, HB9.out⟩
              case measure => simp [intOf]; omega
            · have hkl : k = nx.length := by omega
              subst hkl
              have hs : s = [] := by
                have h1 := HNK.out
                rw [HUN.out] at h1
                injection h1 with h1
                injection h1 with _ h2
                exact h2.symm
              subst hs
              have HBZ := Lib.hid (HB8.out.trans (HBK.out.mono HB8.out.size))
              go_wp2
              go_ret
              exact ⟨by simp, HBD.out.trans (HBZ.out.mono HBD.out.size)⟩
  · have hn2 := of_decide_eq_true hbig
    go_wp2
    go_ret
    exact ⟨rfl, Below.refl _ _⟩
end Go.Proofs.YtmlklnimoknojaaGreatDoor
