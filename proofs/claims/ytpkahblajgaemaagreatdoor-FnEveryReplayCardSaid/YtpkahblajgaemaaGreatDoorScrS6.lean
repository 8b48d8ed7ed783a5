/- Walks: a press (reference). -/
import Derived.Test.YtpkahblajgaemaaGreatDoorScrS5
import Derived.Test.YtpkahblajgaemaaGreatDoorScrI5
namespace Go.Proofs.YtpkahblajgaemaaGreatDoor
open Go Go.RowKit
set_option maxHeartbeats 2000000
set_option maxRecDepth 100000
theorem l1OwnO (u : Value) (l : List Int) (w : World) (hu : IntR w u l) (hl : l.length ≤ 2 ^ 30) :
    Calls Tryz.prog 73 #[u] w (OwnPost l w) := by
  obtain ⟨i0, hi, hz0, hz1, hz2⟩ := info_parts info_int
  have hb0 := (Below.refl w.heap.size w).alloc (Nat.le_refl _) (.cells #[] 3)
  have HSRC := Lib.hid (src_of_ints (hu.below hb0))
  have HB := Lib.hid hb0; clear hb0
  have HOWN := Lib.hid (World.ownsRow_lit (base := w.heap.size) (e := 3) (size := 1) w #[] 0 (Nat.le_refl _) (Nat.zero_le _) (by simp))
  obtain ⟨ad, cap, rfl, _, _⟩ := hu
  go_enter Tryz.func73, Tryz.ntmps73
  go_wp2_with (at_builtin; refine wpList_append_src rfl _ _ 27 rfl w.heap.size 3 i0 (.int .i64 0) 1 8 Tryz.underlying27 hi hz0 hz1 hz2 rfl (by decide) _ 0 [] rfl HOWN.out _ l.length (ints l) rfl HSRC.out ?_ ?_ (by simp) ?_)
  · unfold maxLen; omega
  · omega
  intro v' w' hown hgr _
  have HOW := Lib.hid hown
  have HBB := Lib.hid (HB.out.grown hgr (by simp) (fun k hk => by simp [Value.ownBlock] at hk; omega))
  clear hown hgr
  go_wp2
  go_ret
  refine ⟨_, rfl, ?_, HBB.out⟩
  exact HOW.out
theorem spec_press (dv sv : Value) (l : P.Dic) (st : List Int) (t : Str) (k : Int) (w : World) (hu : EntR w dv l) (hs : IntR w sv st) (hm : Small l) (hst : st.length ≤ 2 ^ 20) (ht : t.length ≤ 2 ^ 30) :
    Calls Tryz.prog 30 #[.agg #[dv], transV sv t, .int .i64 k] w (PressPost (P.press l (st, t) k) w) := by
  obtain ⟨W0, hW0⟩ : ∃ v, ((((w.alloc (.cells #[dv] 26)).alloc (.cells #[sv, .string (S t)] 32)).alloc (.cells #[.slice none 0 0, .string (S [])] 32)).alloc (.cells #[.int .i64 0, .string (S [])] 38)) = v := ⟨_, rfl⟩
  have hb0 : Below w.heap.size w W0 := by rw [← hW0]; exact ((((Below.refl w.heap.size w).alloc (Nat.le_refl _) _).alloc (by simp) _).alloc (by simp; omega) _).alloc (by simp; omega) _
  have hz0' : W0.heap.size = w.heap.size + 4 := by rw [← hW0]; simp
  have hx0 : PrBx w.heap.size sv t dv W0 := by
    subst hW0
    refine ⟨⟨by simp <;> omega, by go_simp⟩, ⟨by simp <;> omega, by go_simp, by go_simp, by go_simp, by go_simp⟩, ⟨by simp <;> omega, by go_simp, by go_simp, by go_simp, by go_simp⟩, ⟨by simp, by go_simp, by go_simp, by go_simp, by go_simp⟩⟩
  have HU := Lib.hid (hu.below hb0); have HST := Lib.hid (hs.below hb0); have HB0 := Lib.hid hb0
  have HX := Lib.hid hx0; have HZ0 := Lib.hid hz0'
  clear hb0 hz0'
  obtain ⟨ad, cap, rfl, _, _⟩ := hu
  obtain ⟨sd, sc, rfl, _, _⟩ := hs
  unfold transV
  go_enter Tryz.func30, Tryz.ntmps30
  go_upto_region 1 with (fail)
  try rw [hW0]
  clear hW0
  obtain ⟨i0, hi, hz0, hz1, hz2⟩ := info_parts info_int
  obtain ⟨⟨_, k0⟩, ⟨k1, k2, k3, _⟩, _, _⟩ := hx0
  go_wp2_with fail
  refine (l14Good _ _ l st t _ HU.out HST.out hm).mono ?_
  rintro e w1 ⟨rfl, hb⟩
  have HB1 := Lib.hid hb; have HX1 := Lib.hid (HX.out.below hb); have HST1 := Lib.hid (HST.out.below hb); have HU1 := Lib.hid (HU.out.below hb)
  clear hb k0 k1 k2 k3
  obtain ⟨⟨_, k0⟩, ⟨_, k1, k2, _, _⟩, ⟨_, k3, k4, k7, k8⟩, ⟨_, k5, k6, k9, k10⟩⟩ := HX1.out
  have HP := Lib.hid (show P.press l (st, t) k = if P.trans l (st, t) && P.stroke k then P.pressP l (st, t) k else ((P.tr0, (0, [])), false) from rfl)
  generalize P.trans l (st, t) = q at *
  cases q
  · go_wp2
    refine bodyPost_ret (v := .tuple #[transV (.slice none 0 0) [], editV (0, []), .bool false]) (by simp [transV, editV, k3, k4, k5, k6, results, Tryz.results30, go_sem]) rfl ⟨.slice none 0 0, by rw [HP.out]; rfl, by rw [HP.out]; exact World.ownsRow_nil _ _ _ _, ?_⟩
    exact (((((HB0.out.trans (HB1.out.mono HB0.out.size)).setCell (by simp <;> omega) _).setCell (by simp <;> omega) _).setCell (by simp <;> omega) _).setCell (by simp <;> omega) _)
  · go_wp2_with fail
    refine (l2Good _ _).mono ?_
    rintro e w2 ⟨rfl, rfl⟩
    generalize P.stroke k = q at *
    cases q
    · go_wp2
      refine bodyPost_ret (v := .tuple #[transV (.slice none 0 0) [], editV (0, []), .bool false]) (by simp [transV, editV, k3, k4, k5, k6, results, Tryz.results30, go_sem]) rfl ⟨.slice none 0 0, by rw [HP.out]; rfl, by rw [HP.out]; exact World.ownsRow_nil _ _ _ _, ?_⟩
      exact (((((HB0.out.trans (HB1.out.mono HB0.out.size)).setCell (by simp <;> omega) _).setCell (by simp <;> omega) _).setCell (by simp <;> omega) _).setCell (by simp <;> omega) _)
    · rw [Bool.and_self, if_pos rfl] at HP
      have HBW := Lib.hid (HB0.out.trans (HB1.out.mono HB0.out.size))
      have hzz : w.heap.size + 4 ≤ w1.heap.size := by have h1 := HB1.out.size; have h2 := HZ0.out; omega
      clear HB1 HX HU HST HB0 HZ0 k3 k4 k5 k6 k7 k8 k9 k10
      go_wp2_with fail
      refine (l1OwnO _ st _ HST1.out (by omega)).mono ?_
      rintro e x1 ⟨u, rfl, ho, hb⟩
      have GB1 := Lib.hid hb; have GX1 := Lib.hid (HX1.out.below hb); have HOW := Lib.hid ho
      obtain ⟨ua, uc, rfl⟩ := ownK_form ho
      have hz1' := hb.size
      clear k0 k1 k2 ho hb
      have HOW2 := Lib.hid (HOW.out.alloc (.cells #[.int .i64 k] 3))
      go_wp2_with (at_builtin; refine wpList_append_own _ rfl _ _ 27 rfl w1.heap.size 3 i0 (.int .i64 0) 1 8 Tryz.underlying27 hi hz0 hz1 hz2 rfl (by decide) (.slice ua st.length uc) st.length (ints st) rfl HOW2.out ⟨x1.heap.size, 0, none⟩ 1 1 [.int .i64 k] rfl rfl ?_ ?_ ?_ ?_ ?_ ?_)
      all_goals first | exact ⟨rfl, rfl⟩ | (intro z hz; simp only [List.mem_cons, List.not_mem_nil, or_false] at hz; subst hz; rfl) | (unfold maxLen; omega) | omega | (simp; omega) | (intro i z hz; rcases i with _ | i; (injection hz with hz; subst hz; rw [add0]; go_simp); cases hz) | skip
      intro u4 w4 hown hgr _
      have R := Lib.hid (own_app HOW.out GB1.out 3 hown hgr)
      have HX4 := Lib.hid (HX1.out.below R.out.2)
      have hz4 := R.out.2.size
      clear hown hgr
      obtain ⟨va, vc, rfl⟩ := ownK_form R.out.1
      have HU4 := Lib.hid (HU1.out.below R.out.2)
      go_upto_if 30 with fail
      go_cut [9] (fun u wx => (∃ a c, u = .slice a (P.next st k).length c) ∧ OwnK w1.heap.size wx u (P.next st k) ∧ Below w1.heap.size w1 wx)
      case first =>
        by_cases hk : k = 1024
        · subst hk
          have HN := Lib.hid (show P.next st 1024 = (st ++ [1024]).take (st.length - 1) by unfold P.next; rw [if_pos rfl, List.take_append_of_le_length (by omega)])
          have HL := Lib.hid (show (P.next st 1024).length = st.length - 1 by rw [HN.out, List.length_take, List.length_append]; omega)
          have i1 : ((1024 : Int) == 1024) = true := rfl
          obtain ⟨m, hm⟩ : ∃ m, st.length - 1 = m := ⟨_, rfl⟩
          rw [hm] at HL
          have HN2 := Lib.hid (show P.next st 1024 = st.take m by unfold P.next; rw [if_pos rfl, hm])
          have HMX := Lib.hid (show max ((st.length : Int) - 1) 0 = (m : Int) by omega)
          have i7 : IntKind.i64.wrap ((st.length : Int) - 1) = (st.length : Int) - 1 := by rw [IntKind.wrap_i64]; omega
          have hbd := (Below.refl w4.heap.size w4).drew
          have HT0 := Lib.hid (HX4.out.2.1.below hbd); have HST5 := Lib.hid ((HST1.out.below R.out.2).below hbd); have HB5 := Lib.hid (R.out.2.trans (hbd.mono hz4))
          clear hbd
          go_upto_region 5 with fail
          refine wp_region_held_drew (S := TBx (w.heap.size + 1) (.slice sd st.length sc) t) (by kernel_rfl) HT0.out (fun hS0 => ?_)
          generalize w4.drew = v1 at *
          refine wpAnyH_take (i := 0) (v := .pointer (some ⟨w.heap.size + 1, 0, none⟩)) rfl (by kernel_rfl) (by kernel_rfl) (by kernel_rfl) (fun _ _ _ h => h) (Or.inl ⟨by rfl, fun z hz => ?_⟩) hS0 ?_
          · obtain ⟨_, b1, b2, _, _⟩ := hz
            go_simp
          try simp only [List.getElem_toArray, List.getElem_cons_zero, Act.put, List.setIfInBounds_toArray, List.set_cons_zero, List.set_cons_succ]
          refine wpAnyH_take (i := 1) (v := .slice sd st.length sc) rfl (by kernel_rfl) (by kernel_rfl) (by kernel_rfl) (fun _ _ _ h => h) (Or.inl ⟨by rfl, fun z hz => ?_⟩) hS0 ?_
          · obtain ⟨_, b1, b2, _, _⟩ := hz
            go_simp
          try simp only [List.getElem_toArray, List.getElem_cons_zero, List.getElem_cons_succ, Act.put, List.setIfInBounds_toArray, List.set_cons_zero, List.set_cons_succ]
          refine wpAnyH_take (i := 3) (v := .pointer (some ⟨w.heap.size + 1, 0, none⟩)) rfl (by kernel_rfl) (by kernel_rfl) (by kernel_rfl) (fun _ _ _ h => h) (Or.inl ⟨by rfl, fun z hz => ?_⟩) hS0 ?_
          · obtain ⟨_, b1, b2, _, _⟩ := hz
            go_simp
          try simp only [List.getElem_toArray, List.getElem_cons_zero, List.getElem_cons_succ, Act.put, List.setIfInBounds_toArray, List.set_cons_zero, List.set_cons_succ]
          refine wpAnyH_take (i := 4) (v := .slice sd st.length sc) rfl (by kernel_rfl) (by kernel_rfl) (by kernel_rfl) (fun _ _ _ h => h) (Or.inl ⟨by rfl, fun z hz => ?_⟩) hS0 ?_
          · obtain ⟨_, b1, b2, _, _⟩ := hz
            go_simp
          try simp only [List.getElem_toArray, List.getElem_cons_zero, List.getElem_cons_succ, Act.put, List.setIfInBounds_toArray, List.set_cons_zero, List.set_cons_succ]
          refine wpAnyH_take (i := 5) (v := .int .i64 st.length) rfl (by kernel_rfl) (by kernel_rfl) (by kernel_rfl) (fun _ _ _ h => h) (Or.inl ⟨by rfl, fun z hz => ?_⟩) hS0 ?_
          · obtain ⟨_, b1, b2, _, _⟩ := hz
            go_simp
          try simp only [List.getElem_toArray, List.getElem_cons_zero, List.getElem_cons_succ, Act.put, List.setIfInBounds_toArray, List.set_cons_zero, List.set_cons_succ]
          refine wpAnyH_take (i := 6) (v := .int .i64 ((st.length : Int) - 1)) rfl (by kernel_rfl) (by kernel_rfl) (by kernel_rfl) (fun _ _ _ h => h) (Or.inl ⟨by rfl, fun z hz => ?_⟩) hS0 ?_
          · obtain ⟨_, b1, b2, _, _⟩ := hz
            go_simp
          try simp only [List.getElem_toArray, List.getElem_cons_zero, List.getElem_cons_succ, Act.put, List.setIfInBounds_toArray, List.set_cons_zero, List.set_cons_succ]
          refine wpAnyH_ready (rs := [2]) (by kernel_rfl) (by simp) ?_
          refine AllReadyH.cons rfl (fun K hK => ?_) AllReadyH.nil
          · go_simp
            refine (l1OwnO _ st _ HST5.out (by omega)).mono ?_
            rintro e x2 ⟨u, rfl, ho, hb⟩
            obtain ⟨ya, yc, rfl⟩ := ownK_form ho
            have HOY := Lib.hid (own_base ho HB5.out.size); have HBY := Lib.hid (HB5.out.trans (hb.mono HB5.out.size))
            refine hK.out _ _ (hS0.below hb) (fun hS1 => ?_)
            clear hK K hS0 ho hb
            try simp only [List.getElem_toArray, List.getElem_cons_zero, List.getElem_cons_succ, Act.put, List.setIfInBounds_toArray, List.set_cons_zero, List.set_cons_succ]
            refine wpAnyH_ready (rs := [7]) (by kernel_rfl) (by simp) ?_
            refine AllReadyH.cons rfl (fun K hK => ?_) AllReadyH.nil
            go_simp
            refine (l1Most _ _ _).mono ?_
            rintro e x3 ⟨rfl, rfl⟩
            refine hK.out _ _ hS1 (fun hS2 => ?_)
            clear hK K hS1
            try simp only [List.getElem_toArray, List.getElem_cons_zero, List.getElem_cons_succ, Act.put, List.setIfInBounds_toArray, List.set_cons_zero, List.set_cons_succ]
            rw [HMX.out]
            have hyc := (ownK_read HOY.out (by omega)).cap
            have i5 : (m : Int) ≤ (yc : Int) := by omega
            have i6 : m ≤ yc := by omega
            have HR := Lib.hid (show OwnK w1.heap.size x3 (.slice ya m yc) (P.next st 1024) by
              rw [HN2.out]
              by_cases h0 : st = []
              · subst h0
                have hm0 : m = 0 := by simp at hm; omega
                subst hm0
                exact HOY.out
              · exact ownK_take HOY.out h0 (by omega))
            refine wpAnyH_take (i := 8) (v := .slice ya m yc) rfl (by kernel_rfl) (by kernel_rfl) (by kernel_rfl) (fun _ _ _ h => h) (Or.inl ⟨by rfl, fun z hz => ?_⟩) hS2 ?_
            · obtain ⟨_, b1, b2, _, _⟩ := hz
              go_simp
            try simp only [List.getElem_toArray, List.getElem_cons_zero, List.getElem_cons_succ, Act.put, List.setIfInBounds_toArray, List.set_cons_zero, List.set_cons_succ]
            refine wpAnyH_take (i := 9) (v := .slice ya m yc) rfl (by kernel_rfl) (by kernel_rfl) (by kernel_rfl) (fun _ _ _ h => h) (Or.inl ⟨by rfl, fun z hz => ?_⟩) hS2 ?_
            · obtain ⟨_, b1, b2, _, _⟩ := hz
              go_simp
            try simp only [List.getElem_toArray, List.getElem_cons_zero, List.getElem_cons_succ, Act.put, List.setIfInBounds_toArray, List.set_cons_zero, List.set_cons_succ]
            refine wpAnyH_done (by kernel_rfl) ?_ _
            clear hS2
            go_wp2
            go_meet
            exact ⟨⟨ya, yc, by rw [HL.out]⟩, HR.out, HBY.out⟩
        · have i1 : (k == 1024) = false := by simpa using hk
          have HN := Lib.hid (show st ++ [k] = P.next st k by unfold P.next; rw [if_neg hk])
          have HR := Lib.hid (show OwnK w1.heap.size w4 (.slice va (st ++ [k]).length vc) (P.next st k) by rw [← HN.out]; exact R.out.1)
          rw [HN.out] at HR ⊢
          go_wp2
          go_meet
          exact ⟨⟨_, _, rfl⟩, HR.out, R.out.2⟩
      case rest =>
        obtain ⟨⟨a, c, rfl⟩, ho, hbc⟩ := hcut
        have GX := Lib.hid (HX1.out.below hbc); have GU := Lib.hid (HU1.out.below hbc); have GB := Lib.hid hbc; have hzc := hbc.size
        have HN := Lib.hid (show P.pressP l (st, t) k = if (P.scr l (P.next st k)).2 then (((P.next st k, (P.scr l (P.next st k)).1), P.least t (P.scr l (P.next st k)).1), true) else ((P.tr0, (0, [])), false) from rfl)
        have hnl := P.next_len st k
        have hsl := P.scr_len l (P.next st k)
        generalize P.next st k = nx at *
        have HI := Lib.hid (ownK_read ho (by omega))
        have HO4 := Lib.hid ho
        obtain ⟨⟨_, k0⟩, _, _, _⟩ := GX.out
        clear ho hbc
        go_wp2_with fail
        refine (spec_screenOf _ _ l nx _ GU.out HI.out hm).mono ?_
        rintro e w5 ⟨rfl, hb5⟩
        generalize P.scr l nx = r at *
        obtain ⟨r1, r2⟩ := r
        simp only at hsl
        have HX5 := Lib.hid (GX.out.below hb5); have HB5 := Lib.hid (GB.out.trans (hb5.mono hzc)); have HO5 := Lib.hid (own_kept HO4.out hb5 (Nat.le_refl _))
        have hz5 := hb5.size
        clear hb5 k0
        cases r2
        · obtain ⟨_, ⟨_, k1, k2, _⟩, ⟨_, k3, k4, k7, k8⟩, ⟨_, k5, k6, k9, k10⟩⟩ := HX5.out
          go_wp2
          refine bodyPost_ret (v := .tuple #[transV (.slice none 0 0) [], editV (0, []), .bool false]) (by simp [transV, editV, k3, k4, k5, k6, results, Tryz.results30, go_sem]) rfl ⟨.slice none 0 0, by rw [HP.out, HN.out]; rfl, by rw [HP.out, HN.out]; exact World.ownsRow_nil _ _ _ _, ?_⟩
          exact (((((HBW.out.trans (HB5.out.mono HBW.out.size)).setCell (by simp <;> omega) _).setCell (by simp <;> omega) _).setCell (by simp <;> omega) _).setCell (by simp <;> omega) _)
        · obtain ⟨_, ⟨_, k1, k2, _⟩, _, _⟩ := HX5.out
          go_wp2_with fail
          refine (l13Least t r1 _ ht (by omega)).mono ?_
          rintro e w6 ⟨rfl, hb6⟩
          have HX6 := Lib.hid (HX5.out.below hb6); have HB6 := Lib.hid (HB5.out.trans (hb6.mono (Nat.le_trans hzc hz5))); have HO6 := Lib.hid (own_kept HO5.out hb6 (Nat.le_refl _))
          clear hb6 k1 k2
          obtain ⟨_, _, ⟨_, k3, k4, k7, k8⟩, ⟨_, k5, k6, k9, k10⟩⟩ := HX6.out
          go_wp2
          refine bodyPost_ret (v := .tuple #[transV (.slice a nx.length c) r1, editV (P.least t r1), .bool true]) (by simp [transV, editV, k3, k4, k5, k6, results, Tryz.results30, go_sem]) rfl ⟨.slice a nx.length c, by rw [HP.out, HN.out]; rfl, ?_, ?_⟩
          · rw [HP.out, HN.out]
            exact own_base (ownsRow_setCell_below (ownsRow_setCell_below (ownsRow_setCell_below (ownsRow_setCell_below HO6.out (by simp <;> omega) _) (by simp <;> omega) _) (by simp <;> omega) _) (by simp <;> omega) _) (by omega)
          · exact (((((HBW.out.trans (HB6.out.mono HBW.out.size)).setCell (by simp <;> omega) _).setCell (by simp <;> omega) _).setCell (by simp <;> omega) _).setCell (by simp <;> omega) _)
end Go.Proofs.YtpkahblajgaemaaGreatDoor
