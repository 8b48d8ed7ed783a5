/- Walks: a press (reference). -/
import Derived.Test.YtmlklnimoknojaaGreatDoorScrS5
import Derived.Test.YtmlklnimoknojaaGreatDoorScrI5
import Derived.Deep.DeepCutAuto
import Derived.Deep.RegionHeld
import Derived.Test.YtmlklnimoknojaaGreatDoorSpellI2
import Derived.Test.YtmlklnimoknojaaGreatDoorValD
import Derived.Test.YtmlklnimoknojaaGreatDoorLawD
import Derived.Test.YtmlklnimoknojaaGreatDoorPut3
namespace Go.Proofs.YtmlklnimoknojaaGreatDoor
open Go Go.RowKit
set_option maxHeartbeats 2000000
set_option maxRecDepth 100000
theorem l1OwnO (u : Value) (l : List Int) (w : World) (hu : IntR w u l) (hl : l.length ≤ 2 ^ 30) :
    Calls Tryz.prog 66 #[u] w (OwnPost l w) := by
  obtain ⟨i0, hi, hz0, hz1, hz2⟩ := info_parts info_int
  have hb0 := (Below.refl w.heap.size w).alloc (Nat.le_refl _) (.cells #[] 3)
  have HSRC := Lib.hid (src_of_ints (hu.below hb0))
  have HB := Lib.hid hb0; clear hb0
  have HOWN := Lib.hid (World.ownsRow_lit (base := w.heap.size) (e := 3) (size := 1) w #[] 0 (Nat.le_refl _) (Nat.zero_le _) (by simp))
  obtain ⟨ad, cap, rfl, _, _⟩ := hu
  go_enter Tryz.func66, Tryz.ntmps66
  go_wp2_with (at_builtin; refine wpList_append_src rfl _ _ 27 rfl w.heap.size 3 i0 (.int .i64 0) 1 8 Tryz.underlying27 hi hz0 hz1 hz2 rfl (by decide) _ 0 [] rfl HOWN.out _ l.length (ints l) rfl HSRC.out ?_ ?_ (by simp) ?_)
  · unfold maxLen; omega
  · omega
  intro v' w' hown hgr _
  have HOW := Lib.hid hown
  have HBB := Lib.hid (HB.out.grown hgr (by simp) (fun k hk => by simp [Value.ownBlock] at hk; omega))
  clear hown hgr
  go_wp2
  go_ret
  refine ⟨_, rfl, ?_, HBB.out⟩
  exact HOW.out
theorem spec_press (dv sv : Value) (l : P.Dic) (st : List Int) (t : Str) (k : Int) (w : World) (hu : EntR w dv l) (hs : IntR w sv st) (hm : Small l) (hst : st.length ≤ 2 ^ 20) (ht : t.length ≤ 2 ^ 30) :
    Calls Tryz.prog 39 #[.agg #[dv], transV sv t, .int .i64 k] w (PressPost (P.press l (st, t) k) w) := by
  obtain ⟨W0, hW0⟩ : ∃ v, ((((w.alloc (.cells #[dv] 26)).alloc (.cells #[sv, .string (S t)] 32)).alloc (.cells #[.slice none 0 0, .string (S [])] 32)).alloc (.cells #[.int .i64 0, .string (S [])] 38)) = v := ⟨_, rfl⟩
  have hb0 : Below w.heap.size w W0 := by rw [← hW0]; exact ((((Below.refl w.heap.size w).alloc (Nat.le_refl _) _).alloc (by simp) _).alloc (by simp; omega) _).alloc (by simp; omega) _
  have hz0' : W0.heap.size = w.heap.size + 4 := by rw [← hW0]; simp
  have hx0 : PrBx w.heap.size sv t dv W0 := by
    subst hW0
    refine ⟨⟨by simp <;> omega, by go_simp⟩, ⟨by simp <;> omega, by go_simp, by go_simp, by go_simp, by go_simp⟩, ⟨by simp <;> omega, by go_simp, by go_simp, by go_simp, by go_simp⟩, ⟨by simp, by go_simp, by go_simp, by go_simp, by go_simp⟩⟩
  have HU := Lib.hid (hu.below hb0); have HST := Lib.hid (hs.below hb0); have HB0 := Lib.hid hb0
  have HX := Lib.hid hx0; have HZ0 := Lib.hid hz0'
  clear hb0 hz0'
  obtain ⟨ad, cap, rfl, _, _⟩ := hu
  obtain ⟨sd, sc, rfl, _, _⟩ := hs
  unfold transV
  go_enter Tryz.func39, Tryz.ntmps39
  go_upto_region 1 with (fail)
  try rw [hW0]
  clear hW0
  obtain ⟨i0, hi, hz0, hz1, hz2⟩ := info_parts info_int
  obtain ⟨⟨_, k0⟩, ⟨k1, k2, k3, _⟩, _, _⟩ := hx0
  go_wp2_with fail
  refine (l14Good _ _ l st t _ HU.out HST.out hm).mono ?_
  rintro e w1 ⟨rfl, hb⟩
  have HB1 := Lib.hid hb; have HX1 := Lib.hid (HX.out.below hb); have HST1 := Lib.hid (HST.out.below hb); have HU1 := Lib.hid (HU.out.below hb)
  clear hb k0 k1 k2 k3
  obtain ⟨⟨_, k0⟩, ⟨_, k1, k2, _, _⟩, ⟨_, k3, k4, k7, k8⟩, ⟨_, k5, k6, k9, k10⟩⟩ := HX1.out
  have HP := Lib.hid (show P.press l (st, t) k = if P.trans l (st, t) && P.stroke k then P.pressP l (st, t) k else ((P.tr0, (0, [])), false) from rfl)
  generalize P.trans l (st, t) = q at *
  cases q
  · go_wp2
    refine bodyPost_ret (v := .tuple #[transV (.slice none 0 0) [], editV (0, []), .bool false]) (by simp [transV, editV, k3, k4, k5, k6, results, Tryz.results39, go_sem]) rfl ⟨.slice none 0 0, by rw [HP.out]; rfl, by rw [HP.out]; exact World.ownsRow_nil _ _ _ _, ?_⟩
    exact (((((HB0.out.trans (HB1.out.mono HB0.out.size)).setCell (by simp <;> omega) _).setCell (by simp <;> omega) _).setCell (by simp <;> omega) _).setCell (by simp <;> omega) _)
  · go_wp2_with fail
    refine (l2Good _ _).mono ?_
    rintro e w2 ⟨rfl, rfl⟩
    generalize P.stroke k = q at *
    cases q
    · go_wp2
      refine bodyPost_ret (v := .tuple #[transV (.slice none 0 0) [], editV (0, []), .bool false]) (by simp [transV, editV, k3, k4, k5, k6, results, Tryz.results39, go_sem]) rfl ⟨.slice none 0 0, by rw [HP.out]; rfl, by rw [HP.out]; exact World.ownsRow_nil _ _ _ _, ?_⟩
      exact (((((HB0.out.trans (HB1.out.mono HB0.out.size)).setCell (by simp <;> omega) _).setCell (by simp <;> omega) _).setCell (by simp <;> omega) _).setCell (by simp <;> omega) _)
    · rw [Bool.and_self, if_pos rfl] at HP
      have HBW := Lib.hid (HB0.out.trans (HB1.out.mono HB0.out.size))
      have hzz : w.heap.size + 4 ≤ w1.heap.size := by have h1 := HB1.out.size; have h2 := HZ0.out; omega
      clear HB1 HX HU HST HB0 HZ0 k3 k4 k5 k6 k7 k8 k9 k10
      go_wp2_with fail
      refine (l1OwnO _ st _ HST1.out (by omega)).mono ?_
      rintro e x1 ⟨u, rfl, ho, hb⟩
      have GB1 := Lib.hid hb; have GX1 := Lib.hid (HX1.out.below hb); have HOW := Lib.hid ho
      obtain ⟨ua, uc, rfl⟩ := ownK_form ho
      have hz1' := hb.size
      clear k0 k1 k2 ho hb
      have HOW2 := Lib.hid (HOW.out.alloc (.cells #[.int .i64 k] 3))
      go_wp2_with (at_builtin; refine wpList_append_own _ rfl _ _ 27 rfl w1.heap.size 3 i0 (.int .i64 0) 1 8 Tryz.underlying27 hi hz0 hz1 hz2 rfl (by decide) (.slice ua st.length uc) st.length (ints st) rfl HOW2.out ⟨x1.heap.size, 0, none⟩ 1 1 [.int .i64 k] rfl rfl ?_ ?_ ?_ ?_ ?_ ?_)
      all_goals first | exact ⟨rfl, rfl⟩ | (intro z hz; simp only [List.mem_cons, List.not_mem_nil, or_false] at hz; subst hz; rfl) | (unfold maxLen; omega) | omega | (simp; omega) | (intro i z hz; rcases i with _ | i; (injection hz with hz; subst hz; rw [add0]; go_simp); cases hz) | skip
      intro u4 w4 hown hgr _
      have R := Lib.hid (own_app HOW.out GB1.out 3 hown hgr)
      have HX4 := Lib.hid (HX1.out.below R.out.2)
      have hz4 := R.out.2.size
      clear hown hgr
      obtain ⟨va, vc, rfl⟩ := ownK_form R.out.1
      have HU4 := Lib.hid (HU1.out.below R.out.2)
      go_upto_if 30 with fail
      go_cut [9] (fun u wx => (∃ a c, u = .slice a (P.next st k).length c) ∧ OwnK w1.heap.size wx u (P.next st k) ∧ Below w1.heap.size w1 wx)
      case first =>
        by_cases hk : k = 1024
        · subst hk
          have HN := Lib.hid (show P.next st 1024 = (st ++ [1024]).take (st.length - 1) by unfold P.next; rw [if_pos rfl, List.take_append_of_le_length (by omega)])
          have HL := Lib.hid (show (P.next st 1024).length = st.length - 1 by rw [HN.out, List.length_take, List.length_append]; omega)
          have i1 : ((1024 : Int) == 1024) = true := rfl
          obtain ⟨m, hm⟩ : ∃ m, st.length - 1 = m := ⟨_, rfl⟩
          rw [hm] at HL
          have HN2 := Lib.hid (show P.next st 1024 = st.take m by unfold P.next; rw [if_pos rfl, hm])
          have HMX := Lib.hid (show max ((st.length : Int) - 1) 0 = (m : Int) by omega)
          have i7 : IntKind.i64.wrap ((st.length : Int) - 1) = (st.length : Int) - 1 := by rw [IntKind.wrap_i64]; omega
          have hbd := (Below.refl w4.heap.size w4).drew
          have HT0 := Lib.hid (HX4.out.2.1.below hbd); have HST5 := Lib.hid ((HST1.out.below R.out.2).below hbd); have HB5 := Lib.hid (R.out.2.trans (hbd.mono hz4))
          clear hbd
          go_upto_region 5 with fail
          refine wp_region_held_drew (S := TBx (w.heap.size + 1) (.slice sd st.length sc) t) (by kernel_rfl) HT0.out (fun hS0 => ?_)
          generalize w4.drew = v1 at *
          refine wpAnyH_take (i := 0) (v := .pointer (some ⟨w.heap.size + 1, 0, none⟩)) rfl (by kernel_rfl) (by kernel_rfl) (by kernel_rfl) (fun _ _ _ h => h) (Or.inl ⟨by rfl, fun z hz => ?_⟩) hS0 ?_
          · obtain ⟨_, b1, b2, _, _⟩ := hz
            go_simp
          try simp only [qA, qB, Act.put, qD, qE, qF]
          refine wpAnyH_take (i := 1) (v := .slice sd st.length sc) rfl (by kernel_rfl) (by kernel_rfl) (by kernel_rfl) (fun _ _ _ h => h) (Or.inl ⟨by rfl, fun z hz => ?_⟩) hS0 ?_
          · obtain ⟨_, b1, b2, _, _⟩ := hz
            go_simp
          try simp only [qA, qB, qC, Act.put, qD, qE, qF]
          refine wpAnyH_take (i := 3) (v := .pointer (some ⟨w.heap.size + 1, 0, none⟩)) rfl (by kernel_rfl) (by kernel_rfl) (by kernel_rfl) (fun _ _ _ h => h) (Or.inl ⟨by rfl, fun z hz => ?_⟩) hS0 ?_
          · obtain ⟨_, b1, b2, _, _⟩ := hz
            go_simp
          try simp only [qA, qB, qC, Act.put, qD, qE, qF]
          refine wpAnyH_take (i := 4) (v := .slice sd st.length sc) rfl (by kernel_rfl) (by kernel_rfl) (by kernel_rfl) (fun _ _ _ h => h) (Or.inl ⟨by rfl, fun z hz => ?_⟩) hS0 ?_
          · obtain ⟨_, b1, b2, _, _⟩ := hz
            go_simp
          try simp only [qA, qB, qC, Act.put, qD, qE, qF]
          refine wpAnyH_take (i := 5) (v := .int .i64 st.length) rfl (by kernel_rfl) (by kernel_rfl) (by kernel_rfl) (fun _ _ _ h => h) (Or.inl ⟨by rfl, fun z hz => ?_⟩) hS0 ?_
          · obtain ⟨_, b1, b2, _, _⟩ := hz
            go_simp
          try simp only [qA, qB, qC, Act.put, qD, qE, qF]
          refine wpAnyH_take (i := 6) (v := .int .i64 ((st.length : Int) - 1)) rfl (by kernel_rfl) (by kernel_rfl) (by kernel_rfl) (fun _ _ _ h => h) (Or.inl ⟨by rfl, fun z hz => ?_⟩) hS0 ?_
          · obtain ⟨_, b1, b2, _, _⟩ := hz
            go_simp
          try simp only [qA, qB, qC, Act.put, qD, qE, qF]
          refine wpAnyH_ready (rs := [2]) (by kernel_rfl) (by simp) ?_
          refine AllReadyH.cons rfl (fun K hK => ?_) AllReadyH.nil
          · go_simp
            refine (l1OwnO _ st _ HST5.out (by omega)).mono ?_
            rintro e x2 ⟨u, rfl, ho, hb⟩
            obtain ⟨ya, yc, rfl⟩ := ownK_form ho
            have HOY := Lib.hid (own_base ho HB5.out.size); have HBY := Lib.hid (HB5.out.trans (hb.mono HB5.out.size))
            refine hK.out _ _ (hS0.below hb) (fun hS1 => ?_)
            clear hK K hS0 ho hb
            try simp only [qA, qB, qC, Act.put, qD, qE, qF]
            refine wpAnyH_ready (rs := [7]) (by kernel_rfl) (by simp) ?_
            refine AllReadyH.cons rfl (fun K hK => ?_) AllReadyH.nil
            go_simp
            refine (l1Most _ _ _).mono ?_
            rintro e x3 ⟨rfl, rfl⟩
            refine hK.out _ _ hS1 (fun hS2 => ?_)
            clear hK K hS1
            try simp only [qA, qB, qC, Act.put, qD, qE, qF]
            rw [HMX.out]
            have hyc := (ownK_read HOY.out (by omega)).cap
            have i5 : (m : Int) ≤ (yc : Int) := by omega
            have i6 : m ≤ yc := by omega
            have HR := Lib.hid (show OwnK w1.heap.size x3 (.slice ya m yc) (P.next st 1024) by
              rw [HN2.out]
              by_cases h0 : st = []
              · subst h0
                have hm0 : m = 0 := by simp at hm; omega
                subst hm0
                exact HOY.out
              · exact ownK_take HOY.out h0 (by omega))
            refine wpAnyH_take (i := 8) (v := .slice ya m yc) rfl (by kernel_rfl) (by kernel_rfl) (by kernel_rfl) (fun _ _ _ h => h) (Or.inl ⟨by rfl, fun z hz => ?_⟩) hS2 ?_
            · obtain ⟨_, b1, b2, _, _⟩ := hz
              go_simp
            try simp only [qA, qB, qC, Act.put, qD, qE, qF]
            refine wpAnyH_take (i := 9) (v := .slice ya m yc) rfl (by kernel_rfl) (by kernel_rfl) (by kernel_rfl) (fun _ _ _ h => h) (Or.inl ⟨by rfl, fun z hz => ?_⟩) hS2 ?_
            · obtain ⟨_, b1, b2, _, _⟩ := hz
              go_simp
            try simp only [qA, qB, qC, Act.put, qD, qE, qF]
            refine wpAnyH_done (by kernel_rfl) ?_ _
            clear hS2
            go_wp2
            go_meet
            exact ⟨⟨ya, yc, by rw [HL.out]⟩, HR.out, HBY.out⟩
        · have i1 : (k == 1024) = false := by simpa using hk
          have HN := Lib.hid (show st ++ [k] = P.next st k by unfold P.next; rw [if_neg hk])
          have HR := Lib.hid (show OwnK w1.heap.size w4 (.slice va (st ++ [k]).length vc) (P.next st k) by rw [← HN.out]; exact R.out.1)
          rw [HN.out] at HR ⊢
          go_wp2
          go_meet
          exact ⟨⟨_, _, rfl⟩, HR.out, R.out.2⟩
      case rest =>
        obtain ⟨⟨a, c, rfl⟩, ho, hbc⟩ := hcut
        have GX := Lib.hid (HX1.out.below hbc); have GU := Lib.hid (HU1.out.below hbc); have GB := Lib.hid hbc; have hzc := hbc.size
        have HN := Lib.hid (show P.pressP l (st, t) k = if (P.scr l (P.next st k)).2 then (((P.next st k, (P.scr l (P.next st k)).1), P.least t (P.scr l (P.next st k)).1), true) else ((P.tr0, (0, [])), false) from rfl)
        have hnl := P.next_len st k
        have hsl := P.scr_len l (P.next st k)
        generalize P.next st k = nx at *
        have HI := Lib.hid (ownK_read ho (by omega))
        have HO4 := Lib.hid ho
        obtain ⟨⟨_, k0⟩, _, _, _⟩ := GX.out
        clear ho hbc
        go_wp2_with fail
        refine (spec_screenOf _ _ l nx _ GU.out HI.out hm).mono ?_
        rintro e w5 ⟨rfl, hb5⟩
        generalize P.scr l nx = r at *
        obtain ⟨r1, r2⟩ := r
        simp only at hsl
        have HX5 := Lib.hid (GX.out.below hb5); have HB5 := Lib.hid (GB.out.trans (hb5.mono hzc)); have HO5 := Lib.hid (own_kept HO4.out hb5 (Nat.le_refl _))
        have hz5 := hb5.size
        clear hb5 k0
        cases r2
        · obtain ⟨_, ⟨_, k1, k2, _⟩, ⟨_, k3, k4, k7, k8⟩, ⟨_, k5, k6, k9, k10⟩⟩ := HX5.out
          go_wp2
          refine bodyPost_ret (v := .tuple #[transV (.slice none 0 0) [], editV (0, []), .bool false]) (by simp [transV, editV, k3, k4, k5, k6, results, Tryz.results39, go_sem]) rfl ⟨.slice none 0 0, by rw [HP.out, HN.out]; rfl, by rw [HP.out, HN.out]; exact World.ownsRow_nil _ _ _ _, ?_⟩
          exact (((((HBW.out.trans (HB5.out.mono HBW.out.size)).setCell (by simp <;> omega) _).setCell (by simp <;> omega) _).setCell (by simp <;> omega) _).setCell (by simp <;> omega) _)
        · obtain ⟨_, ⟨_, k1, k2, _⟩, _, _⟩ := HX5.out
          go_wp2_with fail
          refine (l13Least t r1 _ ht (by omega)).mono ?_
          rintro e w6 ⟨rfl, hb6⟩
          have HX6 := Lib.hid (HX5.out.below hb6); have HB6 := Lib.hid (HB5.out.trans (hb6.mono (Nat.le_trans hzc hz5))); have HO6 := Lib.hid (own_kept HO5.out hb6 (Nat.le_refl _))
          clear hb6 k1 k2
          obtain ⟨_, _, ⟨_, k3, k4, k7, k8⟩, ⟨_, k5, k6, k9, k10⟩⟩ := HX6.out
          go_wp2
          refine bodyPost_ret (v := .tuple #[transV (.slice a nx.length c) r1, editV (P.least t r1), .bool true]) (by simp [transV, editV, k3, k4, k5, k6, results, Tryz.results39, go_sem]) rfl ⟨.slice a nx.length c, by rw [HP.out, HN.out]; rfl, ?_, ?_⟩
          · rw [HP.out, HN.out]
            exact own_base (ownsRow_setCell_below (ownsRow_setCell_below (ownsRow_setCell_below (ownsRow_setCell_below HO6.out (by simp <;> omega) _) (by simp <;> omega) _) (by simp <;> omega) _) (by simp <;> omega) _) (by omega)
          · exact (((((HBW.out.trans (HB6.out.mono HBW.out.size)).setCell (by simp <;> omega) _).setCell (by simp <;> omega) _).setCell (by simp <;> omega) _).setCell (by simp <;> omega) _)
end Go.Proofs.YtmlklnimoknojaaGreatDoor

namespace Go.Proofs.YtmlklnimoknojaaGreatDoor
namespace P
end P
open Go Go.RowKit
set_option maxHeartbeats 2000000
set_option maxRecDepth 100000
/-- a slice of folds, as it is read -/
def FldR (v : World) (u : Value) (l : P.Folds) : Prop :=
  ∃ (ad : Option Addr) (cap : Nat), u = .slice ad l.length cap ∧ (l.length ≤ 2 ^ 45 ∧ l.length ≤ cap) ∧ (ad = none → cap = 0) ∧ (l = [] ∨ ∃ g o, ad = some ⟨g, o, none⟩ ∧ g < v.heap.size ∧ ∀ (j : Nat) (h : j < l.length), v.cell? ⟨g, o + j * 2, none⟩ = some (.int .i64 (l[j]'h).1) ∧ v.cell? ⟨g, o + j * 2 + 1, none⟩ = some (.string (S (l[j]'h).2)))
theorem FldR.below {v v' : World} {u : Value} {l : P.Folds} (h : FldR v u l) (hb : Below v.heap.size v v') : FldR v' u l := by
  obtain ⟨ad, cap, h1, h2, hn, h3⟩ := h
  refine ⟨ad, cap, h1, h2, hn, h3.imp id ?_⟩
  rintro ⟨g, o, h4, h5, h6⟩
  refine ⟨g, o, h4, Nat.lt_of_lt_of_le h5 hb.size, fun j hj => ?_⟩
  obtain ⟨a, b⟩ := h6 j hj
  exact ⟨(hb.cell (p := ⟨g, _, none⟩) h5).trans a, (hb.cell (p := ⟨g, _, none⟩) h5).trans b⟩
theorem FldR.at {v : World} {ad : Option Addr} {n cap : Nat} {l : P.Folds} (h : FldR v (.slice ad n cap) l) (j : Nat) (hj : j < l.length) : ∃ g o, ad = some ⟨g, o, none⟩ ∧ g < v.heap.size ∧ v.cell? ⟨g, o + j * 2, none⟩ = some (.int .i64 (l[j]'hj).1) ∧ v.cell? ⟨g, o + j * 2 + 1, none⟩ = some (.string (S (l[j]'hj).2)) := by
  obtain ⟨ad', cap', he, _, _, h3⟩ := h
  injection he with h1 h2 h4
  rcases h3 with h3 | ⟨g, o, h5, h6, h7⟩
  · rw [h3] at hj; exact absurd hj (Nat.not_lt_zero _)
  · exact ⟨g, o, h1.trans h5, h6, h7 j hj⟩
end Go.Proofs.YtmlklnimoknojaaGreatDoor

namespace Go.Proofs.YtmlklnimoknojaaGreatDoor
namespace P
end P
open Go Go.RowKit
set_option maxHeartbeats 2000000
set_option maxRecDepth 100000
/-- a fold in a row -/
def foldE : ElT P.Fold := fun _ _ cs f => cs = [.int .i64 f.1, .string (S f.2)]
abbrev Flds := RowO 2 foldE
theorem Flds.read {v : World} {F : Blk} {u : Value} {l : P.Folds} (h : Flds v F u l) : FldR v u l := by
  obtain ⟨ad, cap, h1, h2, hn, h3⟩ := h
  refine ⟨ad, cap, h1, ⟨by omega, hn.2⟩, hn.1, h3.imp id ?_⟩
  rintro ⟨g, o, G, C, h4, h5⟩
  refine ⟨g, o, h4, h5.lt _ h5.own, fun j hj => ?_⟩
  have he : C j = _ := h5.el j hj
  have hc := (h5.cel j hj 0 (by rw [he]; simp)).1
  have hd := (h5.cel j hj 1 (by rw [he]; simp)).1
  simp only [he, List.getElem_cons_zero, List.getElem_cons_succ, Nat.add_zero] at hc hd
  exact ⟨hc, hd⟩
/-- what region 6 of eqFoldS keeps -/
def KF (w : World) (c p g q : Nat) (n : Int) (et : Str) (v : World) : Prop :=
  v.cell? ⟨c, p, none⟩ = some (.int .i64 n) ∧ v.cell? ⟨c, p + 1, none⟩ = some (.string (S et)) ∧ v.cell? ⟨g, q, none⟩ = some (.int .i64 n) ∧ v.cell? ⟨g, q + 1, none⟩ = some (.string (S et)) ∧ c < v.heap.size ∧ g < v.heap.size ∧ w.heap.size ≤ v.heap.size ∧ Below w.heap.size w v
theorem KF.step {w v v' : World} {c p g q : Nat} {n : Int} {et : Str} (h : KF w c p g q n et v) (hb : Below v.heap.size v v') : KF w c p g q n et v' := by
  obtain ⟨h1, h2, h3, h4, h5, h6, h9, h10⟩ := h
  exact ⟨(hb.cell (p := ⟨c, p, none⟩) h5).trans h1, (hb.cell (p := ⟨c, p + 1, none⟩) h5).trans h2, (hb.cell (p := ⟨g, q, none⟩) h6).trans h3, (hb.cell (p := ⟨g, q + 1, none⟩) h6).trans h4,
    Nat.lt_of_lt_of_le h5 hb.size, Nat.lt_of_lt_of_le h6 hb.size, Nat.le_trans h9 hb.size, h10.trans (hb.mono h9)⟩
end Go.Proofs.YtmlklnimoknojaaGreatDoor

namespace Go.Proofs.YtmlklnimoknojaaGreatDoor
open Go Go.RowKit
set_option maxHeartbeats 2000000
set_option maxRecDepth 100000
/-- a row of edits of the call's own -/
abbrev OwnE (B : Nat) (v : World) (u : Value) (l : List P.Edit) : Prop := v.ownsRow B 38 2 u l.length (atomVals l)
theorem info_edit : (Tryz.prog.info? 38).map (fun i => (i.zero, i.size, i.bytes)) = some (some (.agg #[.int .i64 0, .string ⟨#[]⟩]), 2, 24) := by kernel_rfl
theorem ownE_nil (w : World) : OwnE w.heap.size (w.alloc (.cells #[] 38)) (.slice (some ⟨w.heap.size, 0, none⟩) 0 0) [] := by
  have h := World.ownsRow_lit (base := w.heap.size) (e := 38) (size := 2) w #[] 0 (Nat.le_refl _) (Nat.zero_le _) (by simp)
  have h2 : (w.alloc (.cells #[] 38)).ownsRow w.heap.size 38 2 (.slice (some ⟨w.heap.size, 0, none⟩) 0 0) 0 [] := by simpa using h
  exact h2
theorem ownE_form {B : Nat} {v : World} {u : Value} {l : List P.Edit} (h : OwnE B v u l) : ∃ a c, u = .slice a l.length c := by
  rcases h.2 with ⟨rfl, h0⟩ | ⟨g, cap, cur, rfl, _⟩
  · exact ⟨none, 0, by rw [h0]⟩
  · exact ⟨_, _, rfl⟩
/-- a row of edits and a row of numbers lie in different blocks -/
theorem ed_sep {B C : Nat} {v : World} {u x : Value} {l : List P.Edit} {m : List Int} (h : OwnE B v u l) (k : OwnK C v x m) : u.ownBlock = none ∨ u.ownBlock ≠ x.ownBlock := by
  rcases h.2 with ⟨rfl, _⟩ | ⟨g, _, cur, rfl, _, h1, _⟩
  · exact .inl rfl
  · refine .inr fun hg => ?_
    rcases k.2 with ⟨rfl, _⟩ | ⟨g', _, cur', rfl, _, h2, _⟩
    · cases hg
    · injection hg with hg
      have hg : g = g' := hg
      subst hg
      rw [h1] at h2
      injection h2 with h2
      injection h2 with _ h3 _
      exact absurd h3 (by decide)
theorem ed_sep2 {B C : Nat} {v : World} {u x : Value} {l : List P.Edit} {m : List Int} (h : OwnE B v u l) (k : OwnK C v x m) : x.ownBlock = none ∨ x.ownBlock ≠ u.ownBlock := by
  rcases ed_sep h k with h1 | h1
  · by_cases h2 : x.ownBlock = none
    · exact .inl h2
    · exact .inr fun e => h2 (e.trans h1)
  · exact .inr fun e => h1 e.symm
/-- the block of a row, between two bounds -/
def BetO (lo hi : Nat) (u : Value) : Blk := fun b => (lo ≤ b ∧ b < hi) ∧ u.ownBlock = some b
theorem ownE_flds {B : Nat} {v : World} {u : Value} {l : List P.Edit} (h : OwnE B v u l) (hl : l.length ≤ 2 ^ 30) : Flds v (BetO B v.heap.size u) u l := by
  rcases id h.2 with ⟨rfl, hn⟩ | ⟨g, cap, cur, hv, hg, _, hnc, _⟩
  · rw [List.eq_nil_of_length_eq_zero hn]; exact RowO.nil _ _
  · have hob : u.ownBlock = some g := by rw [hv]; rfl
    have hlt := (World.ownsRow.lt h g hob).2
    refine ⟨some ⟨g, 0, none⟩, cap, hv, hl, ⟨(fun h => by cases h), hnc⟩, .inr ⟨g, 0, fun _ _ => False, fun j => [.int .i64 (l.getD j (0, [])).1, .string (S (l.getD j (0, [])).2)], rfl, ⟨⟨⟨hg, hlt⟩, hob⟩, fun b hb => hb.1.2, fun j hj => ?_, fun _ _ => rfl, fun j hj => ?_, fun _ _ _ h => h.elim, fun _ _ _ _ _ h _ => h⟩⟩⟩
    · subst hv
      rw [Nat.zero_add]
      obtain ⟨e1, e2⟩ := getElem_atomVals l j hj
      have ed : l.getD j (0, []) = l[j] := by rw [List.getD_eq_getElem?_getD, List.getElem?_eq_getElem hj]; rfl
      intro i hi
      match i, hi with
      | 0, _ =>
        refine ⟨(World.ownsRow.cellAt h (j * 2) (by omega)).trans ?_, World.ownsRow.frozenAt h _⟩
        rw [e1, ed]; rfl
      | 1, _ =>
        refine ⟨(World.ownsRow.cellAt h (j * 2 + 1) (by omega)).trans ?_, World.ownsRow.frozenAt h _⟩
        rw [e2, ed]; rfl
      | i + 2, hi => exact absurd hi (by simp)
    · show _ = _
      have ed : l.getD j (0, []) = l[j] := by rw [List.getD_eq_getElem?_getD, List.getElem?_eq_getElem hj]; rfl
      rw [ed]
theorem ownE_read {B : Nat} {v : World} {u : Value} {l : List P.Edit} (h : OwnE B v u l) (hl : l.length ≤ 2 ^ 30) : FldR v u l := (ownE_flds h hl).read
end Go.Proofs.YtmlklnimoknojaaGreatDoor

namespace Go.Proofs.YtmlklnimoknojaaGreatDoor
open Go Go.RowKit
set_option maxHeartbeats 4000000
set_option maxRecDepth 100000
/-- a box of an entry -/
def Box2E (b : Nat) (x : Value) (t : Str) (v : World) : Prop := v.cell? ⟨b, 0, none⟩ = some x ∧ v.cell? ⟨b, 1, none⟩ = some (.string (S t)) ∧ b < v.heap.size
theorem Box2E.stand {b : Nat} {x : Value} {t : Str} {v v' : World} {X : Blk} (h : Box2E b x t v) (hc : Chg X v v') (hX : ¬ X b) : Box2E b x t v' :=
  ⟨(hc.cell (p := ⟨b, 0, none⟩) h.2.2 hX).trans h.1, (hc.cell (p := ⟨b, 1, none⟩) h.2.2 hX).trans h.2.1, Nat.lt_of_lt_of_le h.2.2 hc.size⟩
theorem Box2E.below {b : Nat} {x : Value} {t : Str} {v v' : World} (h : Box2E b x t v) (hb : Below v.heap.size v v') : Box2E b x t v' := h.stand (Below.chg hb fun _ => False) fun h => h
theorem Box2E.new (x : Value) (t : Str) (T : TypeId) (v : World) : Box2E v.heap.size x t (v.alloc (.cells #[x, .string (S t)] T)) := ⟨by go_simp, by go_simp, by simp⟩
end Go.Proofs.YtmlklnimoknojaaGreatDoor

namespace Go.Proofs.YtmlklnimoknojaaGreatDoor
namespace P
theorem press_len (d : Dic) (t : Tr) (k : Int) : (press d t k).1.1.1.length ≤ t.1.length + 1 := by
  have h := next_len t.1 k
  unfold press pressP
  split
  · split
    · exact h
    · exact Nat.zero_le _
  · exact Nat.zero_le _
end P
open Go Go.RowKit
set_option maxHeartbeats 2000000
set_option maxRecDepth 100000
theorem RowO.to {α : Type} {E : ElT α} {wd : Nat} (hE : ElOk E) {v v' : World} {lo hi lo' hi' : Nat} {x u : Value} {l : List α} (h : RowO wd E v (BetO lo hi x) u l) (hb : Below v.heap.size v v') (h1 : lo' ≤ lo) (h2 : hi ≤ hi') (h3 : hi' ≤ v'.heap.size) : RowO wd E v' (BetO lo' hi' x) u l :=
  (h.below hE hb).wide (fun _ hb => ⟨⟨Nat.le_trans h1 hb.1.1, Nat.lt_of_lt_of_le hb.1.2 h2⟩, hb.2⟩) (fun _ hb => Nat.lt_of_lt_of_le hb.1.2 h3)
theorem Box2E.set2 {b : Nat} {x y : Value} {t r : Str} {v : World} (h0 : v.cell? ⟨b, 0, none⟩ = some x) (h1 : v.cell? ⟨b, 1, none⟩ = some (.string (S t))) (hz : b < v.heap.size) : Box2E b y r ((v.setCell ⟨b, 0, none⟩ y).setCell ⟨b, 1, none⟩ (.string (S r))) := by
  refine ⟨?_, ?_, by simpa [World.setCell] using hz⟩
  · go_simp
  · go_simp
theorem EBx.new (v : World) : EBx v.heap.size (v.alloc (.cells #[.int .i64 0, .string (S [])] 38)) := ⟨by simp, by go_simp, by go_simp, by go_simp, by go_simp⟩
theorem TBx.stand {b : Nat} {u : Value} {t : Str} {v v' : World} {X : Blk} (h : TBx b u t v) (hc : Chg X v v') (hX : ¬ X b) : TBx b u t v' := by
  obtain ⟨h1, h2, h3, h4, h5⟩ := h
  exact ⟨Nat.lt_of_lt_of_le h1 hc.size, (hc.cell (p := ⟨b, 0, none⟩) h1 hX).trans h2, (hc.cell (p := ⟨b, 1, none⟩) h1 hX).trans h3, (hc.frozen (p := ⟨b, 0, none⟩) h1 hX).trans h4, (hc.frozen (p := ⟨b, 1, none⟩) h1 hX).trans h5⟩
theorem EBx.stand {b : Nat} {v v' : World} {X : Blk} (h : EBx b v) (hc : Chg X v v') (hX : ¬ X b) : EBx b v' := by
  obtain ⟨h1, h2, h3, h4, h5⟩ := h
  exact ⟨Nat.lt_of_lt_of_le h1 hc.size, (hc.cell (p := ⟨b, 0, none⟩) h1 hX).trans h2, (hc.cell (p := ⟨b, 1, none⟩) h1 hX).trans h3, (hc.frozen (p := ⟨b, 0, none⟩) h1 hX).trans h4, (hc.frozen (p := ⟨b, 1, none⟩) h1 hX).trans h5⟩
end Go.Proofs.YtmlklnimoknojaaGreatDoor
