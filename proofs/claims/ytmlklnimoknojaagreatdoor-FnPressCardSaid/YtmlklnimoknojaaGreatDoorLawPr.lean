/- The law FnPress: after a stroke the screen is a fresh translation of all strokes, the edit leads to it, and an undo stroke restores the translator. -/
import Derived.Deep.DeepCutAuto
import Derived.Deep.RegionHeld
import Derived.Test.YtmlklnimoknojaaGreatDoorDrawPr
import Derived.Test.YtmlklnimoknojaaGreatDoorVBig
import Derived.Test.YtmlklnimoknojaaGreatDoorCompE
import Derived.Test.YtmlklnimoknojaaGreatDoorLawUnd
import Derived.Test.YtmlklnimoknojaaGreatDoorSpellI2
namespace Go.Proofs.YtmlklnimoknojaaGreatDoor
open Go Go.RowKit
set_option maxHeartbeats 8000000
set_option maxRecDepth 100000
theorem law_pr (v : Value) (w : World) (hc : CodeAny w v) (hE : Env w) :
    Calls Tryz.prog 7 #[v] w fun e w' => e = .returned (.bool true) ∧ Below w.heap.size w w' := by
  obtain ⟨ad0, n0, cap0, rfl, hn, hr⟩ := hc
  have HE := Lib.hid hE
  clear hE
  go_enter Tryz.func7, Tryz.ntmps7
  go_wp2_with fail
  refine (vBig _ n0 ad0 cap0 rfl hn _).mono ?_
  rintro e w' ⟨rfl, rfl⟩
  cases hbig : decide (65536 < n0)
  · have HCD := Lib.hid (show CodeIs w (.slice ad0 n0 cap0) from ⟨ad0, n0, cap0, rfl, by have := of_decide_eq_false hbig; omega, hr⟩)
    clear hbig hr
    go_wp2_with fail
    refine (drawPress _ _ HCD.out).mono ?_
    rintro e w1 ⟨l, u, st, us, sc, k, rfl, hdl, hrd, hrow, hst, hsc, hb⟩
    have HSM := Lib.hid hdl.small
    obtain ⟨da, dc, rfl, _, _⟩ := hrd.now
    obtain ⟨sa, sc1, rfl⟩ := ownK_form hrow
    have HU := Lib.hid hrd.now; have HST := Lib.hid (ownK_read hrow (by omega)); have HBW := Lib.hid hb
    have HLN := Lib.hid (show st.length ≤ 70 ∧ sc.length ≤ 2001 from ⟨hst, hsc⟩)
    clear hrd hrow hdl hst hsc hb HCD
    unfold transV
    have hba : Below w1.heap.size w1 ((w1.alloc (.cells #[.slice da l.length dc] 26)).alloc (.cells #[.slice sa st.length sc1, .string (S sc)] 32)) := ((Below.refl w1.heap.size w1).alloc (Nat.le_refl _) _).alloc (by simp) _
    have HB_0 := Lib.hid (HBW.out.trans (hba.mono HBW.out.size))
    have A_0 := Lib.hid ((Box1.new (.slice da l.length dc) 26 w1).below ((Below.refl _ _).alloc (Nat.le_refl _) (.cells #[.slice sa st.length sc1, .string (S sc)] 32)))
    have T_0 := Lib.hid (show Box2E (w1.heap.size + 1) (.slice sa st.length sc1) sc ((w1.alloc (.cells #[.slice da l.length dc] 26)).alloc (.cells #[.slice sa st.length sc1, .string (S sc)] 32)) from by have h := Box2E.new (.slice sa st.length sc1) sc 32 (w1.alloc (.cells #[.slice da l.length dc] 26)); simpa using h)
    have U_0 := Lib.hid (HU.out.below hba)
    have I_0 := Lib.hid (HST.out.below hba)
    clear hba HU HST HBW
    obtain ⟨nx, s1, en, et, ok, hr⟩ : ∃ nx s1 en et ok, P.press l (st, sc) k = (((nx, s1), (en, et)), ok) := ⟨_, _, _, _, _, rfl⟩
    have HR := Lib.hid hr
    have HNL := Lib.hid (show nx.length ≤ 2 ^ 20 from by have h := P.press_len l (st, sc) k; rw [hr] at h; simp only at h; have := HLN.out.1; omega)
    have HFAL := Lib.hid (fun h : ok = false => show nx = [] ∧ s1 = [] ∧ en = 0 ∧ et = [] from by have h2 := P.press_no (d := l) (t := (st, sc)) (k := k) (by rw [hr, h]); rw [hr] at h2; injection h2 with h3 _; injection h3 with h4 h5; injection h4 with h6 h7; injection h5 with h8 h9; exact ⟨h6, h7, h8, h9⟩)
    have HTRU := Lib.hid (fun h : ok = true => P.press_facts (l := l) (st := st) (s0 := sc) (k := k) (nx := nx) (s1 := s1) (en := en) (et := et) (by rw [hr, h]))
    clear hr
    go_upto_region 4 with fail
    generalize ((w1.alloc (.cells #[.slice da l.length dc] 26)).alloc (.cells #[.slice sa st.length sc1, .string (S sc)] 32)) = v0 at *
    obtain ⟨c_A, _⟩ := A_0.out
    obtain ⟨c_T0, c_T1, _⟩ := T_0.out
    go_wp2_with fail
    refine ((impl_press _ _ l st sc k _ U_0.out I_0.out HSM.out (HE.out.below HB_0.out HE.out.size) (by have := HLN.out.1; omega) (by have := HLN.out.2; omega)).mono (pr_rd HR.out (by have := HNL.out; omega))).mono ?_
    rintro e w2 ⟨d1, c1, rfl, hi, hb⟩
    clear c_A c_T0 c_T1
    have HB_1 := Lib.hid (HB_0.out.trans (hb.mono HB_0.out.size))
    have A_1 := Lib.hid (A_0.out.below hb)
    have T_1 := Lib.hid (T_0.out.below hb)
    have U_1 := Lib.hid (U_0.out.below hb)
    have I_1 := Lib.hid (I_0.out.below hb)
    clear HB_0 A_0 T_0 U_0 I_0 hb
    have I1_0 := Lib.hid (hi)
    clear hi
    have hb : Below w2.heap.size w2 ((w2.alloc (.cells #[.slice d1 nx.length c1, .string (S s1)] 32)).alloc (.cells #[.int .i64 en, .string (S et)] 38)) := ((Below.refl w2.heap.size w2).alloc (Nat.le_refl _) _).alloc (by simp) _
    have HB_2 := Lib.hid (HB_1.out.trans (hb.mono HB_1.out.size))
    have A_2 := Lib.hid (A_1.out.below hb)
    have T_2 := Lib.hid (T_1.out.below hb)
    have U_2 := Lib.hid (U_1.out.below hb)
    have I_2 := Lib.hid (I_1.out.below hb)
    have I1_1 := Lib.hid (I1_0.out.below hb)
    clear HB_1 A_1 T_1 U_1 I_1 I1_0 hb
    have N_0 := Lib.hid ((Box2E.new (.slice d1 nx.length c1) s1 32 w2).below ((Below.refl _ _).alloc (Nat.le_refl _) (.cells #[.int .i64 en, .string (S et)] 38)))
    have E_0 := Lib.hid (show Box2E (w2.heap.size + 1) (.int .i64 en) et ((w2.alloc (.cells #[.slice d1 nx.length c1, .string (S s1)] 32)).alloc (.cells #[.int .i64 en, .string (S et)] 38)) from by have h := Box2E.new (.int .i64 en) et 38 (w2.alloc (.cells #[.slice d1 nx.length c1, .string (S s1)] 32)); simpa using h)
    go_upto_region 5 with fail
    generalize ((w2.alloc (.cells #[.slice d1 nx.length c1, .string (S s1)] 32)).alloc (.cells #[.int .i64 en, .string (S et)] 38)) = v1 at *
    obtain ⟨c_A, _⟩ := A_2.out
    obtain ⟨c_T0, c_T1, _⟩ := T_2.out
    go_wp2_with fail
    refine ((spec_press _ _ l st sc k _ U_2.out I_2.out HSM.out (by have := HLN.out.1; omega) (by have := HLN.out.2; omega)).mono (pr_rd HR.out (by have := HNL.out; omega))).mono ?_
    rintro e w3 ⟨d2, c2, rfl, hi, hb⟩
    clear c_A c_T0 c_T1
    have HB_3 := Lib.hid (HB_2.out.trans (hb.mono HB_2.out.size))
    have A_3 := Lib.hid (A_2.out.below hb)
    have T_3 := Lib.hid (T_2.out.below hb)
    have U_3 := Lib.hid (U_2.out.below hb)
    have I_3 := Lib.hid (I_2.out.below hb)
    have I1_2 := Lib.hid (I1_1.out.below hb)
    have N_1 := Lib.hid (N_0.out.below hb)
    have E_1 := Lib.hid (E_0.out.below hb)
    clear HB_2 A_2 T_2 U_2 I_2 I1_1 N_0 E_0 hb
    have I2_0 := Lib.hid (hi)
    clear hi
    have hb : Below w3.heap.size w3 ((w3.alloc (.cells #[.slice d2 nx.length c2, .string (S s1)] 32)).alloc (.cells #[.int .i64 en, .string (S et)] 38)) := ((Below.refl w3.heap.size w3).alloc (Nat.le_refl _) _).alloc (by simp) _
    have HB_4 := Lib.hid (HB_3.out.trans (hb.mono HB_3.out.size))
    have A_4 := Lib.hid (A_3.out.below hb)
    have T_4 := Lib.hid (T_3.out.below hb)
    have U_4 := Lib.hid (U_3.out.below hb)
    have I_4 := Lib.hid (I_3.out.below hb)
    have I1_3 := Lib.hid (I1_2.out.below hb)
    have N_2 := Lib.hid (N_1.out.below hb)
    have E_2 := Lib.hid (E_1.out.below hb)
    have I2_1 := Lib.hid (I2_0.out.below hb)
    clear HB_3 A_3 T_3 U_3 I_3 I1_2 N_1 E_1 I2_0 hb
    have M_0 := Lib.hid ((Box2E.new (.slice d2 nx.length c2) s1 32 w3).below ((Below.refl _ _).alloc (Nat.le_refl _) (.cells #[.int .i64 en, .string (S et)] 38)))
    have F_0 := Lib.hid (show Box2E (w3.heap.size + 1) (.int .i64 en) et ((w3.alloc (.cells #[.slice d2 nx.length c2, .string (S s1)] 32)).alloc (.cells #[.int .i64 en, .string (S et)] 38)) from by have h := Box2E.new (.int .i64 en) et 38 (w3.alloc (.cells #[.slice d2 nx.length c2, .string (S s1)] 32)); simpa using h)
    go_upto_region 6 with fail
    generalize ((w3.alloc (.cells #[.slice d2 nx.length c2, .string (S s1)] 32)).alloc (.cells #[.int .i64 en, .string (S et)] 38)) = v2 at *
    have HSS := Lib.hid (show PrS w1.heap.size w2.heap.size w3.heap.size (.slice da l.length dc) (.slice sa st.length sc1) (.slice d1 nx.length c1) (.slice d2 nx.length c2) sc s1 en et v2.drew from PrS.below ⟨A_4.out, T_4.out, N_2.out, E_2.out, M_0.out, F_0.out⟩ (Below.refl _ _).drew)
    have hb : Below v2.heap.size v2 v2.drew := (Below.refl _ _).drew
    have HB_5 := Lib.hid (HB_4.out.trans (hb.mono HB_4.out.size))
    have A_5 := Lib.hid (A_4.out.below hb)
    have T_5 := Lib.hid (T_4.out.below hb)
    have U_5 := Lib.hid (U_4.out.below hb)
    have I_5 := Lib.hid (I_4.out.below hb)
    have I1_4 := Lib.hid (I1_3.out.below hb)
    have N_3 := Lib.hid (N_2.out.below hb)
    have E_3 := Lib.hid (E_2.out.below hb)
    have I2_2 := Lib.hid (I2_1.out.below hb)
    have M_1 := Lib.hid (M_0.out.below hb)
    have F_1 := Lib.hid (F_0.out.below hb)
    clear HB_4 A_4 T_4 U_4 I_4 I1_3 N_2 E_2 I2_1 M_0 F_0 hb
    refine wp_region_held_drew (S := PrS w1.heap.size w2.heap.size w3.heap.size (.slice da l.length dc) (.slice sa st.length sc1) (.slice d1 nx.length c1) (.slice d2 nx.length c2) sc s1 en et) (by kernel_rfl) HSS.out (fun hS0 => ?_)
    clear HSS
    generalize v2.drew = v5 at *
    refine wpAnyH_take (i := 0) (v := .bool ok) rfl (by kernel_rfl) (by kernel_rfl) (by kernel_rfl) (fun _ _ _ h => h) (Or.inl ⟨by rfl, fun z hz => ?_⟩) hS0 ?_
    · obtain ⟨⟨z1, z2⟩, ⟨z3, z4, z5⟩, ⟨z6, z7, z8⟩, ⟨z9, z10, z11⟩, ⟨z12, z13, z14⟩, ⟨z15, z16, z17⟩⟩ := hz
      go_simp
    try simp only [qA, qB, Act.put, qD, qE, qF]
    refine wpAnyH_take (i := 1) (v := .bool ok) rfl (by kernel_rfl) (by kernel_rfl) (by kernel_rfl) (fun _ _ _ h => h) (Or.inl ⟨by rfl, fun z hz => ?_⟩) hS0 ?_
    · obtain ⟨⟨z1, z2⟩, ⟨z3, z4, z5⟩, ⟨z6, z7, z8⟩, ⟨z9, z10, z11⟩, ⟨z12, z13, z14⟩, ⟨z15, z16, z17⟩⟩ := hz
      go_simp
    try simp only [qA, qB, qC, Act.put, qD, qE, qF]
    refine wpAnyH_take (i := 2) (v := .bool false) rfl (by kernel_rfl) (by kernel_rfl) (by kernel_rfl) (fun _ _ _ h => h) (Or.inl ⟨by rfl, fun z hz => ?_⟩) hS0 ?_
    · obtain ⟨⟨z1, z2⟩, ⟨z3, z4, z5⟩, ⟨z6, z7, z8⟩, ⟨z9, z10, z11⟩, ⟨z12, z13, z14⟩, ⟨z15, z16, z17⟩⟩ := hz
      go_simp
    try simp only [qA, qB, qC, Act.put, qD, qE, qF]
    refine wpAnyH_take (i := 3) (v := .bool false) rfl (by kernel_rfl) (by kernel_rfl) (by kernel_rfl) (fun _ _ _ h => h) (Or.inl ⟨by rfl, fun z hz => ?_⟩) hS0 ?_
    · obtain ⟨⟨z1, z2⟩, ⟨z3, z4, z5⟩, ⟨z6, z7, z8⟩, ⟨z9, z10, z11⟩, ⟨z12, z13, z14⟩, ⟨z15, z16, z17⟩⟩ := hz
      go_simp
    try simp only [qA, qB, qC, Act.put, qD, qE, qF]
    refine wpAnyH_take (i := 4) (v := .agg #[.int .i64 en, .string (S et)]) rfl (by kernel_rfl) (by kernel_rfl) (by kernel_rfl) (fun _ _ _ h => h) (Or.inl ⟨by rfl, fun z hz => ?_⟩) hS0 ?_
    · obtain ⟨⟨z1, z2⟩, ⟨z3, z4, z5⟩, ⟨z6, z7, z8⟩, ⟨z9, z10, z11⟩, ⟨z12, z13, z14⟩, ⟨z15, z16, z17⟩⟩ := hz
      go_simp
    try simp only [qA, qB, qC, Act.put, qD, qE, qF]
    refine wpAnyH_take (i := 5) (v := .agg #[.int .i64 en, .string (S et)]) rfl (by kernel_rfl) (by kernel_rfl) (by kernel_rfl) (fun _ _ _ h => h) (Or.inl ⟨by rfl, fun z hz => ?_⟩) hS0 ?_
    · obtain ⟨⟨z1, z2⟩, ⟨z3, z4, z5⟩, ⟨z6, z7, z8⟩, ⟨z9, z10, z11⟩, ⟨z12, z13, z14⟩, ⟨z15, z16, z17⟩⟩ := hz
      go_simp
    try simp only [qA, qB, qC, Act.put, qD, qE, qF]
    refine wpAnyH_take (i := 6) (v := .bool false) rfl (by kernel_rfl) (by kernel_rfl) (by kernel_rfl) (fun _ _ _ h => h) (Or.inl ⟨by rfl, fun z hz => ?_⟩) hS0 ?_
    · obtain ⟨⟨z1, z2⟩, ⟨z3, z4, z5⟩, ⟨z6, z7, z8⟩, ⟨z9, z10, z11⟩, ⟨z12, z13, z14⟩, ⟨z15, z16, z17⟩⟩ := hz
      go_simp
    try simp only [qA, qB, qC, Act.put, qD, qE, qF]
    refine wpAnyH_take (i := 7) (v := .bool false) rfl (by kernel_rfl) (by kernel_rfl) (by kernel_rfl) (fun _ _ _ h => h) (Or.inl ⟨by rfl, fun z hz => ?_⟩) hS0 ?_
    · obtain ⟨⟨z1, z2⟩, ⟨z3, z4, z5⟩, ⟨z6, z7, z8⟩, ⟨z9, z10, z11⟩, ⟨z12, z13, z14⟩, ⟨z15, z16, z17⟩⟩ := hz
      go_simp
    try simp only [qA, qB, qC, Act.put, qD, qE, qF]
    refine wpAnyH_take (i := 8) (v := .bool false) rfl (by kernel_rfl) (by kernel_rfl) (by kernel_rfl) (fun _ _ _ h => h) (Or.inl ⟨by rfl, fun z hz => ?_⟩) hS0 ?_
    · obtain ⟨⟨z1, z2⟩, ⟨z3, z4, z5⟩, ⟨z6, z7, z8⟩, ⟨z9, z10, z11⟩, ⟨z12, z13, z14⟩, ⟨z15, z16, z17⟩⟩ := hz
      go_simp
    try simp only [qA, qB, qC, Act.put, qD, qE, qF]
    refine wpAnyH_take (i := 9) (v := .agg #[.slice d1 nx.length c1, .string (S s1)]) rfl (by kernel_rfl) (by kernel_rfl) (by kernel_rfl) (fun _ _ _ h => h) (Or.inl ⟨by rfl, fun z hz => ?_⟩) hS0 ?_
    · obtain ⟨⟨z1, z2⟩, ⟨z3, z4, z5⟩, ⟨z6, z7, z8⟩, ⟨z9, z10, z11⟩, ⟨z12, z13, z14⟩, ⟨z15, z16, z17⟩⟩ := hz
      go_simp
    try simp only [qA, qB, qC, Act.put, qD, qE, qF]
    refine wpAnyH_take (i := 10) (v := .agg #[.slice d2 nx.length c2, .string (S s1)]) rfl (by kernel_rfl) (by kernel_rfl) (by kernel_rfl) (fun _ _ _ h => h) (Or.inl ⟨by rfl, fun z hz => ?_⟩) hS0 ?_
    · obtain ⟨⟨z1, z2⟩, ⟨z3, z4, z5⟩, ⟨z6, z7, z8⟩, ⟨z9, z10, z11⟩, ⟨z12, z13, z14⟩, ⟨z15, z16, z17⟩⟩ := hz
      go_simp
    try simp only [qA, qB, qC, Act.put, qD, qE, qF]
    refine wpAnyH_ready (rs := [11]) (by kernel_rfl) (by simp) ?_
    refine AllReadyH.cons rfl (fun K hK => ?_) AllReadyH.nil
    go_simp
    refine (vTranslator _ _ nx s1 _ I1_4.out I2_2.out).mono ?_
    rintro e w5 ⟨rfl, hb⟩
    have HH := Lib.hid (hS0.below hb)
    have HB_6 := Lib.hid (HB_5.out.trans (hb.mono HB_5.out.size))
    have A_6 := Lib.hid (A_5.out.below hb)
    have T_6 := Lib.hid (T_5.out.below hb)
    have U_6 := Lib.hid (U_5.out.below hb)
    have I_6 := Lib.hid (I_5.out.below hb)
    have I1_5 := Lib.hid (I1_4.out.below hb)
    have N_4 := Lib.hid (N_3.out.below hb)
    have E_4 := Lib.hid (E_3.out.below hb)
    have I2_3 := Lib.hid (I2_2.out.below hb)
    have M_2 := Lib.hid (M_1.out.below hb)
    have F_2 := Lib.hid (F_1.out.below hb)
    clear HB_5 A_5 T_5 U_5 I_5 I1_4 N_3 E_3 I2_2 M_1 F_1 hb
    refine hK.out _ _ HH.out (fun hS1 => ?_)
    clear hK K HH hS0
    try simp only [qA, qB, qC, Act.put, qD, qE, qF]
    refine wpAnyH_take (i := 12) (v := .bool false) rfl (by kernel_rfl) (by kernel_rfl) (by kernel_rfl) (fun _ _ _ h => h) (Or.inl ⟨by rfl, fun z hz => ?_⟩) hS1 ?_
    · obtain ⟨⟨z1, z2⟩, ⟨z3, z4, z5⟩, ⟨z6, z7, z8⟩, ⟨z9, z10, z11⟩, ⟨z12, z13, z14⟩, ⟨z15, z16, z17⟩⟩ := hz
      go_simp
    try simp only [qA, qB, qC, Act.put, qD, qE, qF]
    refine wpAnyH_take (i := 13) (v := .bool false) rfl (by kernel_rfl) (by kernel_rfl) (by kernel_rfl) (fun _ _ _ h => h) (Or.inl ⟨by rfl, fun z hz => ?_⟩) hS1 ?_
    · obtain ⟨⟨z1, z2⟩, ⟨z3, z4, z5⟩, ⟨z6, z7, z8⟩, ⟨z9, z10, z11⟩, ⟨z12, z13, z14⟩, ⟨z15, z16, z17⟩⟩ := hz
      go_simp
    try simp only [qA, qB, qC, Act.put, qD, qE, qF]
    refine wpAnyH_take (i := 14) (v := .bool false) rfl (by kernel_rfl) (by kernel_rfl) (by kernel_rfl) (fun _ _ _ h => h) (Or.inl ⟨by rfl, fun z hz => ?_⟩) hS1 ?_
    · obtain ⟨⟨z1, z2⟩, ⟨z3, z4, z5⟩, ⟨z6, z7, z8⟩, ⟨z9, z10, z11⟩, ⟨z12, z13, z14⟩, ⟨z15, z16, z17⟩⟩ := hz
      go_simp
    try simp only [qA, qB, qC, Act.put, qD, qE, qF]
    refine wpAnyH_take (i := 15) (v := .agg #[.slice da l.length dc]) rfl (by kernel_rfl) (by kernel_rfl) (by kernel_rfl) (fun _ _ _ h => h) (Or.inl ⟨by rfl, fun z hz => ?_⟩) hS1 ?_
    · obtain ⟨⟨z1, z2⟩, ⟨z3, z4, z5⟩, ⟨z6, z7, z8⟩, ⟨z9, z10, z11⟩, ⟨z12, z13, z14⟩, ⟨z15, z16, z17⟩⟩ := hz
      go_simp
    try simp only [qA, qB, qC, Act.put, qD, qE, qF]
    refine wpAnyH_take (i := 16) (v := .agg #[.slice sa st.length sc1, .string (S sc)]) rfl (by kernel_rfl) (by kernel_rfl) (by kernel_rfl) (fun _ _ _ h => h) (Or.inl ⟨by rfl, fun z hz => ?_⟩) hS1 ?_
    · obtain ⟨⟨z1, z2⟩, ⟨z3, z4, z5⟩, ⟨z6, z7, z8⟩, ⟨z9, z10, z11⟩, ⟨z12, z13, z14⟩, ⟨z15, z16, z17⟩⟩ := hz
      go_simp
    try simp only [qA, qB, qC, Act.put, qD, qE, qF]
    refine wpAnyH_take (i := 18) (v := .agg #[.slice da l.length dc]) rfl (by kernel_rfl) (by kernel_rfl) (by kernel_rfl) (fun _ _ _ h => h) (Or.inl ⟨by rfl, fun z hz => ?_⟩) hS1 ?_
    · obtain ⟨⟨z1, z2⟩, ⟨z3, z4, z5⟩, ⟨z6, z7, z8⟩, ⟨z9, z10, z11⟩, ⟨z12, z13, z14⟩, ⟨z15, z16, z17⟩⟩ := hz
      go_simp
    try simp only [qA, qB, qC, Act.put, qD, qE, qF]
    refine wpAnyH_take (i := 19) (v := .agg #[.slice sa st.length sc1, .string (S sc)]) rfl (by kernel_rfl) (by kernel_rfl) (by kernel_rfl) (fun _ _ _ h => h) (Or.inl ⟨by rfl, fun z hz => ?_⟩) hS1 ?_
    · obtain ⟨⟨z1, z2⟩, ⟨z3, z4, z5⟩, ⟨z6, z7, z8⟩, ⟨z9, z10, z11⟩, ⟨z12, z13, z14⟩, ⟨z15, z16, z17⟩⟩ := hz
      go_simp
    try simp only [qA, qB, qC, Act.put, qD, qE, qF]
    refine wpAnyH_ready (rs := [17]) (by kernel_rfl) (by simp) ?_
    refine AllReadyH.cons rfl (fun K hK => ?_) AllReadyH.nil
    go_simp
    refine (impl_isValidTranslator _ _ l st sc _ U_6.out I_6.out HSM.out (HE.out.below HB_6.out HE.out.size)).mono ?_
    rintro e w6 ⟨rfl, hb⟩
    have HH := Lib.hid (hS1.below hb)
    have HB_7 := Lib.hid (HB_6.out.trans (hb.mono HB_6.out.size))
    have A_7 := Lib.hid (A_6.out.below hb)
    have T_7 := Lib.hid (T_6.out.below hb)
    have U_7 := Lib.hid (U_6.out.below hb)
    have I_7 := Lib.hid (I_6.out.below hb)
    have I1_6 := Lib.hid (I1_5.out.below hb)
    have N_5 := Lib.hid (N_4.out.below hb)
    have E_5 := Lib.hid (E_4.out.below hb)
    have I2_4 := Lib.hid (I2_3.out.below hb)
    have M_3 := Lib.hid (M_2.out.below hb)
    have F_3 := Lib.hid (F_2.out.below hb)
    clear HB_6 A_6 T_6 U_6 I_6 I1_5 N_4 E_4 I2_3 M_2 F_2 hb
    refine hK.out _ _ HH.out (fun hS2 => ?_)
    clear hK K HH hS1
    try simp only [qA, qB, qC, Act.put, qD, qE, qF]
    refine wpAnyH_ready (rs := [20]) (by kernel_rfl) (by simp) ?_
    refine AllReadyH.cons rfl (fun K hK => ?_) AllReadyH.nil
    go_simp
    refine (spec_isValidTranslator _ _ l st sc _ U_7.out I_7.out HSM.out).mono ?_
    rintro e w7 ⟨rfl, hb⟩
    have HH := Lib.hid (hS2.below hb)
    have HB_8 := Lib.hid (HB_7.out.trans (hb.mono HB_7.out.size))
    have A_8 := Lib.hid (A_7.out.below hb)
    have T_8 := Lib.hid (T_7.out.below hb)
    have U_8 := Lib.hid (U_7.out.below hb)
    have I_8 := Lib.hid (I_7.out.below hb)
    have I1_7 := Lib.hid (I1_6.out.below hb)
    have N_6 := Lib.hid (N_5.out.below hb)
    have E_6 := Lib.hid (E_5.out.below hb)
    have I2_5 := Lib.hid (I2_4.out.below hb)
    have M_4 := Lib.hid (M_3.out.below hb)
    have F_4 := Lib.hid (F_3.out.below hb)
    clear HB_7 A_7 T_7 U_7 I_7 I1_6 N_5 E_5 I2_4 M_3 F_3 hb
    refine hK.out _ _ HH.out (fun hS3 => ?_)
    clear hK K HH hS2
    try simp only [qA, qB, qC, Act.put, qD, qE, qF]
    refine wpAnyH_take (i := 21) (v := .bool false) rfl (by kernel_rfl) (by kernel_rfl) (by kernel_rfl) (fun _ _ _ h => h) (Or.inl ⟨by rfl, fun z hz => ?_⟩) hS3 ?_
    · obtain ⟨⟨z1, z2⟩, ⟨z3, z4, z5⟩, ⟨z6, z7, z8⟩, ⟨z9, z10, z11⟩, ⟨z12, z13, z14⟩, ⟨z15, z16, z17⟩⟩ := hz
      go_simp
    try simp only [qA, qB, qC, Act.put, qD, qE, qF]
    refine wpAnyH_take (i := 22) (v := .bool false) rfl (by kernel_rfl) (by kernel_rfl) (by kernel_rfl) (fun _ _ _ h => h) (Or.inl ⟨by rfl, fun z hz => ?_⟩) hS3 ?_
    · obtain ⟨⟨z1, z2⟩, ⟨z3, z4, z5⟩, ⟨z6, z7, z8⟩, ⟨z9, z10, z11⟩, ⟨z12, z13, z14⟩, ⟨z15, z16, z17⟩⟩ := hz
      go_simp
    try simp only [qA, qB, qC, Act.put, qD, qE, qF]
    refine wpAnyH_done (by kernel_rfl) ?_ _
    clear hS3
    cases ok
    · obtain ⟨rfl, rfl, rfl, rfl⟩ := HFAL.out rfl
      obtain ⟨c_N0, c_N1, _⟩ := N_6.out
      obtain ⟨c_E0, c_E1, _⟩ := E_6.out
      go_wp2
      go_ret
      exact ⟨rfl, HB_8.out⟩
    obtain ⟨hscr, happ, htr, hs0, hs1, hback, hundo⟩ := HTRU.out rfl
    have HSC := Lib.hid hscr; have HAP := Lib.hid happ; have HTR := Lib.hid htr; have HS0 := Lib.hid hs0; have HBK := Lib.hid hback; have HUN := Lib.hid hundo
    have HE1 := Lib.hid (show et.length ≤ 2000 from P.apply_text2 (e := (en, et)) (by rw [happ]))
    have HL0 := Lib.hid (show sc.length ≤ 2000 from P.screen_len hs0); have HL1 := Lib.hid (show s1.length ≤ 2000 from P.screen_len hs1)
    clear hscr happ htr hs0 hs1 hback hundo HFAL HTRU HR
    obtain ⟨c_A, _⟩ := A_8.out
    obtain ⟨c_N0, c_N1, _⟩ := N_6.out
    go_wp2_with fail
    refine (impl_screenOf _ _ l nx _ U_8.out I1_7.out HSM.out (HE.out.below HB_8.out HE.out.size)).mono ?_
    rintro e w8 ⟨rfl, hb⟩
    rw [HSC.out]
    clear c_A c_N0 c_N1
    have HB_9 := Lib.hid (HB_8.out.trans (hb.mono HB_8.out.size))
    have A_9 := Lib.hid (A_8.out.below hb)
    have T_9 := Lib.hid (T_8.out.below hb)
    have U_9 := Lib.hid (U_8.out.below hb)
    have I_9 := Lib.hid (I_8.out.below hb)
    have I1_8 := Lib.hid (I1_7.out.below hb)
    have N_7 := Lib.hid (N_6.out.below hb)
    have E_7 := Lib.hid (E_6.out.below hb)
    have I2_6 := Lib.hid (I2_5.out.below hb)
    have M_5 := Lib.hid (M_4.out.below hb)
    have F_5 := Lib.hid (F_4.out.below hb)
    clear HB_8 A_8 T_8 U_8 I_8 I1_7 N_6 E_6 I2_5 M_4 F_4 hb
    obtain ⟨c_T0, c_T1, _⟩ := T_9.out
    obtain ⟨c_E0, c_E1, _⟩ := E_7.out
    go_wp2_with fail
    refine (applyEdit sc en et _ (by have := HL0.out; omega) (by have := HE1.out; omega)).mono ?_
    rintro e w9 ⟨rfl, hb⟩
    rw [HAP.out]
    clear c_T0 c_T1 c_E0 c_E1
    have HB_10 := Lib.hid (HB_9.out.trans (hb.mono HB_9.out.size))
    have A_10 := Lib.hid (A_9.out.below hb)
    have T_10 := Lib.hid (T_9.out.below hb)
    have U_10 := Lib.hid (U_9.out.below hb)
    have I_10 := Lib.hid (I_9.out.below hb)
    have I1_9 := Lib.hid (I1_8.out.below hb)
    have N_8 := Lib.hid (N_7.out.below hb)
    have E_8 := Lib.hid (E_7.out.below hb)
    have I2_7 := Lib.hid (I2_6.out.below hb)
    have M_6 := Lib.hid (M_5.out.below hb)
    have F_6 := Lib.hid (F_5.out.below hb)
    clear HB_9 A_9 T_9 U_9 I_9 I1_8 N_7 E_7 I2_6 M_5 F_5 hb
    obtain ⟨c_A, _⟩ := A_10.out
    obtain ⟨c_N0, c_N1, _⟩ := N_8.out
    go_wp2_with fail
    refine (impl_isValidTranslator _ _ l nx s1 _ U_10.out I1_9.out HSM.out (HE.out.below HB_10.out HE.out.size)).mono ?_
    rintro e w10 ⟨rfl, hb⟩
    rw [HTR.out]
    clear c_A c_N0 c_N1
    have HB_11 := Lib.hid (HB_10.out.trans (hb.mono HB_10.out.size))
    have A_11 := Lib.hid (A_10.out.below hb)
    have T_11 := Lib.hid (T_10.out.below hb)
    have U_11 := Lib.hid (U_10.out.below hb)
    have I_11 := Lib.hid (I_10.out.below hb)
    have I1_10 := Lib.hid (I1_9.out.below hb)
    have N_9 := Lib.hid (N_8.out.below hb)
    have E_9 := Lib.hid (E_8.out.below hb)
    have I2_8 := Lib.hid (I2_7.out.below hb)
    have M_7 := Lib.hid (M_6.out.below hb)
    have F_7 := Lib.hid (F_6.out.below hb)
    clear HB_10 A_10 T_10 U_10 I_10 I1_9 N_8 E_8 I2_7 M_6 F_6 hb
    by_cases hk : k = 1024
    · subst hk
      obtain ⟨hnl, hnil⟩ := HUN.out rfl
      obtain ⟨c_N0, c_N1, _⟩ := N_9.out
      obtain ⟨c_T0, c_T1, _⟩ := T_11.out
      have hst := HLN.out.1
      by_cases hz : st.length = 0
      · have hst0 : st = [] := List.length_eq_zero_iff.1 hz
        obtain ⟨hn0, hs10⟩ := hnil hst0
        subst hst0 hn0 hs10
        go_wp2_with fail
        refine (vTranslator _ _ [] s1 _ I1_10.out I_11.out).mono ?_
        rintro e w11 ⟨rfl, hb⟩
        have HB_12 := Lib.hid (HB_11.out.trans (hb.mono HB_11.out.size))
        have A_12 := Lib.hid (A_11.out.below hb)
        have T_12 := Lib.hid (T_11.out.below hb)
        have U_12 := Lib.hid (U_11.out.below hb)
        have I_12 := Lib.hid (I_11.out.below hb)
        have I1_11 := Lib.hid (I1_10.out.below hb)
        have N_10 := Lib.hid (N_9.out.below hb)
        have E_10 := Lib.hid (E_9.out.below hb)
        have I2_9 := Lib.hid (I2_8.out.below hb)
        have M_8 := Lib.hid (M_7.out.below hb)
        have F_8 := Lib.hid (F_7.out.below hb)
        clear HB_11 A_11 T_11 U_11 I_11 I1_10 N_9 E_9 I2_8 M_7 F_7 hb
        go_wp2
        go_ret
        exact ⟨rfl, HB_12.out⟩
      · have i1 : (nx.length : Int) = (st.length : Int) - 1 := by omega
        have i2 : IntKind.i64.wrap ((st.length : Int) - 1) = (nx.length : Int) := by rw [IntKind.wrap_i64]; omega
        go_wp2
        go_ret
        exact ⟨rfl, HB_11.out⟩
    obtain ⟨fn, ft, hpb, hftl, hcb⟩ := HBK.out hk
    have HPB := Lib.hid hpb; have HFT := Lib.hid hftl; have HCB := Lib.hid hcb
    clear hpb hftl hcb
    obtain ⟨c_A, _⟩ := A_11.out
    obtain ⟨c_N0, c_N1, _⟩ := N_9.out
    go_wp2_with fail
    refine ((impl_press _ _ l nx s1 1024 _ U_11.out I1_10.out HSM.out (HE.out.below HB_11.out HE.out.size) HNL.out (by have := HL1.out; omega)).mono (pr_rd HPB.out (by have := HLN.out.1; omega))).mono ?_
    rintro e w11 ⟨d3, c3, rfl, hi, hb⟩
    clear c_A c_N0 c_N1
    have HB_12 := Lib.hid (HB_11.out.trans (hb.mono HB_11.out.size))
    have A_12 := Lib.hid (A_11.out.below hb)
    have T_12 := Lib.hid (T_11.out.below hb)
    have U_12 := Lib.hid (U_11.out.below hb)
    have I_12 := Lib.hid (I_11.out.below hb)
    have I1_11 := Lib.hid (I1_10.out.below hb)
    have N_10 := Lib.hid (N_9.out.below hb)
    have E_10 := Lib.hid (E_9.out.below hb)
    have I2_9 := Lib.hid (I2_8.out.below hb)
    have M_8 := Lib.hid (M_7.out.below hb)
    have F_8 := Lib.hid (F_7.out.below hb)
    clear HB_11 A_11 T_11 U_11 I_11 I1_10 N_9 E_9 I2_8 M_7 F_7 hb
    have I3_0 := Lib.hid (hi)
    clear hi
    have hb : Below w11.heap.size w11 ((w11.alloc (.cells #[.slice d3 st.length c3, .string (S sc)] 32)).alloc (.cells #[.int .i64 fn, .string (S ft)] 38)) := ((Below.refl w11.heap.size w11).alloc (Nat.le_refl _) _).alloc (by simp) _
    have HB_13 := Lib.hid (HB_12.out.trans (hb.mono HB_12.out.size))
    have A_13 := Lib.hid (A_12.out.below hb)
    have T_13 := Lib.hid (T_12.out.below hb)
    have U_13 := Lib.hid (U_12.out.below hb)
    have I_13 := Lib.hid (I_12.out.below hb)
    have I1_12 := Lib.hid (I1_11.out.below hb)
    have N_11 := Lib.hid (N_10.out.below hb)
    have E_11 := Lib.hid (E_10.out.below hb)
    have I2_10 := Lib.hid (I2_9.out.below hb)
    have M_9 := Lib.hid (M_8.out.below hb)
    have F_9 := Lib.hid (F_8.out.below hb)
    have I3_1 := Lib.hid (I3_0.out.below hb)
    clear HB_12 A_12 T_12 U_12 I_12 I1_11 N_10 E_10 I2_9 M_8 F_8 I3_0 hb
    have G_0 := Lib.hid ((Box2E.new (.slice d3 st.length c3) sc 32 w11).below ((Below.refl _ _).alloc (Nat.le_refl _) (.cells #[.int .i64 fn, .string (S ft)] 38)))
    have H_0 := Lib.hid (show Box2E (w11.heap.size + 1) (.int .i64 fn) ft ((w11.alloc (.cells #[.slice d3 st.length c3, .string (S sc)] 32)).alloc (.cells #[.int .i64 fn, .string (S ft)] 38)) from by have h := Box2E.new (.int .i64 fn) ft 38 (w11.alloc (.cells #[.slice d3 st.length c3, .string (S sc)] 32)); simpa using h)
    go_upto_region 17 with fail
    generalize ((w11.alloc (.cells #[.slice d3 st.length c3, .string (S sc)] 32)).alloc (.cells #[.int .i64 fn, .string (S ft)] 38)) = v3 at *
    obtain ⟨c_E0, c_E1, _⟩ := E_11.out
    obtain ⟨c_H0, c_H1, _⟩ := H_0.out
    go_wp2_with fail
    refine (composeEdits en fn et ft _ (by have := HE1.out; omega) (by have := HFT.out; omega)).mono ?_
    rintro e w12 ⟨rfl, hb⟩
    clear c_E0 c_E1 c_H0 c_H1
    have HB_14 := Lib.hid (HB_13.out.trans (hb.mono HB_13.out.size))
    have A_14 := Lib.hid (A_13.out.below hb)
    have T_14 := Lib.hid (T_13.out.below hb)
    have U_14 := Lib.hid (U_13.out.below hb)
    have I_14 := Lib.hid (I_13.out.below hb)
    have I1_13 := Lib.hid (I1_12.out.below hb)
    have N_12 := Lib.hid (N_11.out.below hb)
    have E_12 := Lib.hid (E_11.out.below hb)
    have I2_11 := Lib.hid (I2_10.out.below hb)
    have M_10 := Lib.hid (M_9.out.below hb)
    have F_10 := Lib.hid (F_9.out.below hb)
    have I3_2 := Lib.hid (I3_1.out.below hb)
    have G_1 := Lib.hid (G_0.out.below hb)
    have H_1 := Lib.hid (H_0.out.below hb)
    clear HB_13 A_13 T_13 U_13 I_13 I1_12 N_11 E_11 I2_10 M_9 F_9 I3_1 G_0 H_0 hb
    obtain ⟨rx, ry, rc, hrr⟩ : ∃ rx ry rc, P.compE (en, et) (fn, ft) = ((rx, ry), rc) := ⟨_, _, _, rfl⟩
    rw [hrr]
    simp only
    have HRY := Lib.hid (show ry.length ≤ 2 ^ 30 from by
      cases rc with
      | false => have h := P.comp_no (a := (en, et)) (b := (fn, ft)) (by rw [hrr]); rw [hrr] at h; injection h with h1 _; injection h1 with _ h2; rw [h2]; simp
      | true => have h := P.apply_text2 (e := (rx, ry)) (by rw [HCB.out _ hrr]); simp only at h; omega)
    have HRC := Lib.hid (fun h : rc = true => HCB.out (rx, ry) (by rw [hrr, h]))
    clear hrr HCB
    have hb : Below w12.heap.size w12 (w12.alloc (.cells #[.int .i64 rx, .string (S ry)] 38)) := (Below.refl w12.heap.size w12).alloc (Nat.le_refl _) _
    have HB_15 := Lib.hid (HB_14.out.trans (hb.mono HB_14.out.size))
    have A_15 := Lib.hid (A_14.out.below hb)
    have T_15 := Lib.hid (T_14.out.below hb)
    have U_15 := Lib.hid (U_14.out.below hb)
    have I_15 := Lib.hid (I_14.out.below hb)
    have I1_14 := Lib.hid (I1_13.out.below hb)
    have N_13 := Lib.hid (N_12.out.below hb)
    have E_13 := Lib.hid (E_12.out.below hb)
    have I2_12 := Lib.hid (I2_11.out.below hb)
    have M_11 := Lib.hid (M_10.out.below hb)
    have F_11 := Lib.hid (F_10.out.below hb)
    have I3_3 := Lib.hid (I3_2.out.below hb)
    have G_2 := Lib.hid (G_1.out.below hb)
    have H_2 := Lib.hid (H_1.out.below hb)
    clear HB_14 A_14 T_14 U_14 I_14 I1_13 N_12 E_12 I2_11 M_10 F_10 I3_2 G_1 H_1 hb
    have J_0 := Lib.hid (Box2E.new (.int .i64 rx) ry 38 w12)
    go_upto_region 18 with fail
    generalize (w12.alloc (.cells #[.int .i64 rx, .string (S ry)] 38)) = v4 at *
    obtain ⟨c_T0, c_T1, _⟩ := T_15.out
    obtain ⟨c_J0, c_J1, _⟩ := J_0.out
    go_wp2_with fail
    refine (applyEdit sc rx ry _ (by have := HL0.out; omega) HRY.out).mono ?_
    rintro e w13 ⟨rfl, hb⟩
    clear c_T0 c_T1 c_J0 c_J1
    have HB_16 := Lib.hid (HB_15.out.trans (hb.mono HB_15.out.size))
    have A_16 := Lib.hid (A_15.out.below hb)
    have T_16 := Lib.hid (T_15.out.below hb)
    have U_16 := Lib.hid (U_15.out.below hb)
    have I_16 := Lib.hid (I_15.out.below hb)
    have I1_15 := Lib.hid (I1_14.out.below hb)
    have N_14 := Lib.hid (N_13.out.below hb)
    have E_14 := Lib.hid (E_13.out.below hb)
    have I2_13 := Lib.hid (I2_12.out.below hb)
    have M_12 := Lib.hid (M_11.out.below hb)
    have F_12 := Lib.hid (F_11.out.below hb)
    have I3_4 := Lib.hid (I3_3.out.below hb)
    have G_3 := Lib.hid (G_2.out.below hb)
    have H_3 := Lib.hid (H_2.out.below hb)
    have J_1 := Lib.hid (J_0.out.below hb)
    clear HB_15 A_15 T_15 U_15 I_15 I1_14 N_13 E_13 I2_12 M_11 F_11 I3_3 G_2 H_2 J_0 hb
    obtain ⟨ax, ab, haa⟩ : ∃ ax ab, P.applyE sc (rx, ry) = (ax, ab) := ⟨_, _, rfl⟩
    rw [haa]
    simp only
    rw [haa] at HRC
    obtain ⟨c_G0, c_G1, _⟩ := G_3.out
    obtain ⟨c_T0, c_T1, _⟩ := T_16.out
    cases rc
    · go_wp2_with fail
      refine (vTranslator _ _ st sc _ I3_4.out I_16.out).mono ?_
      rintro e w14 ⟨rfl, hb⟩
      have HB_17 := Lib.hid (HB_16.out.trans (hb.mono HB_16.out.size))
      have A_17 := Lib.hid (A_16.out.below hb)
      have T_17 := Lib.hid (T_16.out.below hb)
      have U_17 := Lib.hid (U_16.out.below hb)
      have I_17 := Lib.hid (I_16.out.below hb)
      have I1_16 := Lib.hid (I1_15.out.below hb)
      have N_15 := Lib.hid (N_14.out.below hb)
      have E_15 := Lib.hid (E_14.out.below hb)
      have I2_14 := Lib.hid (I2_13.out.below hb)
      have M_13 := Lib.hid (M_12.out.below hb)
      have F_13 := Lib.hid (F_12.out.below hb)
      have I3_5 := Lib.hid (I3_4.out.below hb)
      have G_4 := Lib.hid (G_3.out.below hb)
      have H_4 := Lib.hid (H_3.out.below hb)
      have J_2 := Lib.hid (J_1.out.below hb)
      clear HB_16 A_16 T_16 U_16 I_16 I1_15 N_14 E_14 I2_13 M_12 F_12 I3_4 G_3 H_3 J_1 hb
      go_wp2
      go_ret
      exact ⟨rfl, HB_17.out⟩
    · have hrc := HRC.out rfl
      injection hrc with hrc1 hrc2
      subst hrc1 hrc2
      go_wp2_with fail
      refine (vTranslator _ _ st ax _ I3_4.out I_16.out).mono ?_
      rintro e w14 ⟨rfl, hb⟩
      have HB_17 := Lib.hid (HB_16.out.trans (hb.mono HB_16.out.size))
      have A_17 := Lib.hid (A_16.out.below hb)
      have T_17 := Lib.hid (T_16.out.below hb)
      have U_17 := Lib.hid (U_16.out.below hb)
      have I_17 := Lib.hid (I_16.out.below hb)
      have I1_16 := Lib.hid (I1_15.out.below hb)
      have N_15 := Lib.hid (N_14.out.below hb)
      have E_15 := Lib.hid (E_14.out.below hb)
      have I2_14 := Lib.hid (I2_13.out.below hb)
      have M_13 := Lib.hid (M_12.out.below hb)
      have F_13 := Lib.hid (F_12.out.below hb)
      have I3_5 := Lib.hid (I3_4.out.below hb)
      have G_4 := Lib.hid (G_3.out.below hb)
      have H_4 := Lib.hid (H_3.out.below hb)
      have J_2 := Lib.hid (J_1.out.below hb)
      clear HB_16 A_16 T_16 U_16 I_16 I1_15 N_14 E_14 I2_13 M_12 F_12 I3_4 G_3 H_3 J_1 hb
      clear c_G0 c_G1 c_T0 c_T1
      obtain ⟨c_T0, c_T1, _⟩ := T_17.out
      go_wp2
      go_ret
      exact ⟨rfl, HB_17.out⟩
  · have hn2 := of_decide_eq_true hbig
    go_wp2
    go_ret
    exact ⟨rfl, Below.refl _ _⟩
end Go.Proofs.YtmlklnimoknojaaGreatDoor
