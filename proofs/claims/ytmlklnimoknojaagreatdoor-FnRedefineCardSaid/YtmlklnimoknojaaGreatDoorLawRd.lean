/- The law FnRedefine: redefining an entry yields a valid translator for the new dictionary, and repeating it changes nothing. -/
import Derived.Deep.DeepCutAuto
import Derived.Deep.RegionHeld
import Derived.Test.YtmlklnimoknojaaGreatDoorScrI8
import Derived.Test.YtmlklnimoknojaaGreatDoorVEd
import Derived.Test.YtmlklnimoknojaaGreatDoorSpellI
namespace Go.Proofs.YtmlklnimoknojaaGreatDoor
open Go Go.RowKit
set_option maxHeartbeats 8000000
set_option maxRecDepth 100000
theorem law_rd (v : Value) (w : World) (hc : CodeAny w v) (hE : Env w) :
  Calls Tryz.prog 4 #[v] w fun e w' => e = .returned (.bool true) ∧ Below w.heap.size w w' := by
 obtain ⟨ad0, n0, cap0, rfl, hn, hr⟩ := hc
 have HE := Lib.hid hE
 clear hE
 go_enter Tryz.func4, Tryz.ntmps4
 go_wp2_with fail
 refine (vBig _ n0 ad0 cap0 rfl hn _).mono ?_
 rintro e w' ⟨rfl, rfl⟩
 cases hbig : decide (65536 < n0)
 ·
  have HCD := Lib.hid (show CodeIs w (.slice ad0 n0 cap0) from ⟨ad0, n0, cap0, rfl, by have := of_decide_eq_false hbig; omega, hr⟩)
  clear hbig hr
  go_wp2_with fail
  refine (drawRedefine _ _ HCD.out).mono ?_
  rintro e w1 ⟨l, u, st, us, sc, o, x, tx, rfl, hdl, hrd, hrow, hor, hst, hsc, ho, htx, hb⟩
  have HSM := Lib.hid hdl.small
  obtain ⟨da, dc, rfl, _, _⟩ := id hrd
  obtain ⟨sa, sc1, rfl, _, _⟩ := id hrow
  obtain ⟨oa, oc, rfl, _, _⟩ := id hor
  have HU := Lib.hid hrd; have HST := Lib.hid hrow; have HO := Lib.hid hor; have HBW := Lib.hid hb
  have HLN := Lib.hid (show st.length ≤ 70 ∧ sc.length ≤ 2001 ∧ o.length ≤ 70 ∧ tx.length ≤ 300 from ⟨hst, hsc, ho, htx⟩)
  clear hrd hrow hor hdl hst hsc ho htx hb HCD
  unfold transV
  have hb : Below w1.heap.size w1 (((w1.alloc (.cells #[.slice da l.length dc] 26)).alloc (.cells #[.slice sa st.length sc1, .string (S sc)] 32)).alloc (.cells #[.slice oa o.length oc, .string (S tx)] 47)) := (((Below.refl w1.heap.size w1).alloc (Nat.le_refl _) _).alloc (by simp) _).alloc (by simp; omega) _
  have HB_0 := Lib.hid (HBW.out.trans (hb.mono HBW.out.size))
  have U_0 := Lib.hid (HU.out.below hb)
  have I_0 := Lib.hid (HST.out.below hb)
  have O_0 := Lib.hid (HO.out.below hb)
  clear HU HST HO HBW hb
  have A_0 := Lib.hid (((Box1.new (.slice da l.length dc) 26 w1).below ((Below.refl _ _).alloc (Nat.le_refl _) (.cells #[.slice sa st.length sc1, .string (S sc)] 32))).below ((Below.refl _ _).alloc (Nat.le_refl _) (.cells #[.slice oa o.length oc, .string (S tx)] 47)))
  have T_0 := Lib.hid (show Box2E (w1.heap.size + 1) (.slice sa st.length sc1) sc (((w1.alloc (.cells #[.slice da l.length dc] 26)).alloc (.cells #[.slice sa st.length sc1, .string (S sc)] 32)).alloc (.cells #[.slice oa o.length oc, .string (S tx)] 47)) from by have h := (Box2E.new (.slice sa st.length sc1) sc 32 (w1.alloc (.cells #[.slice da l.length dc] 26))).below ((Below.refl _ _).alloc (Nat.le_refl _) (.cells #[.slice oa o.length oc, .string (S tx)] 47)); simpa using h)
  have X_0 := Lib.hid (show Box2E (w1.heap.size + 2) (.slice oa o.length oc) tx (((w1.alloc (.cells #[.slice da l.length dc] 26)).alloc (.cells #[.slice sa st.length sc1, .string (S sc)] 32)).alloc (.cells #[.slice oa o.length oc, .string (S tx)] 47)) from by have h := Box2E.new (.slice oa o.length oc) tx 47 ((w1.alloc (.cells #[.slice da l.length dc] 26)).alloc (.cells #[.slice sa st.length sc1, .string (S sc)] 32)); simpa using h)
  obtain ⟨b, nx, s1, en, et, ok, hr⟩ : ∃ b nx s1 en et ok, P.redef l (st, sc) (o, tx) = (((b, (nx, s1)), (en, et)), ok) := ⟨_, _, _, _, _, _, rfl⟩
  have HR := Lib.hid hr
  have HNL := Lib.hid (show nx.length ≤ 2 ^ 20 from by have h := P.redef_len l (st, sc) (o, tx); rw [hr] at h; simp only at h; have := HLN.out.1; omega)
  have HFAL := Lib.hid (fun h : ok = false => P.redef_noF (l := l) (b := b) (st := st) (nx := nx) (s0 := sc) (s1 := s1) (et := et) (tx := tx) (o := o) (en := en) (by rw [hr, h]))
  have HTRU := Lib.hid (fun h : ok = true => P.redef_facts (l := l) (b := b) (st := st) (nx := nx) (s0 := sc) (s1 := s1) (et := et) (tx := tx) (o := o) (en := en) (by rw [hr, h]))
  clear hr
  go_upto_region 4 with fail
  generalize (((w1.alloc (.cells #[.slice da l.length dc] 26)).alloc (.cells #[.slice sa st.length sc1, .string (S sc)] 32)).alloc (.cells #[.slice oa o.length oc, .string (S tx)] 47)) = v0 at *
  obtain ⟨c_A, _⟩ := A_0.out
  obtain ⟨c_T0, c_T1, _⟩ := T_0.out
  obtain ⟨c_X0, c_X1, _⟩ := X_0.out
  go_wp2_with fail
  refine ((impl_redefine _ _ _ l st sc o tx _ U_0.out I_0.out O_0.out HSM.out (by have := HLN.out.2.2.1; omega) (by have := HLN.out.2.2.2; omega) (HE.out.below HB_0.out HE.out.size)).mono (rd_rd HR.out (by have := HNL.out; omega))).mono ?_
  rintro e w2 ⟨bd, bc, d1, c1, rfl, hd, hi, hb⟩
  clear c_A c_T0 c_T1 c_X0 c_X1
  have HB_1 := Lib.hid (HB_0.out.trans (hb.mono HB_0.out.size))
  have U_1 := Lib.hid (U_0.out.below hb)
  have I_1 := Lib.hid (I_0.out.below hb)
  have O_1 := Lib.hid (O_0.out.below hb)
  have A_1 := Lib.hid (A_0.out.below hb)
  have T_1 := Lib.hid (T_0.out.below hb)
  have X_1 := Lib.hid (X_0.out.below hb)
  clear HB_0 U_0 I_0 O_0 A_0 T_0 X_0 hb
  have D1_0 := Lib.hid (hd)
  have I1_0 := Lib.hid (hi)
  clear hd hi
  have hb : Below w2.heap.size w2 (((w2.alloc (.cells #[.slice bd b.length bc] 26)).alloc (.cells #[.slice d1 nx.length c1, .string (S s1)] 32)).alloc (.cells #[.int .i64 en, .string (S et)] 38)) := (((Below.refl w2.heap.size w2).alloc (Nat.le_refl _) _).alloc (by simp) _).alloc (by simp; omega) _
  have HB_2 := Lib.hid (HB_1.out.trans (hb.mono HB_1.out.size))
  have U_2 := Lib.hid (U_1.out.below hb)
  have I_2 := Lib.hid (I_1.out.below hb)
  have O_2 := Lib.hid (O_1.out.below hb)
  have A_2 := Lib.hid (A_1.out.below hb)
  have T_2 := Lib.hid (T_1.out.below hb)
  have X_2 := Lib.hid (X_1.out.below hb)
  have D1_1 := Lib.hid (D1_0.out.below hb)
  have I1_1 := Lib.hid (I1_0.out.below hb)
  clear HB_1 U_1 I_1 O_1 A_1 T_1 X_1 D1_0 I1_0 hb
  have N_0 := Lib.hid (((Box1.new (.slice bd b.length bc) 26 w2).below ((Below.refl _ _).alloc (Nat.le_refl _) (.cells #[.slice d1 nx.length c1, .string (S s1)] 32))).below ((Below.refl _ _).alloc (Nat.le_refl _) (.cells #[.int .i64 en, .string (S et)] 38)))
  have M_0 := Lib.hid (show Box2E (w2.heap.size + 1) (.slice d1 nx.length c1) s1 (((w2.alloc (.cells #[.slice bd b.length bc] 26)).alloc (.cells #[.slice d1 nx.length c1, .string (S s1)] 32)).alloc (.cells #[.int .i64 en, .string (S et)] 38)) from by have h := (Box2E.new (.slice d1 nx.length c1) s1 32 (w2.alloc (.cells #[.slice bd b.length bc] 26))).below ((Below.refl _ _).alloc (Nat.le_refl _) (.cells #[.int .i64 en, .string (S et)] 38)); simpa using h)
  have E_0 := Lib.hid (show Box2E (w2.heap.size + 2) (.int .i64 en) et (((w2.alloc (.cells #[.slice bd b.length bc] 26)).alloc (.cells #[.slice d1 nx.length c1, .string (S s1)] 32)).alloc (.cells #[.int .i64 en, .string (S et)] 38)) from by have h := Box2E.new (.int .i64 en) et 38 ((w2.alloc (.cells #[.slice bd b.length bc] 26)).alloc (.cells #[.slice d1 nx.length c1, .string (S s1)] 32)); simpa using h)
  go_upto_region 5 with fail
  generalize (((w2.alloc (.cells #[.slice bd b.length bc] 26)).alloc (.cells #[.slice d1 nx.length c1, .string (S s1)] 32)).alloc (.cells #[.int .i64 en, .string (S et)] 38)) = v1 at *
  obtain ⟨c_A, _⟩ := A_2.out
  obtain ⟨c_T0, c_T1, _⟩ := T_2.out
  obtain ⟨c_X0, c_X1, _⟩ := X_2.out
  go_wp2_with fail
  refine ((spec_redefine _ _ _ l st sc o tx _ U_2.out I_2.out O_2.out HSM.out (by have := HLN.out.2.2.1; omega) (by have := HLN.out.2.2.2; omega)).mono (rd_rd HR.out (by have := HNL.out; omega))).mono ?_
  rintro e w3 ⟨bd2, bc2, d2, c2, rfl, hd, hi, hb⟩
  clear c_A c_T0 c_T1 c_X0 c_X1
  have HB_3 := Lib.hid (HB_2.out.trans (hb.mono HB_2.out.size))
  have U_3 := Lib.hid (U_2.out.below hb)
  have I_3 := Lib.hid (I_2.out.below hb)
  have O_3 := Lib.hid (O_2.out.below hb)
  have A_3 := Lib.hid (A_2.out.below hb)
  have T_3 := Lib.hid (T_2.out.below hb)
  have X_3 := Lib.hid (X_2.out.below hb)
  have D1_2 := Lib.hid (D1_1.out.below hb)
  have I1_2 := Lib.hid (I1_1.out.below hb)
  have N_1 := Lib.hid (N_0.out.below hb)
  have M_1 := Lib.hid (M_0.out.below hb)
  have E_1 := Lib.hid (E_0.out.below hb)
  clear HB_2 U_2 I_2 O_2 A_2 T_2 X_2 D1_1 I1_1 N_0 M_0 E_0 hb
  have D2_0 := Lib.hid (hd)
  have I2_0 := Lib.hid (hi)
  clear hd hi
  have hb : Below w3.heap.size w3 (((w3.alloc (.cells #[.slice bd2 b.length bc2] 26)).alloc (.cells #[.slice d2 nx.length c2, .string (S s1)] 32)).alloc (.cells #[.int .i64 en, .string (S et)] 38)) := (((Below.refl w3.heap.size w3).alloc (Nat.le_refl _) _).alloc (by simp) _).alloc (by simp; omega) _
  have HB_4 := Lib.hid (HB_3.out.trans (hb.mono HB_3.out.size))
  have U_4 := Lib.hid (U_3.out.below hb)
  have I_4 := Lib.hid (I_3.out.below hb)
  have O_4 := Lib.hid (O_3.out.below hb)
  have A_4 := Lib.hid (A_3.out.below hb)
  have T_4 := Lib.hid (T_3.out.below hb)
  have X_4 := Lib.hid (X_3.out.below hb)
  have D1_3 := Lib.hid (D1_2.out.below hb)
  have I1_3 := Lib.hid (I1_2.out.below hb)
  have N_2 := Lib.hid (N_1.out.below hb)
  have M_2 := Lib.hid (M_1.out.below hb)
  have E_2 := Lib.hid (E_1.out.below hb)
  have D2_1 := Lib.hid (D2_0.out.below hb)
  have I2_1 := Lib.hid (I2_0.out.below hb)
  clear HB_3 U_3 I_3 O_3 A_3 T_3 X_3 D1_2 I1_2 N_1 M_1 E_1 D2_0 I2_0 hb
  have F_0 := Lib.hid (((Box1.new (.slice bd2 b.length bc2) 26 w3).below ((Below.refl _ _).alloc (Nat.le_refl _) (.cells #[.slice d2 nx.length c2, .string (S s1)] 32))).below ((Below.refl _ _).alloc (Nat.le_refl _) (.cells #[.int .i64 en, .string (S et)] 38)))
  have G_0 := Lib.hid (show Box2E (w3.heap.size + 1) (.slice d2 nx.length c2) s1 (((w3.alloc (.cells #[.slice bd2 b.length bc2] 26)).alloc (.cells #[.slice d2 nx.length c2, .string (S s1)] 32)).alloc (.cells #[.int .i64 en, .string (S et)] 38)) from by have h := (Box2E.new (.slice d2 nx.length c2) s1 32 (w3.alloc (.cells #[.slice bd2 b.length bc2] 26))).below ((Below.refl _ _).alloc (Nat.le_refl _) (.cells #[.int .i64 en, .string (S et)] 38)); simpa using h)
  have H_0 := Lib.hid (show Box2E (w3.heap.size + 2) (.int .i64 en) et (((w3.alloc (.cells #[.slice bd2 b.length bc2] 26)).alloc (.cells #[.slice d2 nx.length c2, .string (S s1)] 32)).alloc (.cells #[.int .i64 en, .string (S et)] 38)) from by have h := Box2E.new (.int .i64 en) et 38 ((w3.alloc (.cells #[.slice bd2 b.length bc2] 26)).alloc (.cells #[.slice d2 nx.length c2, .string (S s1)] 32)); simpa using h)
  go_upto_region 6 with fail
  generalize (((w3.alloc (.cells #[.slice bd2 b.length bc2] 26)).alloc (.cells #[.slice d2 nx.length c2, .string (S s1)] 32)).alloc (.cells #[.int .i64 en, .string (S et)] 38)) = v2 at *
  obtain ⟨c_N, _⟩ := N_2.out
  obtain ⟨c_F, _⟩ := F_0.out
  go_wp2_with fail
  refine (vDict _ _ b _ D1_3.out D2_1.out).mono ?_
  rintro e w4 ⟨rfl, hb⟩
  clear c_N c_F
  have HB_5 := Lib.hid (HB_4.out.trans (hb.mono HB_4.out.size))
  have U_5 := Lib.hid (U_4.out.below hb)
  have I_5 := Lib.hid (I_4.out.below hb)
  have O_5 := Lib.hid (O_4.out.below hb)
  have A_5 := Lib.hid (A_4.out.below hb)
  have T_5 := Lib.hid (T_4.out.below hb)
  have X_5 := Lib.hid (X_4.out.below hb)
  have D1_4 := Lib.hid (D1_3.out.below hb)
  have I1_4 := Lib.hid (I1_3.out.below hb)
  have N_3 := Lib.hid (N_2.out.below hb)
  have M_3 := Lib.hid (M_2.out.below hb)
  have E_3 := Lib.hid (E_2.out.below hb)
  have D2_2 := Lib.hid (D2_1.out.below hb)
  have I2_2 := Lib.hid (I2_1.out.below hb)
  have F_1 := Lib.hid (F_0.out.below hb)
  have G_1 := Lib.hid (G_0.out.below hb)
  have H_1 := Lib.hid (H_0.out.below hb)
  clear HB_4 U_4 I_4 O_4 A_4 T_4 X_4 D1_3 I1_3 N_2 M_2 E_2 D2_1 I2_1 F_0 G_0 H_0 hb
  obtain ⟨c_M0, c_M1, _⟩ := M_3.out
  obtain ⟨c_G0, c_G1, _⟩ := G_1.out
  go_wp2_with fail
  refine (vTranslator _ _ nx s1 _ I1_4.out I2_2.out).mono ?_
  rintro e w5 ⟨rfl, hb⟩
  clear c_M0 c_M1 c_G0 c_G1
  have HB_6 := Lib.hid (HB_5.out.trans (hb.mono HB_5.out.size))
  have U_6 := Lib.hid (U_5.out.below hb)
  have I_6 := Lib.hid (I_5.out.below hb)
  have O_6 := Lib.hid (O_5.out.below hb)
  have A_6 := Lib.hid (A_5.out.below hb)
  have T_6 := Lib.hid (T_5.out.below hb)
  have X_6 := Lib.hid (X_5.out.below hb)
  have D1_5 := Lib.hid (D1_4.out.below hb)
  have I1_5 := Lib.hid (I1_4.out.below hb)
  have N_4 := Lib.hid (N_3.out.below hb)
  have M_4 := Lib.hid (M_3.out.below hb)
  have E_4 := Lib.hid (E_3.out.below hb)
  have D2_3 := Lib.hid (D2_2.out.below hb)
  have I2_3 := Lib.hid (I2_2.out.below hb)
  have F_2 := Lib.hid (F_1.out.below hb)
  have G_2 := Lib.hid (G_1.out.below hb)
  have H_2 := Lib.hid (H_1.out.below hb)
  clear HB_5 U_5 I_5 O_5 A_5 T_5 X_5 D1_4 I1_4 N_3 M_3 E_3 D2_2 I2_2 F_1 G_1 H_1 hb
  obtain ⟨c_E0, c_E1, _⟩ := E_4.out
  obtain ⟨c_H0, c_H1, _⟩ := H_2.out
  cases ok
  ·
   have hb0 := HFAL.out rfl
   subst hb0
   obtain ⟨c_N, _⟩ := N_4.out
   go_wp2
   go_ret
   exact ⟨rfl, HB_6.out⟩
  obtain ⟨hnx, happ, hlook, htr, hdic, hagain⟩ := HTRU.out rfl
  subst hnx
  have HAP := Lib.hid happ; have HLK := Lib.hid hlook; have HTR := Lib.hid htr; have HAG := Lib.hid hagain
  have HSB := Lib.hid (small_of_dic hdic)
  have HE1 := Lib.hid (show et.length ≤ 2000 from P.apply_text3 (e := (en, et)) (by rw [happ]))
  clear happ hlook htr hdic hagain HFAL HTRU HR
  obtain ⟨c_T0, c_T1, _⟩ := T_6.out
  go_wp2_with fail
  refine (applyEdit sc en et _ (by have := HLN.out.2.1; omega) (by have := HE1.out; omega)).mono ?_
  rintro e w6 ⟨rfl, hb⟩
  rw [HAP.out]
  clear c_T0 c_T1 c_E0 c_E1 c_H0 c_H1
  have HB_7 := Lib.hid (HB_6.out.trans (hb.mono HB_6.out.size))
  have U_7 := Lib.hid (U_6.out.below hb)
  have I_7 := Lib.hid (I_6.out.below hb)
  have O_7 := Lib.hid (O_6.out.below hb)
  have A_7 := Lib.hid (A_6.out.below hb)
  have T_7 := Lib.hid (T_6.out.below hb)
  have X_7 := Lib.hid (X_6.out.below hb)
  have D1_6 := Lib.hid (D1_5.out.below hb)
  have I1_6 := Lib.hid (I1_5.out.below hb)
  have N_5 := Lib.hid (N_4.out.below hb)
  have M_5 := Lib.hid (M_4.out.below hb)
  have E_5 := Lib.hid (E_4.out.below hb)
  have D2_4 := Lib.hid (D2_3.out.below hb)
  have I2_4 := Lib.hid (I2_3.out.below hb)
  have F_3 := Lib.hid (F_2.out.below hb)
  have G_3 := Lib.hid (G_2.out.below hb)
  have H_3 := Lib.hid (H_2.out.below hb)
  clear HB_6 U_6 I_6 O_6 A_6 T_6 X_6 D1_5 I1_5 N_4 M_4 E_4 D2_3 I2_3 F_2 G_2 H_2 hb
  obtain ⟨c_N, _⟩ := N_5.out
  obtain ⟨c_X0, c_X1, _⟩ := X_7.out
  go_wp2_with fail
  refine (impl_lookup _ _ b o _ D1_6.out O_7.out HSB.out (HE.out.below HB_7.out HE.out.size)).mono ?_
  rintro e w7 ⟨rfl, hb⟩
  rw [HLK.out]
  clear c_N c_X0 c_X1
  have HB_8 := Lib.hid (HB_7.out.trans (hb.mono HB_7.out.size))
  have U_8 := Lib.hid (U_7.out.below hb)
  have I_8 := Lib.hid (I_7.out.below hb)
  have O_8 := Lib.hid (O_7.out.below hb)
  have A_8 := Lib.hid (A_7.out.below hb)
  have T_8 := Lib.hid (T_7.out.below hb)
  have X_8 := Lib.hid (X_7.out.below hb)
  have D1_7 := Lib.hid (D1_6.out.below hb)
  have I1_7 := Lib.hid (I1_6.out.below hb)
  have N_6 := Lib.hid (N_5.out.below hb)
  have M_6 := Lib.hid (M_5.out.below hb)
  have E_6 := Lib.hid (E_5.out.below hb)
  have D2_5 := Lib.hid (D2_4.out.below hb)
  have I2_5 := Lib.hid (I2_4.out.below hb)
  have F_4 := Lib.hid (F_3.out.below hb)
  have G_4 := Lib.hid (G_3.out.below hb)
  have H_4 := Lib.hid (H_3.out.below hb)
  clear HB_7 U_7 I_7 O_7 A_7 T_7 X_7 D1_6 I1_6 N_5 M_5 E_5 D2_4 I2_4 F_3 G_3 H_3 hb
  obtain ⟨c_N, _⟩ := N_6.out
  obtain ⟨c_M0, c_M1, _⟩ := M_6.out
  obtain ⟨c_X0, c_X1, _⟩ := X_8.out
  go_wp2_with fail
  refine ((impl_redefine _ _ _ b nx s1 o tx _ D1_7.out I1_7.out O_8.out HSB.out (by have := HLN.out.2.2.1; omega) (by have := HLN.out.2.2.2; omega) (HE.out.below HB_8.out HE.out.size)).mono (rd_rd HAG.out (by have := HNL.out; omega))).mono ?_
  rintro e w8 ⟨bd3, bc3, d3, c3, rfl, hd, hi, hb⟩
  clear c_N c_M0 c_M1 c_X0 c_X1
  have HB_9 := Lib.hid (HB_8.out.trans (hb.mono HB_8.out.size))
  have U_9 := Lib.hid (U_8.out.below hb)
  have I_9 := Lib.hid (I_8.out.below hb)
  have O_9 := Lib.hid (O_8.out.below hb)
  have A_9 := Lib.hid (A_8.out.below hb)
  have T_9 := Lib.hid (T_8.out.below hb)
  have X_9 := Lib.hid (X_8.out.below hb)
  have D1_8 := Lib.hid (D1_7.out.below hb)
  have I1_8 := Lib.hid (I1_7.out.below hb)
  have N_7 := Lib.hid (N_6.out.below hb)
  have M_7 := Lib.hid (M_6.out.below hb)
  have E_7 := Lib.hid (E_6.out.below hb)
  have D2_6 := Lib.hid (D2_5.out.below hb)
  have I2_6 := Lib.hid (I2_5.out.below hb)
  have F_5 := Lib.hid (F_4.out.below hb)
  have G_5 := Lib.hid (G_4.out.below hb)
  have H_5 := Lib.hid (H_4.out.below hb)
  clear HB_8 U_8 I_8 O_8 A_8 T_8 X_8 D1_7 I1_7 N_6 M_6 E_6 D2_5 I2_5 F_4 G_4 H_4 hb
  have D3_0 := Lib.hid (hd)
  have I3_0 := Lib.hid (hi)
  clear hd hi
  have hb : Below w8.heap.size w8 (((w8.alloc (.cells #[.slice bd3 b.length bc3] 26)).alloc (.cells #[.slice d3 nx.length c3, .string (S s1)] 32)).alloc (.cells #[.int .i64 0, .string (S [])] 38)) := (((Below.refl w8.heap.size w8).alloc (Nat.le_refl _) _).alloc (by simp) _).alloc (by simp; omega) _
  have HB_10 := Lib.hid (HB_9.out.trans (hb.mono HB_9.out.size))
  have U_10 := Lib.hid (U_9.out.below hb)
  have I_10 := Lib.hid (I_9.out.below hb)
  have O_10 := Lib.hid (O_9.out.below hb)
  have A_10 := Lib.hid (A_9.out.below hb)
  have T_10 := Lib.hid (T_9.out.below hb)
  have X_10 := Lib.hid (X_9.out.below hb)
  have D1_9 := Lib.hid (D1_8.out.below hb)
  have I1_9 := Lib.hid (I1_8.out.below hb)
  have N_8 := Lib.hid (N_7.out.below hb)
  have M_8 := Lib.hid (M_7.out.below hb)
  have E_8 := Lib.hid (E_7.out.below hb)
  have D2_7 := Lib.hid (D2_6.out.below hb)
  have I2_7 := Lib.hid (I2_6.out.below hb)
  have F_6 := Lib.hid (F_5.out.below hb)
  have G_6 := Lib.hid (G_5.out.below hb)
  have H_6 := Lib.hid (H_5.out.below hb)
  have D3_1 := Lib.hid (D3_0.out.below hb)
  have I3_1 := Lib.hid (I3_0.out.below hb)
  clear HB_9 U_9 I_9 O_9 A_9 T_9 X_9 D1_8 I1_8 N_7 M_7 E_7 D2_6 I2_6 F_5 G_5 H_5 D3_0 I3_0 hb
  have P1_0 := Lib.hid (((Box1.new (.slice bd3 b.length bc3) 26 w8).below ((Below.refl _ _).alloc (Nat.le_refl _) (.cells #[.slice d3 nx.length c3, .string (S s1)] 32))).below ((Below.refl _ _).alloc (Nat.le_refl _) (.cells #[.int .i64 0, .string (S [])] 38)))
  have Q1_0 := Lib.hid (show Box2E (w8.heap.size + 1) (.slice d3 nx.length c3) s1 (((w8.alloc (.cells #[.slice bd3 b.length bc3] 26)).alloc (.cells #[.slice d3 nx.length c3, .string (S s1)] 32)).alloc (.cells #[.int .i64 0, .string (S [])] 38)) from by have h := (Box2E.new (.slice d3 nx.length c3) s1 32 (w8.alloc (.cells #[.slice bd3 b.length bc3] 26))).below ((Below.refl _ _).alloc (Nat.le_refl _) (.cells #[.int .i64 0, .string (S [])] 38)); simpa using h)
  have R1_0 := Lib.hid (show Box2E (w8.heap.size + 2) (.int .i64 0) [] (((w8.alloc (.cells #[.slice bd3 b.length bc3] 26)).alloc (.cells #[.slice d3 nx.length c3, .string (S s1)] 32)).alloc (.cells #[.int .i64 0, .string (S [])] 38)) from by have h := Box2E.new (.int .i64 0) [] 38 ((w8.alloc (.cells #[.slice bd3 b.length bc3] 26)).alloc (.cells #[.slice d3 nx.length c3, .string (S s1)] 32)); simpa using h)
  go_upto_region 13 with fail
  generalize (((w8.alloc (.cells #[.slice bd3 b.length bc3] 26)).alloc (.cells #[.slice d3 nx.length c3, .string (S s1)] 32)).alloc (.cells #[.int .i64 0, .string (S [])] 38)) = v3 at *
  obtain ⟨c_N, _⟩ := N_8.out
  obtain ⟨c_M0, c_M1, _⟩ := M_8.out
  go_wp2_with fail
  refine (impl_isValidTranslator _ _ b nx s1 _ D1_9.out I1_9.out HSB.out (HE.out.below HB_10.out HE.out.size)).mono ?_
  rintro e w9 ⟨rfl, hb⟩
  rw [HTR.out]
  clear c_N c_M0 c_M1
  have HB_11 := Lib.hid (HB_10.out.trans (hb.mono HB_10.out.size))
  have U_11 := Lib.hid (U_10.out.below hb)
  have I_11 := Lib.hid (I_10.out.below hb)
  have O_11 := Lib.hid (O_10.out.below hb)
  have A_11 := Lib.hid (A_10.out.below hb)
  have T_11 := Lib.hid (T_10.out.below hb)
  have X_11 := Lib.hid (X_10.out.below hb)
  have D1_10 := Lib.hid (D1_9.out.below hb)
  have I1_10 := Lib.hid (I1_9.out.below hb)
  have N_9 := Lib.hid (N_8.out.below hb)
  have M_9 := Lib.hid (M_8.out.below hb)
  have E_9 := Lib.hid (E_8.out.below hb)
  have D2_8 := Lib.hid (D2_7.out.below hb)
  have I2_8 := Lib.hid (I2_7.out.below hb)
  have F_7 := Lib.hid (F_6.out.below hb)
  have G_7 := Lib.hid (G_6.out.below hb)
  have H_7 := Lib.hid (H_6.out.below hb)
  have D3_2 := Lib.hid (D3_1.out.below hb)
  have I3_2 := Lib.hid (I3_1.out.below hb)
  have P1_1 := Lib.hid (P1_0.out.below hb)
  have Q1_1 := Lib.hid (Q1_0.out.below hb)
  have R1_1 := Lib.hid (R1_0.out.below hb)
  clear HB_10 U_10 I_10 O_10 A_10 T_10 X_10 D1_9 I1_9 N_8 M_8 E_8 D2_7 I2_7 F_6 G_6 H_6 D3_1 I3_1 P1_0 Q1_0 R1_0 hb
  obtain ⟨c_X0, c_X1, _⟩ := X_11.out
  obtain ⟨c_P1, _⟩ := P1_1.out
  obtain ⟨c_N, _⟩ := N_9.out
  go_wp2_with fail
  refine (vDict _ _ b _ D3_2.out D1_10.out).mono ?_
  rintro e w10 ⟨rfl, hb⟩
  clear c_X0 c_X1 c_P1 c_N
  have HB_12 := Lib.hid (HB_11.out.trans (hb.mono HB_11.out.size))
  have U_12 := Lib.hid (U_11.out.below hb)
  have I_12 := Lib.hid (I_11.out.below hb)
  have O_12 := Lib.hid (O_11.out.below hb)
  have A_12 := Lib.hid (A_11.out.below hb)
  have T_12 := Lib.hid (T_11.out.below hb)
  have X_12 := Lib.hid (X_11.out.below hb)
  have D1_11 := Lib.hid (D1_10.out.below hb)
  have I1_11 := Lib.hid (I1_10.out.below hb)
  have N_10 := Lib.hid (N_9.out.below hb)
  have M_10 := Lib.hid (M_9.out.below hb)
  have E_10 := Lib.hid (E_9.out.below hb)
  have D2_9 := Lib.hid (D2_8.out.below hb)
  have I2_9 := Lib.hid (I2_8.out.below hb)
  have F_8 := Lib.hid (F_7.out.below hb)
  have G_8 := Lib.hid (G_7.out.below hb)
  have H_8 := Lib.hid (H_7.out.below hb)
  have D3_3 := Lib.hid (D3_2.out.below hb)
  have I3_3 := Lib.hid (I3_2.out.below hb)
  have P1_2 := Lib.hid (P1_1.out.below hb)
  have Q1_2 := Lib.hid (Q1_1.out.below hb)
  have R1_2 := Lib.hid (R1_1.out.below hb)
  clear HB_11 U_11 I_11 O_11 A_11 T_11 X_11 D1_10 I1_10 N_9 M_9 E_9 D2_8 I2_8 F_7 G_7 H_7 D3_2 I3_2 P1_1 Q1_1 R1_1 hb
  obtain ⟨c_Q10, c_Q11, _⟩ := Q1_2.out
  obtain ⟨c_M0, c_M1, _⟩ := M_10.out
  go_wp2_with fail
  refine (vTranslator _ _ nx s1 _ I3_3.out I1_11.out).mono ?_
  rintro e w11 ⟨rfl, hb⟩
  clear c_Q10 c_Q11 c_M0 c_M1
  have HB_13 := Lib.hid (HB_12.out.trans (hb.mono HB_12.out.size))
  have U_13 := Lib.hid (U_12.out.below hb)
  have I_13 := Lib.hid (I_12.out.below hb)
  have O_13 := Lib.hid (O_12.out.below hb)
  have A_13 := Lib.hid (A_12.out.below hb)
  have T_13 := Lib.hid (T_12.out.below hb)
  have X_13 := Lib.hid (X_12.out.below hb)
  have D1_12 := Lib.hid (D1_11.out.below hb)
  have I1_12 := Lib.hid (I1_11.out.below hb)
  have N_11 := Lib.hid (N_10.out.below hb)
  have M_11 := Lib.hid (M_10.out.below hb)
  have E_11 := Lib.hid (E_10.out.below hb)
  have D2_10 := Lib.hid (D2_9.out.below hb)
  have I2_10 := Lib.hid (I2_9.out.below hb)
  have F_9 := Lib.hid (F_8.out.below hb)
  have G_9 := Lib.hid (G_8.out.below hb)
  have H_9 := Lib.hid (H_8.out.below hb)
  have D3_4 := Lib.hid (D3_3.out.below hb)
  have I3_4 := Lib.hid (I3_3.out.below hb)
  have P1_3 := Lib.hid (P1_2.out.below hb)
  have Q1_3 := Lib.hid (Q1_2.out.below hb)
  have R1_3 := Lib.hid (R1_2.out.below hb)
  clear HB_12 U_12 I_12 O_12 A_12 T_12 X_12 D1_11 I1_11 N_10 M_10 E_10 D2_9 I2_9 F_8 G_8 H_8 D3_3 I3_3 P1_2 Q1_2 R1_2 hb
  obtain ⟨c_R10, c_R11, _⟩ := R1_3.out
  go_wp2
  go_ret
  exact ⟨rfl, HB_13.out⟩
 ·
  have hn2 := of_decide_eq_true hbig
  go_wp2
  go_ret
  exact ⟨rfl, Below.refl _ _⟩
end Go.Proofs.YtmlklnimoknojaaGreatDoor
