/- The law of SetEnabled: the program's answer is the reference's. -/
import Derived.Deep.DeepCutAuto
import Derived.Test.YtfoajpehmbojbaaGreatDoorLawD
import Derived.Test.YtfoajpehmbojbaaGreatDoorLay8
namespace Go.Proofs.YtfoajpehmbojbaaGreatDoor
open Go Go.RowKit
set_option maxHeartbeats 4000000
set_option maxRecDepth 100000
theorem kAtL_keptL {l : P.Lays} (h : (l.length : Int) + P.sizeL l ≤ 1048576) (ok : Bool) : P.kAtL 1 (P.keptL ok l) ≤ 2 ^ 40 := by
  cases ok
  · show P.kAtL 1 [] ≤ _; simp [P.kAtL]
  · exact kAtL_small h
theorem law_setEnabled (dv : Value) (l : P.Lays) (i : Int) (t : Bool) (w : World) (hu : LayA w dv l) (ht : ∀ e ∈ l, ∀ x ∈ e.1, x.2.length ≤ 9223372036854775807) (hE : Env w) :
    Calls Tryz.prog 6 #[.agg #[dv], .int .i64 i, .bool t] w fun e w' => e = .returned (.bool true) ∧ Below w.heap.size w w' := by
  have HU := Lib.hid hu; have HT := Lib.hid ht; have HE := Lib.hid hE
  clear ht hE
  obtain ⟨dad, dcap, rfl, _, _⟩ := hu
  have hb := (Below.refl w.heap.size w).alloc (Nat.le_refl _) (.cells #[(.slice dad l.length dcap)] 52)
  have HB_0 := Lib.hid (hb)
  have A_0 := Lib.hid (Box1.new (.slice dad l.length dcap) 52 w)
  clear hb
  go_enter Tryz.func6, Tryz.ntmps6
  go_wp2_with fail
  refine (szStack _ l 1048576 _ (HU.out.below HB_0.out) HT.out (by decide) (by decide)).mono ?_
  rintro e w1 ⟨⟨r, rfl, hr1, hr2⟩, hb⟩
  have z1 : w.heap.size + 1 ≤ w1.heap.size := by have := hb.size; simpa using this
  have HB_1 := Lib.hid (HB_0.out.trans (hb.mono HB_0.out.size))
  have A_1 := Lib.hid (A_0.out.below hb)
  clear HB_0 A_0 hb HT
  have HR := Lib.hid hr2; clear hr2
  by_cases hneg : r < 0
  · go_wp2
    go_ret
    exact ⟨rfl, HB_1.out⟩
  have hsz : (l.length : Int) + P.sizeL l ≤ 1048576 := by have := HR.out (by omega); omega
  have HUA := HU; clear HU
  have HU := Lib.hid (HUA.out.read (smallS_of hsz)); clear HUA
  have HSM := Lib.hid (smallS_of hsz); have HK1 := Lib.hid (kAtL_small hsz); have HKK := Lib.hid (fun ok => kAtL_keptL (l := P.setOn i.toNat t l) (by rw [P.setOn_len, P.setOn_size]; exact hsz) ok)
  clear hsz HR
  obtain ⟨c_A, _⟩ := A_1.out
  go_wp2_with fail
  refine (toStack _ l _ (HU.out.below HB_1.out) HSM.out.len HSM.out.each).mono ?_
  rintro e w2 ⟨u1, rfl, hI, hb⟩
  clear c_A
  have z2 : w1.heap.size ≤ w2.heap.size := by have := hb.size; simpa using this
  have HB_2 := Lib.hid (HB_1.out.trans (hb.mono HB_1.out.size))
  have A_2 := Lib.hid (A_1.out.below hb)
  clear HB_1 A_1 hb
  have D1_0 := Lib.hid ((by simpa using hI : Lays w2 (Bet (w1.heap.size) w2.heap.size) u1 l))
  clear hI
  obtain ⟨u1d, u1c, rfl, _, _⟩ := id D1_0.out
  go_wp2_with fail
  refine (spec_setEnabled _ l i t _ (Lays.read D1_0.out) HSM.out).mono ?_
  rintro e w4 ⟨s0, rfl, hI, hb⟩
  have z4 : w2.heap.size ≤ w4.heap.size := by have := hb.size; simpa using this
  clear D1_0
  have HB_3 := Lib.hid (HB_2.out.trans (hb.mono HB_2.out.size))
  have A_3 := Lib.hid (A_2.out.below hb)
  clear HB_2 A_2 hb
  have D0_0 := Lib.hid ((by simpa using hI : Lays w4 (Bet (w2.heap.size) w4.heap.size) s0 (P.keptL (P.setOk i l) (P.setOn i.toNat t l))))
  clear hI
  obtain ⟨s0d, s0c, rfl, _, _⟩ := id D0_0.out
  have hb := (Below.refl w4.heap.size w4).alloc (Nat.le_refl _) (.cells #[(.slice s0d (P.keptL (P.setOk i l) (P.setOn i.toNat t l)).length s0c)] 56)
  have HB_4 := Lib.hid (HB_3.out.trans (hb.mono HB_3.out.size))
  have A_4 := Lib.hid (A_3.out.below hb)
  have D0_1 := Lib.hid (D0_0.out.below layE_ok hb)
  clear HB_3 A_3 D0_0 hb
  have S0_0 := Lib.hid (Box1.new (.slice s0d (P.keptL (P.setOk i l) (P.setOn i.toNat t l)).length s0c) 56 w4)
  obtain ⟨c_A, _⟩ := A_4.out
  go_wp2_with fail
  refine (toStack _ l _ (HU.out.below HB_4.out) HSM.out.len HSM.out.each).mono ?_
  rintro e w5 ⟨u2, rfl, hI, hb⟩
  clear c_A
  have z5 : w4.heap.size + 1 ≤ w5.heap.size := by have := hb.size; simpa using this
  have HB_5 := Lib.hid (HB_4.out.trans (hb.mono HB_4.out.size))
  have A_5 := Lib.hid (A_4.out.below hb)
  have D0_2 := Lib.hid (D0_1.out.below layE_ok hb)
  have S0_1 := Lib.hid (S0_0.out.below hb)
  clear HB_4 A_4 D0_1 S0_0 hb
  have E0_0 := Lib.hid ((by simpa using hI : Lays w5 (Bet (w4.heap.size + 1) w5.heap.size) u2 l))
  clear hI
  obtain ⟨u2d, u2c, rfl, _, _⟩ := id E0_0.out
  have hb := (Below.refl w5.heap.size w5).alloc (Nat.le_refl _) (.cells #[(.slice u2d l.length u2c)] 56)
  have HB_6 := Lib.hid (HB_5.out.trans (hb.mono HB_5.out.size))
  have A_6 := Lib.hid (A_5.out.below hb)
  have D0_3 := Lib.hid (D0_2.out.below layE_ok hb)
  have S0_2 := Lib.hid (S0_1.out.below hb)
  have E0_1 := Lib.hid (E0_0.out.below layE_ok hb)
  clear HB_5 A_5 D0_2 S0_1 E0_0 hb
  have X0_0 := Lib.hid (Box1.new (.slice u2d l.length u2c) 56 w5)
  obtain ⟨c_X0, _⟩ := X0_0.out
  go_wp2_with fail
  refine (impl_setEnabled _ l i t _ (Lays.read E0_1.out) HSM.out (HE.out.below HB_6.out HE.out.size)).mono ?_
  rintro e w7 ⟨g0, rfl, hI, hb⟩
  clear c_X0
  have z7 : w5.heap.size + 1 ≤ w7.heap.size := by have := hb.size; simpa using this
  have HB_7 := Lib.hid (HB_6.out.trans (hb.mono HB_6.out.size))
  have A_7 := Lib.hid (A_6.out.below hb)
  have D0_4 := Lib.hid (D0_3.out.below layE_ok hb)
  have S0_3 := Lib.hid (S0_2.out.below hb)
  have E0_2 := Lib.hid (E0_1.out.below layE_ok hb)
  have X0_1 := Lib.hid (X0_0.out.below hb)
  clear HB_6 A_6 D0_3 S0_2 E0_1 X0_0 hb
  have L0_0 := Lib.hid ((by simpa using hI : Lays w7 (Bet (w5.heap.size + 1) w7.heap.size) g0 (P.keptL (P.setOk i l) (P.setOn i.toNat t l))))
  clear hI
  obtain ⟨g0d, g0c, rfl, _, _⟩ := id L0_0.out
  have hb := (Below.refl w7.heap.size w7).alloc (Nat.le_refl _) (.cells #[(.slice g0d (P.keptL (P.setOk i l) (P.setOn i.toNat t l)).length g0c)] 56)
  have HB_8 := Lib.hid (HB_7.out.trans (hb.mono HB_7.out.size))
  have A_8 := Lib.hid (A_7.out.below hb)
  have D0_5 := Lib.hid (D0_4.out.below layE_ok hb)
  have S0_4 := Lib.hid (S0_3.out.below hb)
  have E0_3 := Lib.hid (E0_2.out.below layE_ok hb)
  have X0_2 := Lib.hid (X0_1.out.below hb)
  have L0_1 := Lib.hid (L0_0.out.below layE_ok hb)
  clear HB_7 A_7 D0_4 S0_3 E0_2 X0_1 L0_0 hb
  have G0_0 := Lib.hid (Box1.new (.slice g0d (P.keptL (P.setOk i l) (P.setOn i.toNat t l)).length g0c) 56 w7)
  obtain ⟨c_G0, _⟩ := G0_0.out
  obtain ⟨c_S0, _⟩ := S0_4.out
  go_wp2_with fail
  refine (eqStack _ _ (P.keptL (P.setOk i l) (P.setOn i.toNat t l)) _ (Lays.read L0_1.out) (Lays.read D0_5.out)).mono ?_
  rintro e w8 ⟨rfl, hb⟩
  clear c_G0 c_S0
  have z8 : w7.heap.size + 1 ≤ w8.heap.size := by have := hb.size; simpa using this
  have HB_9 := Lib.hid (HB_8.out.trans (hb.mono HB_8.out.size))
  have A_9 := Lib.hid (A_8.out.below hb)
  have D0_6 := Lib.hid (D0_5.out.below layE_ok hb)
  have S0_5 := Lib.hid (S0_4.out.below hb)
  have E0_4 := Lib.hid (E0_3.out.below layE_ok hb)
  have X0_3 := Lib.hid (X0_2.out.below hb)
  have L0_2 := Lib.hid (L0_1.out.below layE_ok hb)
  have G0_1 := Lib.hid (G0_0.out.below hb)
  clear HB_8 A_8 D0_5 S0_4 E0_3 X0_2 L0_1 G0_0 hb
  have hb := (Below.refl w8.heap.size w8).drew
  have HB_10 := Lib.hid (HB_9.out.trans (hb.mono HB_9.out.size))
  have A_10 := Lib.hid (A_9.out.below hb)
  have D0_7 := Lib.hid (D0_6.out.below layE_ok hb)
  have S0_6 := Lib.hid (S0_5.out.below hb)
  have E0_5 := Lib.hid (E0_4.out.below layE_ok hb)
  have X0_4 := Lib.hid (X0_3.out.below hb)
  have L0_3 := Lib.hid (L0_2.out.below layE_ok hb)
  have G0_2 := Lib.hid (G0_1.out.below hb)
  clear HB_9 A_9 D0_6 S0_5 E0_4 X0_3 L0_2 G0_1 hb
  go_upto_region 10 with fail
  refine wp_region_held_drew (S := fun v : World => v.cell? ⟨w5.heap.size, 0, none⟩ = some (.slice u2d l.length u2c) ∧ v.cell? ⟨w.heap.size, 0, none⟩ = some (.slice dad l.length dcap) ∧ w5.heap.size < v.heap.size ∧ w.heap.size < v.heap.size) (by kernel_rfl) ⟨X0_4.out.1, A_10.out.1, X0_4.out.2, A_10.out.2⟩ (fun hS0 => ?_)
  refine wpAnyH_take (i := 0) (v := .agg #[(.slice u2d l.length u2c)]) rfl (by kernel_rfl) (by kernel_rfl) (by kernel_rfl) (fun _ _ _ h => h) (Or.inl ⟨by rfl, fun z hz => ?_⟩) hS0 ?_
  · obtain ⟨q1, q2, q3, q4⟩ := hz
    go_simp
  try simp only [List.getElem_toArray, List.getElem_cons_zero, Act.put, List.setIfInBounds_toArray, List.set_cons_zero, List.set_cons_succ]
  refine wpAnyH_take (i := 1) (v := .agg #[(.slice dad l.length dcap)]) rfl (by kernel_rfl) (by kernel_rfl) (by kernel_rfl) (fun _ _ _ h => h) (Or.inl ⟨by rfl, fun z hz => ?_⟩) hS0 ?_
  · obtain ⟨q1, q2, q3, q4⟩ := hz
    go_simp
  try simp only [List.getElem_toArray, List.getElem_cons_zero, List.getElem_cons_succ, Act.put, List.setIfInBounds_toArray, List.set_cons_zero, List.set_cons_succ]
  refine wpAnyH_ready (rs := [2]) (by kernel_rfl) (by simp) ?_
  refine AllReadyH.cons rfl (fun K hK => ?_) AllReadyH.nil
  go_simp
  refine (toStack _ l _ (HU.out.below HB_10.out) HSM.out.len HSM.out.each).mono ?_
  rintro e w9 ⟨u3, rfl, hI, hb⟩
  have z9 : w8.heap.size ≤ w9.heap.size := by have := hb.size; simpa using this
  refine hK.out _ _ ⟨(hb.cell (p := ⟨w5.heap.size, 0, none⟩) hS0.2.2.1).trans hS0.1, (hb.cell (p := ⟨w.heap.size, 0, none⟩) hS0.2.2.2).trans hS0.2.1, Nat.lt_of_lt_of_le hS0.2.2.1 hb.size, Nat.lt_of_lt_of_le hS0.2.2.2 hb.size⟩ (fun hS1 => ?_)
  clear hK K
  have HB_11 := Lib.hid (HB_10.out.trans (hb.mono HB_10.out.size))
  have A_11 := Lib.hid (A_10.out.below hb)
  have D0_8 := Lib.hid (D0_7.out.below layE_ok hb)
  have S0_7 := Lib.hid (S0_6.out.below hb)
  have E0_6 := Lib.hid (E0_5.out.below layE_ok hb)
  have X0_5 := Lib.hid (X0_4.out.below hb)
  have L0_4 := Lib.hid (L0_3.out.below layE_ok hb)
  have G0_3 := Lib.hid (G0_2.out.below hb)
  clear HB_10 A_10 D0_7 S0_6 E0_5 X0_4 L0_3 G0_2 hb hS0
  have HI3 := Lib.hid hI
  obtain ⟨u3d, u3c, rfl, _, _⟩ := hI
  try simp only [List.getElem_toArray, List.getElem_cons_zero, List.getElem_cons_succ, Act.put, List.setIfInBounds_toArray, List.set_cons_zero, List.set_cons_succ]
  refine wpAnyH_ready (rs := [3]) (by kernel_rfl) (by simp) ?_
  refine AllReadyH.cons rfl (fun K hK => ?_) AllReadyH.nil
  go_simp
  refine (eqStack _ _ l _ (Lays.read E0_6.out) (Lays.read HI3.out)).mono ?_
  rintro e w10 ⟨rfl, hb⟩
  have z10 : w9.heap.size ≤ w10.heap.size := by have := hb.size; simpa using this
  refine hK.out _ _ ⟨(hb.cell (p := ⟨w5.heap.size, 0, none⟩) hS1.2.2.1).trans hS1.1, (hb.cell (p := ⟨w.heap.size, 0, none⟩) hS1.2.2.2).trans hS1.2.1, Nat.lt_of_lt_of_le hS1.2.2.1 hb.size, Nat.lt_of_lt_of_le hS1.2.2.2 hb.size⟩ (fun hS2 => ?_)
  clear hK K
  have HB_12 := Lib.hid (HB_11.out.trans (hb.mono HB_11.out.size))
  have A_12 := Lib.hid (A_11.out.below hb)
  have D0_9 := Lib.hid (D0_8.out.below layE_ok hb)
  have S0_8 := Lib.hid (S0_7.out.below hb)
  have E0_7 := Lib.hid (E0_6.out.below layE_ok hb)
  have X0_6 := Lib.hid (X0_5.out.below hb)
  have L0_5 := Lib.hid (L0_4.out.below layE_ok hb)
  have G0_4 := Lib.hid (G0_3.out.below hb)
  clear HB_11 A_11 D0_8 S0_7 E0_6 X0_5 L0_4 G0_3 hb hS1 HI3
  try simp only [List.getElem_toArray, List.getElem_cons_zero, List.getElem_cons_succ, Act.put, List.setIfInBounds_toArray, List.set_cons_zero, List.set_cons_succ]
  refine wpAnyH_take (i := 4) (v := .bool false) rfl (by kernel_rfl) (by kernel_rfl) (by kernel_rfl) (fun _ _ _ h => h) (Or.inl ⟨by rfl, fun z hz => ?_⟩) hS2 ?_
  · obtain ⟨q1, q2, q3, q4⟩ := hz
    go_simp
  try simp only [List.getElem_toArray, List.getElem_cons_zero, List.getElem_cons_succ, Act.put, List.setIfInBounds_toArray, List.set_cons_zero, List.set_cons_succ]
  refine wpAnyH_done (by kernel_rfl) ?_ _
  clear hS2
  obtain ⟨c_X0, _⟩ := X0_6.out
  go_wp2_with fail
  refine (markStack _ l 1 (Bet (w4.heap.size + 1) w5.heap.size) _ E0_7.out (by decide) HK1.out).mono ?_
  rintro e w13 ⟨rfl, _, hc⟩
  have z13 : w10.heap.size ≤ w13.heap.size := hc.size
  clear c_X0
  have HB_13 := Lib.hid (Chg.belowB HB_12.out hc HB_12.out.size (fun b h => by simp only [Bet] at h; omega))
  have A_13 := Lib.hid (A_12.out.stand hc (fun h => by simp only [Bet] at h; omega))
  have D0_10 := Lib.hid (D0_9.out.stand layE_ok hc (fun b h1 h2 => by simp only [Bet] at h1 h2; omega))
  have S0_9 := Lib.hid (S0_8.out.stand hc (fun h => by simp only [Bet] at h; omega))
  have X0_7 := Lib.hid (X0_6.out.stand hc (fun h => by simp only [Bet] at h; omega))
  have L0_6 := Lib.hid (L0_5.out.stand layE_ok hc (fun b h1 h2 => by simp only [Bet] at h1 h2; omega))
  have G0_5 := Lib.hid (G0_4.out.stand hc (fun h => by simp only [Bet] at h; omega))
  clear HB_12 A_12 D0_9 S0_8 X0_6 L0_5 G0_4 hc
  have hkp : ¬ P.kAtL 1 l < 0 := by have := P.kAtL_ge 1 l; omega
  obtain ⟨c_G0, _⟩ := G0_5.out
  obtain ⟨c_S0, _⟩ := S0_9.out
  go_wp2_with fail
  refine (eqStack _ _ (P.keptL (P.setOk i l) (P.setOn i.toNat t l)) _ (Lays.read L0_6.out) (Lays.read D0_10.out)).mono ?_
  rintro e w15 ⟨rfl, hb⟩
  clear c_G0 c_S0
  have z15 : w13.heap.size ≤ w15.heap.size := by have := hb.size; simpa using this
  have HB_14 := Lib.hid (HB_13.out.trans (hb.mono HB_13.out.size))
  have A_14 := Lib.hid (A_13.out.below hb)
  have D0_11 := Lib.hid (D0_10.out.below layE_ok hb)
  have S0_10 := Lib.hid (S0_9.out.below hb)
  have X0_8 := Lib.hid (X0_7.out.below hb)
  have L0_7 := Lib.hid (L0_6.out.below layE_ok hb)
  have G0_6 := Lib.hid (G0_5.out.below hb)
  clear HB_13 A_13 D0_10 S0_9 X0_7 L0_6 G0_5 hb
  obtain ⟨c_G0, _⟩ := G0_6.out
  go_wp2_with fail
  refine (markStack _ (P.keptL (P.setOk i l) (P.setOn i.toNat t l)) 1 (Bet (w5.heap.size + 1) w7.heap.size) _ L0_7.out (by decide) (HKK.out _)).mono ?_
  rintro e w16 ⟨rfl, hI, hc⟩
  have z16 : w15.heap.size ≤ w16.heap.size := hc.size
  clear c_G0
  have HB_15 := Lib.hid (Chg.belowB HB_14.out hc HB_14.out.size (fun b h => by simp only [Bet] at h; omega))
  have A_15 := Lib.hid (A_14.out.stand hc (fun h => by simp only [Bet] at h; omega))
  have D0_12 := Lib.hid (D0_11.out.stand layE_ok hc (fun b h1 h2 => by simp only [Bet] at h1 h2; omega))
  have S0_11 := Lib.hid (S0_10.out.stand hc (fun h => by simp only [Bet] at h; omega))
  have X0_9 := Lib.hid (X0_8.out.stand hc (fun h => by simp only [Bet] at h; omega))
  have G0_7 := Lib.hid (G0_6.out.stand hc (fun h => by simp only [Bet] at h; omega))
  clear HB_14 A_14 D0_11 S0_10 X0_8 G0_6 hc hkp
  have M0_0 := Lib.hid (hI)
  clear hI
  obtain ⟨c_G0, _⟩ := G0_7.out
  have HKN := Lib.hid (show ¬ P.kAtL 1 (P.keptL (P.setOk i l) (P.setOn i.toNat t l)) < 0 by have := P.kAtL_ge 1 (P.keptL (P.setOk i l) (P.setOn i.toNat t l)); omega)
  go_wp2_with fail
  refine (heldStack _ (P.keptL (P.setOk i l) (P.setOn i.toNat t l)) 1 _ (Lays.read M0_0.out) (by decide) (HKK.out _)).mono ?_
  rintro e w17 ⟨rfl, hb⟩
  clear c_G0
  have hkn := HKN.out
  have z17 : w16.heap.size ≤ w17.heap.size := by have := hb.size; simpa using this
  have HB_16 := Lib.hid (HB_15.out.trans (hb.mono HB_15.out.size))
  have A_16 := Lib.hid (A_15.out.below hb)
  have D0_13 := Lib.hid (D0_12.out.below layE_ok hb)
  have S0_12 := Lib.hid (S0_11.out.below hb)
  have X0_10 := Lib.hid (X0_9.out.below hb)
  have G0_8 := Lib.hid (G0_7.out.below hb)
  have M0_1 := Lib.hid (M0_0.out.below layE_ok hb)
  clear HB_15 A_15 D0_12 S0_11 X0_9 G0_7 M0_0 hb HKN
  obtain ⟨c_A, _⟩ := A_16.out
  go_wp2_with fail
  refine (toStack _ l _ (HU.out.below HB_16.out) HSM.out.len HSM.out.each).mono ?_
  rintro e w18 ⟨u4, rfl, hI, hb⟩
  clear c_A
  have z18 : w17.heap.size ≤ w18.heap.size := by have := hb.size; simpa using this
  have HB_17 := Lib.hid (HB_16.out.trans (hb.mono HB_16.out.size))
  have A_17 := Lib.hid (A_16.out.below hb)
  have D0_14 := Lib.hid (D0_13.out.below layE_ok hb)
  have S0_13 := Lib.hid (S0_12.out.below hb)
  have X0_11 := Lib.hid (X0_10.out.below hb)
  have G0_9 := Lib.hid (G0_8.out.below hb)
  have M0_2 := Lib.hid (M0_1.out.below layE_ok hb)
  clear HB_16 A_16 D0_13 S0_12 X0_10 G0_8 M0_1 hb hkn
  have D4_0 := Lib.hid ((by simpa using hI : Lays w18 (Bet (w17.heap.size) w18.heap.size) u4 l))
  clear hI
  obtain ⟨u4d, u4c, rfl, _, _⟩ := id D4_0.out
  go_wp2_with fail
  refine (impl_setEnabled _ l i t _ (Lays.read D4_0.out) HSM.out (HE.out.below HB_17.out HE.out.size)).mono ?_
  rintro e w20 ⟨h0, rfl, hI, hb⟩
  have z20 : w18.heap.size ≤ w20.heap.size := by have := hb.size; simpa using this
  clear D4_0
  have HB_18 := Lib.hid (HB_17.out.trans (hb.mono HB_17.out.size))
  have A_18 := Lib.hid (A_17.out.below hb)
  have D0_15 := Lib.hid (D0_14.out.below layE_ok hb)
  have S0_14 := Lib.hid (S0_13.out.below hb)
  have X0_12 := Lib.hid (X0_11.out.below hb)
  have G0_10 := Lib.hid (G0_9.out.below hb)
  have M0_3 := Lib.hid (M0_2.out.below layE_ok hb)
  clear HB_17 A_17 D0_14 S0_13 X0_11 G0_9 M0_2 hb
  have N0_0 := Lib.hid ((by simpa using hI : Lays w20 (Bet (w18.heap.size) w20.heap.size) h0 (P.keptL (P.setOk i l) (P.setOn i.toNat t l))))
  clear hI
  obtain ⟨h0d, h0c, rfl, _, _⟩ := id N0_0.out
  have hb := (Below.refl w20.heap.size w20).alloc (Nat.le_refl _) (.cells #[(.slice h0d (P.keptL (P.setOk i l) (P.setOn i.toNat t l)).length h0c)] 56)
  have HB_19 := Lib.hid (HB_18.out.trans (hb.mono HB_18.out.size))
  have A_19 := Lib.hid (A_18.out.below hb)
  have D0_16 := Lib.hid (D0_15.out.below layE_ok hb)
  have S0_15 := Lib.hid (S0_14.out.below hb)
  have X0_13 := Lib.hid (X0_12.out.below hb)
  have G0_11 := Lib.hid (G0_10.out.below hb)
  have M0_4 := Lib.hid (M0_3.out.below layE_ok hb)
  have N0_1 := Lib.hid (N0_0.out.below layE_ok hb)
  clear HB_18 A_18 D0_15 S0_14 X0_12 G0_10 M0_3 N0_0 hb
  have H0_0 := Lib.hid (Box1.new (.slice h0d (P.keptL (P.setOk i l) (P.setOn i.toNat t l)).length h0c) 56 w20)
  obtain ⟨c_H0, _⟩ := H0_0.out
  obtain ⟨c_S0, _⟩ := S0_15.out
  go_wp2_with fail
  refine (eqStack _ _ (P.keptL (P.setOk i l) (P.setOn i.toNat t l)) _ (Lays.read N0_1.out) (Lays.read D0_16.out)).mono ?_
  rintro e w21 ⟨rfl, hb⟩
  clear c_H0 c_S0
  have z21 : w20.heap.size + 1 ≤ w21.heap.size := by have := hb.size; simpa using this
  have HB_20 := Lib.hid (HB_19.out.trans (hb.mono HB_19.out.size))
  have A_20 := Lib.hid (A_19.out.below hb)
  have D0_17 := Lib.hid (D0_16.out.below layE_ok hb)
  have S0_16 := Lib.hid (S0_15.out.below hb)
  have X0_14 := Lib.hid (X0_13.out.below hb)
  have G0_12 := Lib.hid (G0_11.out.below hb)
  have M0_5 := Lib.hid (M0_4.out.below layE_ok hb)
  have N0_2 := Lib.hid (N0_1.out.below layE_ok hb)
  have H0_1 := Lib.hid (H0_0.out.below hb)
  clear HB_19 A_19 D0_16 S0_15 X0_13 G0_11 M0_4 N0_1 H0_0 hb
  obtain ⟨c_G0, _⟩ := G0_12.out
  have HKN := Lib.hid (show ¬ P.kAtL 1 (P.keptL (P.setOk i l) (P.setOn i.toNat t l)) < 0 by have := P.kAtL_ge 1 (P.keptL (P.setOk i l) (P.setOn i.toNat t l)); omega)
  go_wp2_with fail
  refine (heldStack _ (P.keptL (P.setOk i l) (P.setOn i.toNat t l)) 1 _ (Lays.read M0_5.out) (by decide) (HKK.out _)).mono ?_
  rintro e w22 ⟨rfl, hb⟩
  clear c_G0
  have hkn := HKN.out
  have z22 : w21.heap.size ≤ w22.heap.size := by have := hb.size; simpa using this
  have HB_21 := Lib.hid (HB_20.out.trans (hb.mono HB_20.out.size))
  have A_21 := Lib.hid (A_20.out.below hb)
  have D0_18 := Lib.hid (D0_17.out.below layE_ok hb)
  have S0_17 := Lib.hid (S0_16.out.below hb)
  have X0_15 := Lib.hid (X0_14.out.below hb)
  have G0_13 := Lib.hid (G0_12.out.below hb)
  have M0_6 := Lib.hid (M0_5.out.below layE_ok hb)
  have N0_3 := Lib.hid (N0_2.out.below layE_ok hb)
  have H0_2 := Lib.hid (H0_1.out.below hb)
  clear HB_20 A_20 D0_17 S0_16 X0_14 G0_12 M0_5 N0_2 H0_1 hb HKN
  go_wp2
  go_ret
  exact ⟨rfl, HB_21.out⟩
end Go.Proofs.YtfoajpehmbojbaaGreatDoor
