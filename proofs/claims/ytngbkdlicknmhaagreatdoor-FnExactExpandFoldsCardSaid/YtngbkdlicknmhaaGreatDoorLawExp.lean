/- The law of ExpandFolds: the program's answer is the reference's. -/
import Derived.Deep.DeepCutAuto
import Derived.Deep.RegionLaw
import Derived.Deep.RegionHeld
import Derived.Test.YtngbkdlicknmhaaGreatDoorExpI2
import Derived.Test.YtngbkdlicknmhaaGreatDoorFldD
namespace Go.Proofs.YtngbkdlicknmhaaGreatDoor
open Go Go.RowKit
set_option maxHeartbeats 8000000
set_option maxRecDepth 100000
theorem small29 {l : P.Dic} (h : (l.length : Int) + P.sizeE l ≤ 1048576) : ∀ e ∈ l, e.2.length ≤ 2 ^ 29 := fun e he => by
  have := P.sizeE_mem he; omega
theorem folds30 {l : P.Folds} (h : (l.length : Int) + P.sizeF l ≤ 1048576) : ∀ f ∈ l, f.2.length ≤ 2 ^ 30 := fun f hf => by
  have := P.sizeF_mem hf; omega
theorem kAt_out : ∀ (k : Int) (l : P.Dic), (∀ e ∈ l, e.1.length ≤ 6) → P.kAt k l ≤ k + 7 * l.length
  | k, [], _ => by simp [P.kAt]
  | k, e :: l, h => by
    have h1 := kAt_out (k + e.1.length + 1) l (fun x hx => h x (by simp [hx]))
    have h2 := h e (by simp)
    simp only [P.kAt, List.length_cons] at *; omega
theorem kAt_exp (d : P.Dic) (l : P.Folds) : P.kAt 1 (P.kept (P.expOk d l) (P.expS d l)) ≤ 2 ^ 40 := by
  cases h : P.expOk d l
  · show P.kAt 1 [] ≤ _; simp [P.kAt]
  · show P.kAt 1 (P.expS d l) ≤ _
    unfold P.expOk at h
    simp only [Bool.and_eq_true] at h
    have h1 := P.dic_len h.2.2
    have h2 := kAt_out 1 (P.expS d l) fun e he => by
      have h3 := h.2.2
      unfold P.dic at h3
      simp only [Bool.and_eq_true, List.all_eq_true] at h3
      have h4 := h3.2.1 e he
      unfold P.entry P.outline at h4
      simp only [Bool.and_eq_true, decide_eq_true_eq] at h4
      omega
    omega
theorem law_expandFolds (u0 : Value) (l0 : P.Dic) (u1 : Value) (l1 : P.Folds) (w : World) (hu0 : EntA w u0 l0) (ht0 : ∀ e ∈ l0, e.2.length ≤ 9223372036854775807) (hu1 : FldA w u1 l1) (ht1 : ∀ f ∈ l1, f.2.length ≤ 9223372036854775807) (hE : Env w) :
    Calls Tryz.prog 7 #[.agg #[u0], u1] w fun e w' => e = .returned (.bool true) ∧ Below w.heap.size w w' := by
  have HE := Lib.hid hE; clear hE
  have HU0 := Lib.hid hu0
  have HT0 := Lib.hid ht0; clear ht0
  obtain ⟨a0d, a0c, rfl, hln0, _⟩ := hu0
  have HU1 := Lib.hid hu1
  have HT1 := Lib.hid ht1; clear ht1
  obtain ⟨a1d, a1c, rfl, hln1, _⟩ := hu1
  have hb := ((Below.refl w.heap.size w).alloc (Nat.le_refl _) (.cells #[.slice a0d l0.length a0c] 88))
  have HB_0 := Lib.hid (hb)
  have A0_0 := Lib.hid (Box1.new (.slice a0d l0.length a0c) 88 w)
  clear hb
  go_enter Tryz.func7, Tryz.ntmps7
  go_wp2_with fail
  refine (szDictionary _ l0 1048576 _ (HU0.out.below HB_0.out) HT0.out (by decide) (by decide)).mono ?_
  rintro e w1 ⟨⟨r0, rfl, hra0, hrb0⟩, hb⟩
  have zw1 : w.heap.size + 1 ≤ w1.heap.size := by have := hb.size; simp at this; omega
  have HB_1 := Lib.hid (HB_0.out.trans (hb.mono HB_0.out.size))
  have A0_1 := Lib.hid (A0_0.out.below hb)
  clear HB_0 A0_0 hb HT0
  have HR0 := Lib.hid hrb0; clear hrb0
  by_cases hneg0 : r0 < 0
  · go_wp2
    go_ret
    exact ⟨rfl, HB_1.out⟩
  have hR0 : r0 = 1048576 - ((l0.length : Int) + P.sizeE l0) := HR0.out (by omega)
  have HSL0 := Lib.hid hR0; have HRN0 := Lib.hid (show 0 ≤ r0 by omega); clear hR0 HR0 hra0
  have hq0 : r0 ≤ 2 ^ 20 := by have := P.sizeE_nonneg l0; have := HSL0.out; omega
  have HRQ0 := Lib.hid hq0; clear hq0
  go_wp2_with fail
  refine (szFoldS _ l1 r0 _ (HU1.out.below HB_1.out) HT1.out HRN0.out HRQ0.out).mono ?_
  rintro e w2 ⟨⟨r1, rfl, hra1, hrb1⟩, hb⟩
  have zw2 : w1.heap.size ≤ w2.heap.size := hb.size
  have HB_2 := Lib.hid (HB_1.out.trans (hb.mono HB_1.out.size))
  have A0_2 := Lib.hid (A0_1.out.below hb)
  clear HB_1 A0_1 hb HT1
  have HR1 := Lib.hid hrb1; clear hrb1
  by_cases hneg1 : r1 < 0
  · go_wp2
    go_ret
    exact ⟨rfl, HB_2.out⟩
  have hR1 : r1 = r0 - ((l1.length : Int) + P.sizeF l1) := HR1.out (by omega)
  have HSL1 := Lib.hid hR1; have HRN1 := Lib.hid (show 0 ≤ r1 by omega); clear hR1 HR1 hra1
  have hq1 : r1 ≤ 2 ^ 20 := by have := P.sizeE_nonneg l0; have := P.sizeF_nonneg l1; have := HSL0.out; have := HSL1.out; omega
  have HRQ1 := Lib.hid hq1; clear hq1
  have HS0 := Lib.hid (show (l0.length : Int) + P.sizeE l0 ≤ 1048576 by have := HSL0.out; have := HRN0.out; have := HSL1.out; have := HRN1.out; have := P.sizeE_nonneg l0; have := P.sizeF_nonneg l1; omega)
  have HUA0 := HU0; clear HU0
  have HU0 := Lib.hid (HUA0.out.read (small_of HS0.out).len (small_of HS0.out).outs); have HSM0 := Lib.hid (small_of HS0.out)
  clear HUA0
  have HS1 := Lib.hid (show (l1.length : Int) + P.sizeF l1 ≤ 1048576 by have := HSL0.out; have := HRN0.out; have := HSL1.out; have := HRN1.out; have := P.sizeE_nonneg l0; have := P.sizeF_nonneg l1; omega)
  have HUA1 := HU1; clear HU1
  have HSM1 := Lib.hid (show l1.length ≤ 2 ^ 20 by have := HS1.out; have := P.sizeF_nonneg l1; omega)
  have HU1 := Lib.hid (HUA1.out.read HSM1.out)
  clear HUA1
  have HSS := Lib.hid (show ((l0.length : Int) + P.sizeE l0) + ((l1.length : Int) + P.sizeF l1) ≤ 1048576 by have := HSL0.out; have := HRN0.out; have := HSL1.out; have := HRN1.out; have := P.sizeE_nonneg l0; have := P.sizeF_nonneg l1; omega)
  have HKK := Lib.hid (kAt_exp l0 l1)
  have HK0 := Lib.hid (show 0 ≤ (1 : Int) ∧ (1 : Int) ≤ 2 ^ 40 ∧ (P.kAt (1 : Int) l0) ≤ 2 ^ 40 ∧ 0 ≤ (P.kAt (1 : Int) l0) by have := HS0.out; have := HS1.out; have := P.sizeE_nonneg l0; have := P.sizeF_nonneg l1; have := P.kAt_le (1 : Int) l0; have := P.kAt_ge (1 : Int) l0; omega)
  have HK1 := Lib.hid (show 0 ≤ (P.kAt (1 : Int) l0) ∧ (P.kAt (1 : Int) l0) ≤ 2 ^ 40 ∧ ((P.kAt (1 : Int) l0) + 2 * (l1.length : Int)) ≤ 2 ^ 40 ∧ 0 ≤ ((P.kAt (1 : Int) l0) + 2 * (l1.length : Int)) by have := HS0.out; have := HS1.out; have := P.sizeE_nonneg l0; have := P.sizeF_nonneg l1; have := P.kAt_le (1 : Int) l0; have := P.kAt_ge (1 : Int) l0; omega)
  clear HSL0 HRN0 HRQ0 HSL1 HRN1 HRQ1 HSS
  obtain ⟨c_A0, _⟩ := A0_2.out
  go_wp2_with fail
  refine (toDictionary _ l0 _ (HU0.out.below HB_2.out) HSM0.out.len HSM0.out.outs).mono ?_
  rintro e w3 ⟨y1, rfl, hI, hb⟩
  clear c_A0
  have zw3 : w2.heap.size ≤ w3.heap.size := hb.size
  have HB_3 := Lib.hid (HB_2.out.trans (hb.mono HB_2.out.size))
  have A0_3 := Lib.hid (A0_2.out.below hb)
  clear HB_2 A0_2 hb
  have C0_0 := Lib.hid ((by simpa using hI : Ents w3 (Bet (w2.heap.size) w3.heap.size) y1 l0))
  clear hI
  obtain ⟨y1d, y1c, rfl, _, _⟩ := id C0_0.out
  go_wp2_with fail
  refine (toFoldS _ l1 _ (HU1.out.below HB_3.out) HSM1.out).mono ?_
  rintro e w4 ⟨y2, rfl, hI, hb⟩
  have zw4 : w3.heap.size ≤ w4.heap.size := hb.size
  have HB_4 := Lib.hid (HB_3.out.trans (hb.mono HB_3.out.size))
  have A0_4 := Lib.hid (A0_3.out.below hb)
  have C0_1 := Lib.hid (C0_0.out.below entE_ok hb)
  clear HB_3 A0_3 C0_0 hb
  have C1_0 := Lib.hid ((by simpa using hI : Flds w4 (Bet (w3.heap.size) w4.heap.size) y2 l1))
  clear hI
  obtain ⟨y2d, y2c, rfl, _, _⟩ := id C1_0.out
  go_wp2_with fail
  refine (spec_expandFolds _ _ l0 l1 _ (Ents.read C0_1.out) (Flds.read C1_0.out) HSM0.out (small29 HS0.out) (folds30 HS1.out)).mono ?_
  rintro e w5 ⟨s, rfl, hI, hb⟩
  clear C0_1
  clear C1_0
  have zw5 : w4.heap.size ≤ w5.heap.size := hb.size
  have HB_5 := Lib.hid (HB_4.out.trans (hb.mono HB_4.out.size))
  have A0_5 := Lib.hid (A0_4.out.below hb)
  clear HB_4 A0_4 hb
  have sL_0 := Lib.hid ((by simpa using hI : Ents w5 (Bet (w4.heap.size) w5.heap.size) s (P.kept (P.expOk l0 l1) (P.expS l0 l1))))
  clear hI
  obtain ⟨sd, sc, rfl, _, _⟩ := id sL_0.out
  have hb := (Below.refl w5.heap.size w5).alloc (Nat.le_refl _) (.cells #[(.slice sd (P.kept (P.expOk l0 l1) (P.expS l0 l1)).length sc)] 26)
  have HB_6 := Lib.hid (HB_5.out.trans (hb.mono HB_5.out.size))
  have A0_6 := Lib.hid (A0_5.out.below hb)
  have sL_1 := Lib.hid (sL_0.out.below entE_ok hb)
  clear HB_5 A0_5 sL_0 hb
  have sB_0 := Lib.hid (Box1.new (.slice sd (P.kept (P.expOk l0 l1) (P.expS l0 l1)).length sc) 26 w5)
  obtain ⟨c_A0, _⟩ := A0_6.out
  go_wp2_with fail
  refine (toDictionary _ l0 _ (HU0.out.below HB_6.out) HSM0.out.len HSM0.out.outs).mono ?_
  rintro e w6 ⟨y3, rfl, hI, hb⟩
  clear c_A0
  have zw6 : w5.heap.size + 1 ≤ w6.heap.size := by have := hb.size; simp at this; omega
  have HB_7 := Lib.hid (HB_6.out.trans (hb.mono HB_6.out.size))
  have A0_7 := Lib.hid (A0_6.out.below hb)
  have sL_2 := Lib.hid (sL_1.out.below entE_ok hb)
  have sB_1 := Lib.hid (sB_0.out.below hb)
  clear HB_6 A0_6 sL_1 sB_0 hb
  have E0_0 := Lib.hid ((by simpa using hI : Ents w6 (Bet (w5.heap.size + 1) w6.heap.size) y3 l0))
  clear hI
  obtain ⟨y3d, y3c, rfl, _, _⟩ := id E0_0.out
  have hb := (Below.refl w6.heap.size w6).alloc (Nat.le_refl _) (.cells #[.slice y3d l0.length y3c] 26)
  have HB_8 := Lib.hid (HB_7.out.trans (hb.mono HB_7.out.size))
  have A0_8 := Lib.hid (A0_7.out.below hb)
  have sL_3 := Lib.hid (sL_2.out.below entE_ok hb)
  have sB_2 := Lib.hid (sB_1.out.below hb)
  have E0_1 := Lib.hid (E0_0.out.below entE_ok hb)
  clear HB_7 A0_7 sL_2 sB_1 E0_0 hb
  have X0_0 := Lib.hid (Box1.new (.slice y3d l0.length y3c) 26 w6)
  go_wp2_with fail
  refine (toFoldS _ l1 _ (HU1.out.below HB_8.out) HSM1.out).mono ?_
  rintro e w7 ⟨y4, rfl, hI, hb⟩
  have zw7 : w6.heap.size + 1 ≤ w7.heap.size := by have := hb.size; simp at this; omega
  have HB_9 := Lib.hid (HB_8.out.trans (hb.mono HB_8.out.size))
  have A0_9 := Lib.hid (A0_8.out.below hb)
  have sL_4 := Lib.hid (sL_3.out.below entE_ok hb)
  have sB_3 := Lib.hid (sB_2.out.below hb)
  have E0_2 := Lib.hid (E0_1.out.below entE_ok hb)
  have X0_1 := Lib.hid (X0_0.out.below hb)
  clear HB_8 A0_8 sL_3 sB_2 E0_1 X0_0 hb
  have E1_0 := Lib.hid ((by simpa using hI : Flds w7 (Bet (w6.heap.size + 1) w7.heap.size) y4 l1))
  clear hI
  obtain ⟨y4d, y4c, rfl, _, _⟩ := id E1_0.out
  obtain ⟨c_X0, _⟩ := X0_1.out
  go_wp2_with fail
  refine (impl_expandFolds _ _ l0 l1 _ (Ents.read E0_2.out) (Flds.read E1_0.out) HSM0.out (small29 HS0.out) (folds30 HS1.out) (HE.out.below HB_9.out HE.out.size)).mono ?_
  rintro e w8 ⟨g0, rfl, hI, hb⟩
  clear c_X0
  have zw8 : w7.heap.size ≤ w8.heap.size := hb.size
  have HB_10 := Lib.hid (HB_9.out.trans (hb.mono HB_9.out.size))
  have A0_10 := Lib.hid (A0_9.out.below hb)
  have sL_5 := Lib.hid (sL_4.out.below entE_ok hb)
  have sB_4 := Lib.hid (sB_3.out.below hb)
  have E0_3 := Lib.hid (E0_2.out.below entE_ok hb)
  have X0_2 := Lib.hid (X0_1.out.below hb)
  have E1_1 := Lib.hid (E1_0.out.below foldE_ok hb)
  clear HB_9 A0_9 sL_4 sB_3 E0_2 X0_1 E1_0 hb
  have gL_0 := Lib.hid ((by simpa using hI : Ents w8 (Bet (w7.heap.size) w8.heap.size) g0 (P.kept (P.expOk l0 l1) (P.expS l0 l1))))
  clear hI
  obtain ⟨g0d, g0c, rfl, _, _⟩ := id gL_0.out
  have hb := (Below.refl w8.heap.size w8).alloc (Nat.le_refl _) (.cells #[(.slice g0d (P.kept (P.expOk l0 l1) (P.expS l0 l1)).length g0c)] 26)
  have HB_11 := Lib.hid (HB_10.out.trans (hb.mono HB_10.out.size))
  have A0_11 := Lib.hid (A0_10.out.below hb)
  have sL_6 := Lib.hid (sL_5.out.below entE_ok hb)
  have sB_5 := Lib.hid (sB_4.out.below hb)
  have E0_4 := Lib.hid (E0_3.out.below entE_ok hb)
  have X0_3 := Lib.hid (X0_2.out.below hb)
  have E1_2 := Lib.hid (E1_1.out.below foldE_ok hb)
  have gL_1 := Lib.hid (gL_0.out.below entE_ok hb)
  clear HB_10 A0_10 sL_5 sB_4 E0_3 X0_2 E1_1 gL_0 hb
  have gB_0 := Lib.hid (Box1.new (.slice g0d (P.kept (P.expOk l0 l1) (P.expS l0 l1)).length g0c) 26 w8)
  obtain ⟨c_gB, _⟩ := gB_0.out
  obtain ⟨c_sB, _⟩ := sB_5.out
  go_wp2_with fail
  refine (eqDictionary _ _ (P.kept (P.expOk l0 l1) (P.expS l0 l1)) _ (Ents.read gL_1.out) (Ents.read sL_6.out)).mono ?_
  rintro e w9 ⟨rfl, hb⟩
  clear c_gB c_sB
  have zw9 : w8.heap.size + 1 ≤ w9.heap.size := by have := hb.size; simp at this; omega
  have HB_12 := Lib.hid (HB_11.out.trans (hb.mono HB_11.out.size))
  have A0_12 := Lib.hid (A0_11.out.below hb)
  have sL_7 := Lib.hid (sL_6.out.below entE_ok hb)
  have sB_6 := Lib.hid (sB_5.out.below hb)
  have E0_5 := Lib.hid (E0_4.out.below entE_ok hb)
  have X0_4 := Lib.hid (X0_3.out.below hb)
  have E1_3 := Lib.hid (E1_2.out.below foldE_ok hb)
  have gL_2 := Lib.hid (gL_1.out.below entE_ok hb)
  have gB_1 := Lib.hid (gB_0.out.below hb)
  clear HB_11 A0_11 sL_6 sB_5 E0_4 X0_3 E1_2 gL_1 gB_0 hb
  have hb := (Below.refl w9.heap.size w9).drew
  have HB_13 := Lib.hid (HB_12.out.trans (hb.mono HB_12.out.size))
  have A0_13 := Lib.hid (A0_12.out.below hb)
  have sL_8 := Lib.hid (sL_7.out.below entE_ok hb)
  have sB_7 := Lib.hid (sB_6.out.below hb)
  have E0_6 := Lib.hid (E0_5.out.below entE_ok hb)
  have X0_5 := Lib.hid (X0_4.out.below hb)
  have E1_4 := Lib.hid (E1_3.out.below foldE_ok hb)
  have gL_3 := Lib.hid (gL_2.out.below entE_ok hb)
  have gB_2 := Lib.hid (gB_1.out.below hb)
  clear HB_12 A0_12 sL_7 sB_6 E0_5 X0_4 E1_3 gL_2 gB_1 hb
  go_upto_region 14 with fail
  refine wp_region_held_drew (S := fun v : World => v.cell? ⟨w6.heap.size, 0, none⟩ = some (.slice y3d l0.length y3c) ∧ v.cell? ⟨w.heap.size, 0, none⟩ = some (.slice a0d l0.length a0c) ∧ w6.heap.size < v.heap.size ∧ w.heap.size < v.heap.size) (by kernel_rfl) ⟨X0_5.out.1, A0_13.out.1, X0_5.out.2, A0_13.out.2⟩ (fun hS0 => ?_)
  refine wpAnyH_take (i := 0) (v := .agg #[.slice y3d l0.length y3c]) rfl (by kernel_rfl) (by kernel_rfl) (by kernel_rfl) (fun _ _ _ h => h) (Or.inl ⟨by rfl, fun z hz => ?_⟩) hS0 ?_
  · obtain ⟨q1, q2, q3, q4⟩ := hz
    go_simp
  try simp only [qA, qB, Act.put, qD, qE, qF]
  refine wpAnyH_take (i := 1) (v := .agg #[.slice a0d l0.length a0c]) rfl (by kernel_rfl) (by kernel_rfl) (by kernel_rfl) (fun _ _ _ h => h) (Or.inl ⟨by rfl, fun z hz => ?_⟩) hS0 ?_
  · obtain ⟨q1, q2, q3, q4⟩ := hz
    go_simp
  try simp only [qA, qB, qC, Act.put, qD, qE, qF]
  refine wpAnyH_ready (rs := [2]) (by kernel_rfl) (by simp) ?_
  refine AllReadyH.cons rfl (fun K hK => ?_) AllReadyH.nil
  go_simp
  refine (toDictionary _ l0 _ (HU0.out.below HB_13.out) HSM0.out.len HSM0.out.outs).mono ?_
  rintro e w10 ⟨y5, rfl, hI, hb⟩
  have zw10 : w9.heap.size ≤ w10.heap.size := hb.size
  refine hK.out _ _ ⟨(hb.cell (p := ⟨w6.heap.size, 0, none⟩) hS0.2.2.1).trans hS0.1, (hb.cell (p := ⟨w.heap.size, 0, none⟩) hS0.2.2.2).trans hS0.2.1, Nat.lt_of_lt_of_le hS0.2.2.1 hb.size, Nat.lt_of_lt_of_le hS0.2.2.2 hb.size⟩ (fun hS1 => ?_)
  clear hK K
  have HB_14 := Lib.hid (HB_13.out.trans (hb.mono HB_13.out.size))
  have A0_14 := Lib.hid (A0_13.out.below hb)
  have sL_9 := Lib.hid (sL_8.out.below entE_ok hb)
  have sB_8 := Lib.hid (sB_7.out.below hb)
  have E0_7 := Lib.hid (E0_6.out.below entE_ok hb)
  have X0_6 := Lib.hid (X0_5.out.below hb)
  have E1_5 := Lib.hid (E1_4.out.below foldE_ok hb)
  have gL_4 := Lib.hid (gL_3.out.below entE_ok hb)
  have gB_3 := Lib.hid (gB_2.out.below hb)
  clear HB_13 A0_13 sL_8 sB_7 E0_6 X0_5 E1_4 gL_3 gB_2 hb hS0
  have HI3 := Lib.hid hI
  obtain ⟨y5d, y5c, rfl, _, _⟩ := hI
  try simp only [qA, qB, qC, Act.put, qD, qE, qF]
  refine wpAnyH_ready (rs := [3]) (by kernel_rfl) (by simp) ?_
  refine AllReadyH.cons rfl (fun K hK => ?_) AllReadyH.nil
  go_simp
  refine (eqDictionary _ _ l0 _ (Ents.read E0_7.out) (Ents.read HI3.out)).mono ?_
  rintro e w11 ⟨rfl, hb⟩
  have zw11 : w10.heap.size ≤ w11.heap.size := hb.size
  refine hK.out _ _ ⟨(hb.cell (p := ⟨w6.heap.size, 0, none⟩) hS1.2.2.1).trans hS1.1, (hb.cell (p := ⟨w.heap.size, 0, none⟩) hS1.2.2.2).trans hS1.2.1, Nat.lt_of_lt_of_le hS1.2.2.1 hb.size, Nat.lt_of_lt_of_le hS1.2.2.2 hb.size⟩ (fun hS2 => ?_)
  clear hK K
  have HB_15 := Lib.hid (HB_14.out.trans (hb.mono HB_14.out.size))
  have A0_15 := Lib.hid (A0_14.out.below hb)
  have sL_10 := Lib.hid (sL_9.out.below entE_ok hb)
  have sB_9 := Lib.hid (sB_8.out.below hb)
  have E0_8 := Lib.hid (E0_7.out.below entE_ok hb)
  have X0_7 := Lib.hid (X0_6.out.below hb)
  have E1_6 := Lib.hid (E1_5.out.below foldE_ok hb)
  have gL_5 := Lib.hid (gL_4.out.below entE_ok hb)
  have gB_4 := Lib.hid (gB_3.out.below hb)
  clear HB_14 A0_14 sL_9 sB_8 E0_7 X0_6 E1_5 gL_4 gB_3 hb hS1 HI3
  try simp only [qA, qB, qC, Act.put, qD, qE, qF]
  refine wpAnyH_take (i := 4) (v := .bool false) rfl (by kernel_rfl) (by kernel_rfl) (by kernel_rfl) (fun _ _ _ h => h) (Or.inl ⟨by rfl, fun z hz => ?_⟩) hS2 ?_
  · obtain ⟨q1, q2, q3, q4⟩ := hz
    go_simp
  try simp only [qA, qB, qC, Act.put, qD, qE, qF]
  refine wpAnyH_done (by kernel_rfl) ?_ _
  clear hS2
  go_wp2_with fail
  refine (toFoldS _ l1 _ (HU1.out.below HB_15.out) HSM1.out).mono ?_
  rintro e w12 ⟨y6, rfl, hI, hb⟩
  have zw12 : w11.heap.size ≤ w12.heap.size := hb.size
  have HB_16 := Lib.hid (HB_15.out.trans (hb.mono HB_15.out.size))
  have A0_16 := Lib.hid (A0_15.out.below hb)
  have sL_11 := Lib.hid (sL_10.out.below entE_ok hb)
  have sB_10 := Lib.hid (sB_9.out.below hb)
  have E0_9 := Lib.hid (E0_8.out.below entE_ok hb)
  have X0_8 := Lib.hid (X0_7.out.below hb)
  have E1_7 := Lib.hid (E1_6.out.below foldE_ok hb)
  have gL_6 := Lib.hid (gL_5.out.below entE_ok hb)
  have gB_5 := Lib.hid (gB_4.out.below hb)
  clear HB_15 A0_15 sL_10 sB_9 E0_8 X0_7 E1_6 gL_5 gB_4 hb
  have HI3 := Lib.hid hI
  obtain ⟨y6d, y6c, rfl, _, _⟩ := hI
  go_wp2_with fail
  refine (eqFoldS _ _ l1 _ (Flds.read E1_7.out) (Flds.read HI3.out)).mono ?_
  rintro e w13 ⟨rfl, hb⟩
  have zw13 : w12.heap.size ≤ w13.heap.size := hb.size
  have HB_17 := Lib.hid (HB_16.out.trans (hb.mono HB_16.out.size))
  have A0_17 := Lib.hid (A0_16.out.below hb)
  have sL_12 := Lib.hid (sL_11.out.below entE_ok hb)
  have sB_11 := Lib.hid (sB_10.out.below hb)
  have E0_10 := Lib.hid (E0_9.out.below entE_ok hb)
  have X0_9 := Lib.hid (X0_8.out.below hb)
  have E1_8 := Lib.hid (E1_7.out.below foldE_ok hb)
  have gL_7 := Lib.hid (gL_6.out.below entE_ok hb)
  have gB_6 := Lib.hid (gB_5.out.below hb)
  clear HB_16 A0_16 sL_11 sB_10 E0_9 X0_8 E1_7 gL_6 gB_5 hb HI3
  obtain ⟨c_X0, _⟩ := X0_9.out
  go_wp2_with fail
  refine (markDictionary _ l0 (1 : Int) (Bet (w5.heap.size + 1) w6.heap.size) _ E0_10.out HK0.out.1 HK0.out.2.2.1).mono ?_
  rintro e w14 ⟨rfl, _, hc⟩
  have zw14 : w13.heap.size ≤ w14.heap.size := hc.size
  clear c_X0
  have HB_18 := Lib.hid (Chg.belowB HB_17.out hc HB_17.out.size (fun b h => by simp only [Bet] at h; omega))
  have A0_18 := Lib.hid (A0_17.out.stand hc (fun h => by simp only [Bet] at h; omega))
  have sL_13 := Lib.hid (sL_12.out.stand entE_ok hc (fun b h1 h2 => by simp only [Bet] at h1 h2; omega))
  have sB_12 := Lib.hid (sB_11.out.stand hc (fun h => by simp only [Bet] at h; omega))
  have X0_10 := Lib.hid (X0_9.out.stand hc (fun h => by simp only [Bet] at h; omega))
  have E1_9 := Lib.hid (E1_8.out.stand foldE_ok hc (fun b h1 h2 => by simp only [Bet] at h1 h2; omega))
  have gL_8 := Lib.hid (gL_7.out.stand entE_ok hc (fun b h1 h2 => by simp only [Bet] at h1 h2; omega))
  have gB_7 := Lib.hid (gB_6.out.stand hc (fun h => by simp only [Bet] at h; omega))
  clear HB_17 A0_17 sL_12 sB_11 X0_9 E1_8 gL_7 gB_6 hc
  go_wp2_with fail
  refine (markFoldS _ l1 (P.kAt (1 : Int) l0) (Bet (w6.heap.size + 1) w7.heap.size) _ E1_9.out HK1.out.1 HK1.out.2.1).mono ?_
  rintro e w15 ⟨rfl, _, hc⟩
  have zw15 : w14.heap.size ≤ w15.heap.size := hc.size
  have HB_19 := Lib.hid (Chg.belowB HB_18.out hc HB_18.out.size (fun b h => by simp only [Bet] at h; omega))
  have A0_19 := Lib.hid (A0_18.out.stand hc (fun h => by simp only [Bet] at h; omega))
  have sL_14 := Lib.hid (sL_13.out.stand entE_ok hc (fun b h1 h2 => by simp only [Bet] at h1 h2; omega))
  have sB_13 := Lib.hid (sB_12.out.stand hc (fun h => by simp only [Bet] at h; omega))
  have X0_11 := Lib.hid (X0_10.out.stand hc (fun h => by simp only [Bet] at h; omega))
  have gL_9 := Lib.hid (gL_8.out.stand entE_ok hc (fun b h1 h2 => by simp only [Bet] at h1 h2; omega))
  have gB_8 := Lib.hid (gB_7.out.stand hc (fun h => by simp only [Bet] at h; omega))
  clear HB_18 A0_18 sL_13 sB_12 X0_10 gL_8 gB_7 hc
  have hkp : ¬ ((P.kAt (1 : Int) l0) + 2 * (l1.length : Int)) < 0 := by have := HK1.out.2.2.2; omega
  obtain ⟨c_gB, _⟩ := gB_8.out
  obtain ⟨c_sB, _⟩ := sB_13.out
  go_wp2_with fail
  refine (eqDictionary _ _ (P.kept (P.expOk l0 l1) (P.expS l0 l1)) _ (Ents.read gL_9.out) (Ents.read sL_14.out)).mono ?_
  rintro e w16 ⟨rfl, hb⟩
  clear c_gB c_sB
  have zw16 : w15.heap.size ≤ w16.heap.size := hb.size
  have HB_20 := Lib.hid (HB_19.out.trans (hb.mono HB_19.out.size))
  have A0_20 := Lib.hid (A0_19.out.below hb)
  have sL_15 := Lib.hid (sL_14.out.below entE_ok hb)
  have sB_14 := Lib.hid (sB_13.out.below hb)
  have X0_12 := Lib.hid (X0_11.out.below hb)
  have gL_10 := Lib.hid (gL_9.out.below entE_ok hb)
  have gB_9 := Lib.hid (gB_8.out.below hb)
  clear HB_19 A0_19 sL_14 sB_13 X0_11 gL_9 gB_8 hb
  obtain ⟨c_gB, _⟩ := gB_9.out
  go_wp2_with fail
  refine (markDictionary _ (P.kept (P.expOk l0 l1) (P.expS l0 l1)) 1 (Bet (w7.heap.size) w8.heap.size) _ gL_10.out (by decide) HKK.out).mono ?_
  rintro e w17 ⟨rfl, hI, hc⟩
  have zw17 : w16.heap.size ≤ w17.heap.size := hc.size
  clear c_gB
  have HB_21 := Lib.hid (Chg.belowB HB_20.out hc HB_20.out.size (fun b h => by simp only [Bet] at h; omega))
  have A0_21 := Lib.hid (A0_20.out.stand hc (fun h => by simp only [Bet] at h; omega))
  have sL_16 := Lib.hid (sL_15.out.stand entE_ok hc (fun b h1 h2 => by simp only [Bet] at h1 h2; omega))
  have sB_15 := Lib.hid (sB_14.out.stand hc (fun h => by simp only [Bet] at h; omega))
  have X0_13 := Lib.hid (X0_12.out.stand hc (fun h => by simp only [Bet] at h; omega))
  have gB_10 := Lib.hid (gB_9.out.stand hc (fun h => by simp only [Bet] at h; omega))
  clear HB_20 A0_20 sL_15 sB_14 X0_12 gB_9 hc hkp
  have mL_0 := Lib.hid (hI)
  clear hI
  obtain ⟨c_gB, _⟩ := gB_10.out
  have HKN := Lib.hid (show ¬ P.kAt 1 (P.kept (P.expOk l0 l1) (P.expS l0 l1)) < 0 by have := P.kAt_ge 1 (P.kept (P.expOk l0 l1) (P.expS l0 l1)); omega)
  go_wp2_with fail
  refine (heldDictionary _ (P.kept (P.expOk l0 l1) (P.expS l0 l1)) 1 _ (Ents.read mL_0.out) (by decide) HKK.out).mono ?_
  rintro e w18 ⟨rfl, hb⟩
  clear c_gB
  have hkn := HKN.out
  have zw18 : w17.heap.size ≤ w18.heap.size := hb.size
  have HB_22 := Lib.hid (HB_21.out.trans (hb.mono HB_21.out.size))
  have A0_22 := Lib.hid (A0_21.out.below hb)
  have sL_17 := Lib.hid (sL_16.out.below entE_ok hb)
  have sB_16 := Lib.hid (sB_15.out.below hb)
  have X0_14 := Lib.hid (X0_13.out.below hb)
  have gB_11 := Lib.hid (gB_10.out.below hb)
  have mL_1 := Lib.hid (mL_0.out.below entE_ok hb)
  clear HB_21 A0_21 sL_16 sB_15 X0_13 gB_10 mL_0 hb HKN
  obtain ⟨c_A0, _⟩ := A0_22.out
  go_wp2_with fail
  refine (toDictionary _ l0 _ (HU0.out.below HB_22.out) HSM0.out.len HSM0.out.outs).mono ?_
  rintro e w19 ⟨y7, rfl, hI, hb⟩
  clear c_A0
  have zw19 : w18.heap.size ≤ w19.heap.size := hb.size
  have HB_23 := Lib.hid (HB_22.out.trans (hb.mono HB_22.out.size))
  have A0_23 := Lib.hid (A0_22.out.below hb)
  have sL_18 := Lib.hid (sL_17.out.below entE_ok hb)
  have sB_17 := Lib.hid (sB_16.out.below hb)
  have X0_15 := Lib.hid (X0_14.out.below hb)
  have gB_12 := Lib.hid (gB_11.out.below hb)
  have mL_2 := Lib.hid (mL_1.out.below entE_ok hb)
  clear HB_22 A0_22 sL_17 sB_16 X0_14 gB_11 mL_1 hb
  have C0_0 := Lib.hid ((by simpa using hI : Ents w19 (Bet (w18.heap.size) w19.heap.size) y7 l0))
  clear hI
  obtain ⟨y7d, y7c, rfl, _, _⟩ := id C0_0.out
  go_wp2_with fail
  refine (toFoldS _ l1 _ (HU1.out.below HB_23.out) HSM1.out).mono ?_
  rintro e w20 ⟨y8, rfl, hI, hb⟩
  have zw20 : w19.heap.size ≤ w20.heap.size := hb.size
  have HB_24 := Lib.hid (HB_23.out.trans (hb.mono HB_23.out.size))
  have A0_24 := Lib.hid (A0_23.out.below hb)
  have sL_19 := Lib.hid (sL_18.out.below entE_ok hb)
  have sB_18 := Lib.hid (sB_17.out.below hb)
  have X0_16 := Lib.hid (X0_15.out.below hb)
  have gB_13 := Lib.hid (gB_12.out.below hb)
  have mL_3 := Lib.hid (mL_2.out.below entE_ok hb)
  have C0_1 := Lib.hid (C0_0.out.below entE_ok hb)
  clear HB_23 A0_23 sL_18 sB_17 X0_15 gB_12 mL_2 C0_0 hb
  have C1_0 := Lib.hid ((by simpa using hI : Flds w20 (Bet (w19.heap.size) w20.heap.size) y8 l1))
  clear hI
  obtain ⟨y8d, y8c, rfl, _, _⟩ := id C1_0.out
  go_wp2_with fail
  refine (impl_expandFolds _ _ l0 l1 _ (Ents.read C0_1.out) (Flds.read C1_0.out) HSM0.out (small29 HS0.out) (folds30 HS1.out) (HE.out.below HB_24.out HE.out.size)).mono ?_
  rintro e w21 ⟨h, rfl, hI, hb⟩
  clear C0_1
  clear C1_0
  have zw21 : w20.heap.size ≤ w21.heap.size := hb.size
  have HB_25 := Lib.hid (HB_24.out.trans (hb.mono HB_24.out.size))
  have A0_25 := Lib.hid (A0_24.out.below hb)
  have sL_20 := Lib.hid (sL_19.out.below entE_ok hb)
  have sB_19 := Lib.hid (sB_18.out.below hb)
  have X0_17 := Lib.hid (X0_16.out.below hb)
  have gB_14 := Lib.hid (gB_13.out.below hb)
  have mL_4 := Lib.hid (mL_3.out.below entE_ok hb)
  clear HB_24 A0_24 sL_19 sB_18 X0_16 gB_13 mL_3 hb
  have hL_0 := Lib.hid ((by simpa using hI : Ents w21 (Bet (w20.heap.size) w21.heap.size) h (P.kept (P.expOk l0 l1) (P.expS l0 l1))))
  clear hI
  obtain ⟨hd, hc, rfl, _, _⟩ := id hL_0.out
  have hb := (Below.refl w21.heap.size w21).alloc (Nat.le_refl _) (.cells #[(.slice hd (P.kept (P.expOk l0 l1) (P.expS l0 l1)).length hc)] 26)
  have HB_26 := Lib.hid (HB_25.out.trans (hb.mono HB_25.out.size))
  have A0_26 := Lib.hid (A0_25.out.below hb)
  have sL_21 := Lib.hid (sL_20.out.below entE_ok hb)
  have sB_20 := Lib.hid (sB_19.out.below hb)
  have X0_18 := Lib.hid (X0_17.out.below hb)
  have gB_15 := Lib.hid (gB_14.out.below hb)
  have mL_5 := Lib.hid (mL_4.out.below entE_ok hb)
  have hL_1 := Lib.hid (hL_0.out.below entE_ok hb)
  clear HB_25 A0_25 sL_20 sB_19 X0_17 gB_14 mL_4 hL_0 hb
  have hB_0 := Lib.hid (Box1.new (.slice hd (P.kept (P.expOk l0 l1) (P.expS l0 l1)).length hc) 26 w21)
  obtain ⟨c_hB, _⟩ := hB_0.out
  obtain ⟨c_sB, _⟩ := sB_20.out
  go_wp2_with fail
  refine (eqDictionary _ _ (P.kept (P.expOk l0 l1) (P.expS l0 l1)) _ (Ents.read hL_1.out) (Ents.read sL_21.out)).mono ?_
  rintro e w22 ⟨rfl, hb⟩
  clear c_hB c_sB
  have zw22 : w21.heap.size + 1 ≤ w22.heap.size := by have := hb.size; simp at this; omega
  have HB_27 := Lib.hid (HB_26.out.trans (hb.mono HB_26.out.size))
  have A0_27 := Lib.hid (A0_26.out.below hb)
  have sL_22 := Lib.hid (sL_21.out.below entE_ok hb)
  have sB_21 := Lib.hid (sB_20.out.below hb)
  have X0_19 := Lib.hid (X0_18.out.below hb)
  have gB_16 := Lib.hid (gB_15.out.below hb)
  have mL_6 := Lib.hid (mL_5.out.below entE_ok hb)
  have hL_2 := Lib.hid (hL_1.out.below entE_ok hb)
  have hB_1 := Lib.hid (hB_0.out.below hb)
  clear HB_26 A0_26 sL_21 sB_20 X0_18 gB_15 mL_5 hL_1 hB_0 hb
  obtain ⟨c_gB, _⟩ := gB_16.out
  have HKN := Lib.hid (show ¬ P.kAt 1 (P.kept (P.expOk l0 l1) (P.expS l0 l1)) < 0 by have := P.kAt_ge 1 (P.kept (P.expOk l0 l1) (P.expS l0 l1)); omega)
  go_wp2_with fail
  refine (heldDictionary _ (P.kept (P.expOk l0 l1) (P.expS l0 l1)) 1 _ (Ents.read mL_6.out) (by decide) HKK.out).mono ?_
  rintro e w23 ⟨rfl, hb⟩
  clear c_gB
  have hkn := HKN.out
  have zw23 : w22.heap.size ≤ w23.heap.size := hb.size
  have HB_28 := Lib.hid (HB_27.out.trans (hb.mono HB_27.out.size))
  have A0_28 := Lib.hid (A0_27.out.below hb)
  have sL_23 := Lib.hid (sL_22.out.below entE_ok hb)
  have sB_22 := Lib.hid (sB_21.out.below hb)
  have X0_20 := Lib.hid (X0_19.out.below hb)
  have gB_17 := Lib.hid (gB_16.out.below hb)
  have mL_7 := Lib.hid (mL_6.out.below entE_ok hb)
  have hL_3 := Lib.hid (hL_2.out.below entE_ok hb)
  have hB_2 := Lib.hid (hB_1.out.below hb)
  clear HB_27 A0_27 sL_22 sB_21 X0_19 gB_16 mL_6 hL_2 hB_1 hb HKN
  go_wp2
  go_ret
  exact ⟨rfl, HB_28.out⟩
end Go.Proofs.YtngbkdlicknmhaaGreatDoor
