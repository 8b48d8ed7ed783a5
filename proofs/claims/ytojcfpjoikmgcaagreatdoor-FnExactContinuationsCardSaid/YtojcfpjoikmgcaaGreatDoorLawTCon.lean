/- The law of Continuations: the program's answer is the reference's. -/
import Derived.Deep.DeepCutAuto
import Derived.Deep.RegionLaw
import Derived.Deep.RegionHeld
import Derived.Test.YtojcfpjoikmgcaaGreatDoorLawD
import Derived.Test.YtojcfpjoikmgcaaGreatDoorLawT
import Derived.Test.YtojcfpjoikmgcaaGreatDoorEntT
namespace Go.Proofs.YtojcfpjoikmgcaaGreatDoor
open Go Go.RowKit
set_option maxHeartbeats 8000000
set_option maxRecDepth 100000
theorem con_small {l : P.Tri} (h : GoodT l) (n : Int) : (1 : Int) + ((P.keptI (P.contOk l n) (P.contL l n)).length : Int) ≤ 2 ^ 40 := by
  have key : (P.contL l n).length ≤ 2 ^ 20 := by
    unfold P.contL
    rcases Nat.lt_or_ge n.toNat l.length with hn | hn
    · rw [P.getD_at hn]; exact (h.small.each _ (List.getElem_mem hn)).a
    · rw [List.getD_eq_getElem?_getD, List.getElem?_eq_none hn]; simp [P.nd0]
  unfold P.keptI
  split
  · omega
  · simp
theorem law_continuations (u0 : Value) (l0 : P.Tri) (n1 : Int) (w : World) (hu0 : NodA w u0 l0) (ht0 : ∀ n ∈ l0, n.2.2.2.length ≤ 9223372036854775807) (hE : Env w) :
    Calls Tryz.prog 5 #[.agg #[u0], .int .i64 n1] w fun e w' => e = .returned (.bool true) ∧ Below w.heap.size w w' := by
  have HE := Lib.hid hE; clear hE
  have HU0 := Lib.hid hu0
  have HT0 := Lib.hid ht0; clear ht0
  obtain ⟨a0d, a0c, rfl, hln0, _⟩ := hu0
  have hb := ((Below.refl w.heap.size w).alloc (Nat.le_refl _) (.cells #[.slice a0d l0.length a0c] 40))
  have HB_0 := Lib.hid (hb)
  have A0_0 := Lib.hid (Box1.new (.slice a0d l0.length a0c) 40 w)
  clear hb
  go_enter Tryz.func5, Tryz.ntmps5
  go_wp2_with fail
  refine (szTrie _ l0 1048576 _ (HU0.out.below HB_0.out) HT0.out (by decide) (by decide)).mono ?_
  rintro e w1 ⟨⟨r0, rfl, hra0, hrb0⟩, hb⟩
  have zw1 : w.heap.size + 1 ≤ w1.heap.size := by have := hb.size; simp at this; omega
  have HB_1 := Lib.hid (HB_0.out.trans (hb.mono HB_0.out.size))
  have A0_1 := Lib.hid (A0_0.out.below hb)
  clear HB_0 A0_0 hb HT0
  have HR0 := Lib.hid hrb0; clear hrb0
  by_cases hneg0 : r0 < 0
  · go_wp2
    go_ret
    exact ⟨rfl, HB_1.out⟩
  have hR0 : r0 = 1048576 - ((l0.length : Int) + P.sizeT l0) := HR0.out (by omega)
  have HSL0 := Lib.hid hR0; have HRN0 := Lib.hid (show 0 ≤ r0 by omega); clear hR0 HR0 hra0
  have hq0 : r0 ≤ 2 ^ 20 := by have := P.sizeT_nonneg l0; have := HSL0.out; omega
  have HRQ0 := Lib.hid hq0; clear hq0
  have HS0 := Lib.hid (show (l0.length : Int) + P.sizeT l0 ≤ 1048576 by have := HSL0.out; have := HRN0.out; have := P.sizeT_nonneg l0; omega)
  have HUA0 := HU0; clear HU0
  have HU0 := Lib.hid (HUA0.out.read (goodT_of HS0.out).small); have HSM0 := Lib.hid (goodT_of HS0.out)
  clear HUA0
  have HKK := Lib.hid (con_small HSM0.out n1)
  have HK0 := Lib.hid (show 0 ≤ (1 : Int) ∧ (1 : Int) ≤ 2 ^ 40 ∧ (P.kAtT (1 : Int) l0) ≤ 2 ^ 40 ∧ 0 ≤ (P.kAtT (1 : Int) l0) by have := HS0.out; have := P.sizeT_nonneg l0; have := P.kAtT_le (1 : Int) l0; have := P.kAtT_ge (1 : Int) l0; omega)
  clear HSL0 HRN0 HRQ0
  obtain ⟨c_A0, _⟩ := A0_1.out
  go_wp2_with fail
  refine (toTrie _ l0 _ (HU0.out.below HB_1.out) HSM0.out.small).mono ?_
  rintro e w2 ⟨y1, rfl, hI, hb⟩
  clear c_A0
  have zw2 : w1.heap.size ≤ w2.heap.size := hb.size
  have HB_2 := Lib.hid (HB_1.out.trans (hb.mono HB_1.out.size))
  have A0_2 := Lib.hid (A0_1.out.below hb)
  clear HB_1 A0_1 hb
  have C0_0 := Lib.hid ((by simpa using hI : Nods w2 (Bet (w1.heap.size) w2.heap.size) y1 l0))
  clear hI
  obtain ⟨y1d, y1c, rfl, _, _⟩ := id C0_0.out
  go_wp2_with fail
  refine (spec_continuations _ l0 n1 _ (Nods.read C0_0.out) HSM0.out.small HSM0.out.t30).mono ?_
  rintro e w3 ⟨s, rfl, hI, hb⟩
  clear C0_0
  have zw3 : w2.heap.size ≤ w3.heap.size := hb.size
  have HB_3 := Lib.hid (HB_2.out.trans (hb.mono HB_2.out.size))
  have A0_3 := Lib.hid (A0_2.out.below hb)
  clear HB_2 A0_2 hb
  have sL_0 := Lib.hid ((by simpa using hI : Ints w3 (Bet (w2.heap.size) w3.heap.size) s (P.keptI (P.contOk l0 n1) (P.contL l0 n1))))
  clear hI
  obtain ⟨sd, sc, rfl, _, _⟩ := id sL_0.out
  obtain ⟨c_A0, _⟩ := A0_3.out
  go_wp2_with fail
  refine (toTrie _ l0 _ (HU0.out.below HB_3.out) HSM0.out.small).mono ?_
  rintro e w4 ⟨y2, rfl, hI, hb⟩
  clear c_A0
  have zw4 : w3.heap.size ≤ w4.heap.size := hb.size
  have HB_4 := Lib.hid (HB_3.out.trans (hb.mono HB_3.out.size))
  have A0_4 := Lib.hid (A0_3.out.below hb)
  have sL_1 := Lib.hid (sL_0.out.below intE_ok hb)
  clear HB_3 A0_3 sL_0 hb
  have E0_0 := Lib.hid ((by simpa using hI : Nods w4 (Bet (w3.heap.size) w4.heap.size) y2 l0))
  clear hI
  obtain ⟨y2d, y2c, rfl, _, _⟩ := id E0_0.out
  have hb := (Below.refl w4.heap.size w4).alloc (Nat.le_refl _) (.cells #[.slice y2d l0.length y2c] 30)
  have HB_5 := Lib.hid (HB_4.out.trans (hb.mono HB_4.out.size))
  have A0_5 := Lib.hid (A0_4.out.below hb)
  have sL_2 := Lib.hid (sL_1.out.below intE_ok hb)
  have E0_1 := Lib.hid (E0_0.out.below nodE_ok hb)
  clear HB_4 A0_4 sL_1 E0_0 hb
  have X0_0 := Lib.hid (Box1.new (.slice y2d l0.length y2c) 30 w4)
  obtain ⟨c_X0, _⟩ := X0_0.out
  go_wp2_with fail
  refine (impl_continuations _ l0 n1 _ (Nods.read E0_1.out) HSM0.out.small HSM0.out.t30 (HE.out.below HB_5.out HE.out.size)).mono ?_
  rintro e w5 ⟨g0, rfl, hI, hb⟩
  clear c_X0
  have zw5 : w4.heap.size + 1 ≤ w5.heap.size := by have := hb.size; simp at this; omega
  have HB_6 := Lib.hid (HB_5.out.trans (hb.mono HB_5.out.size))
  have A0_6 := Lib.hid (A0_5.out.below hb)
  have sL_3 := Lib.hid (sL_2.out.below intE_ok hb)
  have E0_2 := Lib.hid (E0_1.out.below nodE_ok hb)
  have X0_1 := Lib.hid (X0_0.out.below hb)
  clear HB_5 A0_5 sL_2 E0_1 X0_0 hb
  have gL_0 := Lib.hid ((by simpa using hI : Ints w5 (Bet (w4.heap.size + 1) w5.heap.size) g0 (P.keptI (P.contOk l0 n1) (P.contL l0 n1))))
  clear hI
  obtain ⟨g0d, g0c, rfl, _, _⟩ := id gL_0.out
  go_wp2_with fail
  refine (eqIntS _ _ (P.keptI (P.contOk l0 n1) (P.contL l0 n1)) _ (Ints.read gL_0.out) (Ints.read sL_3.out)).mono ?_
  rintro e w6 ⟨rfl, hb⟩
  have zw6 : w5.heap.size ≤ w6.heap.size := hb.size
  have HB_7 := Lib.hid (HB_6.out.trans (hb.mono HB_6.out.size))
  have A0_7 := Lib.hid (A0_6.out.below hb)
  have sL_4 := Lib.hid (sL_3.out.below intE_ok hb)
  have E0_3 := Lib.hid (E0_2.out.below nodE_ok hb)
  have X0_2 := Lib.hid (X0_1.out.below hb)
  have gL_1 := Lib.hid (gL_0.out.below intE_ok hb)
  clear HB_6 A0_6 sL_3 E0_2 X0_1 gL_0 hb
  have hb := (Below.refl w6.heap.size w6).drew
  have HB_8 := Lib.hid (HB_7.out.trans (hb.mono HB_7.out.size))
  have A0_8 := Lib.hid (A0_7.out.below hb)
  have sL_5 := Lib.hid (sL_4.out.below intE_ok hb)
  have E0_4 := Lib.hid (E0_3.out.below nodE_ok hb)
  have X0_3 := Lib.hid (X0_2.out.below hb)
  have gL_2 := Lib.hid (gL_1.out.below intE_ok hb)
  clear HB_7 A0_7 sL_4 E0_3 X0_2 gL_1 hb
  go_upto_region 10 with fail
  refine wp_region_held_drew (S := fun v : World => v.cell? ⟨w4.heap.size, 0, none⟩ = some (.slice y2d l0.length y2c) ∧ v.cell? ⟨w.heap.size, 0, none⟩ = some (.slice a0d l0.length a0c) ∧ w4.heap.size < v.heap.size ∧ w.heap.size < v.heap.size) (by kernel_rfl) ⟨X0_3.out.1, A0_8.out.1, X0_3.out.2, A0_8.out.2⟩ (fun hS0 => ?_)
  refine wpAnyH_take (i := 0) (v := .agg #[.slice y2d l0.length y2c]) rfl (by kernel_rfl) (by kernel_rfl) (by kernel_rfl) (fun _ _ _ h => h) (Or.inl ⟨by rfl, fun z hz => ?_⟩) hS0 ?_
  · obtain ⟨q1, q2, q3, q4⟩ := hz
    go_simp
  try simp only [List.getElem_toArray, List.getElem_cons_zero, Act.put, List.setIfInBounds_toArray, List.set_cons_zero, List.set_cons_succ]
  refine wpAnyH_take (i := 1) (v := .agg #[.slice a0d l0.length a0c]) rfl (by kernel_rfl) (by kernel_rfl) (by kernel_rfl) (fun _ _ _ h => h) (Or.inl ⟨by rfl, fun z hz => ?_⟩) hS0 ?_
  · obtain ⟨q1, q2, q3, q4⟩ := hz
    go_simp
  try simp only [List.getElem_toArray, List.getElem_cons_zero, List.getElem_cons_succ, Act.put, List.setIfInBounds_toArray, List.set_cons_zero, List.set_cons_succ]
  refine wpAnyH_ready (rs := [2]) (by kernel_rfl) (by simp) ?_
  refine AllReadyH.cons rfl (fun K hK => ?_) AllReadyH.nil
  go_simp
  refine (toTrie _ l0 _ (HU0.out.below HB_8.out) HSM0.out.small).mono ?_
  rintro e w7 ⟨y3, rfl, hI, hb⟩
  have zw7 : w6.heap.size ≤ w7.heap.size := hb.size
  refine hK.out _ _ ⟨(hb.cell (p := ⟨w4.heap.size, 0, none⟩) hS0.2.2.1).trans hS0.1, (hb.cell (p := ⟨w.heap.size, 0, none⟩) hS0.2.2.2).trans hS0.2.1, Nat.lt_of_lt_of_le hS0.2.2.1 hb.size, Nat.lt_of_lt_of_le hS0.2.2.2 hb.size⟩ (fun hS1 => ?_)
  clear hK K
  have HB_9 := Lib.hid (HB_8.out.trans (hb.mono HB_8.out.size))
  have A0_9 := Lib.hid (A0_8.out.below hb)
  have sL_6 := Lib.hid (sL_5.out.below intE_ok hb)
  have E0_5 := Lib.hid (E0_4.out.below nodE_ok hb)
  have X0_4 := Lib.hid (X0_3.out.below hb)
  have gL_3 := Lib.hid (gL_2.out.below intE_ok hb)
  clear HB_8 A0_8 sL_5 E0_4 X0_3 gL_2 hb hS0
  have HI3 := Lib.hid hI
  obtain ⟨y3d, y3c, rfl, _, _⟩ := hI
  try simp only [List.getElem_toArray, List.getElem_cons_zero, List.getElem_cons_succ, Act.put, List.setIfInBounds_toArray, List.set_cons_zero, List.set_cons_succ]
  refine wpAnyH_ready (rs := [3]) (by kernel_rfl) (by simp) ?_
  refine AllReadyH.cons rfl (fun K hK => ?_) AllReadyH.nil
  go_simp
  refine (eqTrie _ _ l0 _ (Nods.read E0_5.out) (Nods.read HI3.out)).mono ?_
  rintro e w8 ⟨rfl, hb⟩
  have zw8 : w7.heap.size ≤ w8.heap.size := hb.size
  refine hK.out _ _ ⟨(hb.cell (p := ⟨w4.heap.size, 0, none⟩) hS1.2.2.1).trans hS1.1, (hb.cell (p := ⟨w.heap.size, 0, none⟩) hS1.2.2.2).trans hS1.2.1, Nat.lt_of_lt_of_le hS1.2.2.1 hb.size, Nat.lt_of_lt_of_le hS1.2.2.2 hb.size⟩ (fun hS2 => ?_)
  clear hK K
  have HB_10 := Lib.hid (HB_9.out.trans (hb.mono HB_9.out.size))
  have A0_10 := Lib.hid (A0_9.out.below hb)
  have sL_7 := Lib.hid (sL_6.out.below intE_ok hb)
  have E0_6 := Lib.hid (E0_5.out.below nodE_ok hb)
  have X0_5 := Lib.hid (X0_4.out.below hb)
  have gL_4 := Lib.hid (gL_3.out.below intE_ok hb)
  clear HB_9 A0_9 sL_6 E0_5 X0_4 gL_3 hb hS1 HI3
  try simp only [List.getElem_toArray, List.getElem_cons_zero, List.getElem_cons_succ, Act.put, List.setIfInBounds_toArray, List.set_cons_zero, List.set_cons_succ]
  refine wpAnyH_take (i := 4) (v := .bool false) rfl (by kernel_rfl) (by kernel_rfl) (by kernel_rfl) (fun _ _ _ h => h) (Or.inl ⟨by rfl, fun z hz => ?_⟩) hS2 ?_
  · obtain ⟨q1, q2, q3, q4⟩ := hz
    go_simp
  try simp only [List.getElem_toArray, List.getElem_cons_zero, List.getElem_cons_succ, Act.put, List.setIfInBounds_toArray, List.set_cons_zero, List.set_cons_succ]
  refine wpAnyH_done (by kernel_rfl) ?_ _
  clear hS2
  obtain ⟨c_X0, _⟩ := X0_5.out
  go_wp2_with fail
  refine (markTrie _ l0 (1 : Int) (Bet (w3.heap.size) w4.heap.size) _ E0_6.out HK0.out.1 HK0.out.2.2.1).mono ?_
  rintro e w9 ⟨rfl, _, hc⟩
  have zw9 : w8.heap.size ≤ w9.heap.size := hc.size
  clear c_X0
  have HB_11 := Lib.hid (Chg.belowB HB_10.out hc HB_10.out.size (fun b h => by simp only [Bet] at h; omega))
  have A0_11 := Lib.hid (A0_10.out.stand hc (fun h => by simp only [Bet] at h; omega))
  have sL_8 := Lib.hid (sL_7.out.stand intE_ok hc (fun b h1 h2 => by simp only [Bet] at h1 h2; omega))
  have X0_6 := Lib.hid (X0_5.out.stand hc (fun h => by simp only [Bet] at h; omega))
  have gL_5 := Lib.hid (gL_4.out.stand intE_ok hc (fun b h1 h2 => by simp only [Bet] at h1 h2; omega))
  clear HB_10 A0_10 sL_7 X0_5 gL_4 hc
  have hkp : ¬ (P.kAtT (1 : Int) l0) < 0 := by have := HK0.out.2.2.2; omega
  go_wp2_with fail
  refine (eqIntS _ _ (P.keptI (P.contOk l0 n1) (P.contL l0 n1)) _ (Ints.read gL_5.out) (Ints.read sL_8.out)).mono ?_
  rintro e w10 ⟨rfl, hb⟩
  have zw10 : w9.heap.size ≤ w10.heap.size := hb.size
  have HB_12 := Lib.hid (HB_11.out.trans (hb.mono HB_11.out.size))
  have A0_12 := Lib.hid (A0_11.out.below hb)
  have sL_9 := Lib.hid (sL_8.out.below intE_ok hb)
  have X0_7 := Lib.hid (X0_6.out.below hb)
  have gL_6 := Lib.hid (gL_5.out.below intE_ok hb)
  clear HB_11 A0_11 sL_8 X0_6 gL_5 hb
  go_wp2_with fail
  refine (markI _ (P.keptI (P.contOk l0 n1) (P.contL l0 n1)) 1 (Bet (w4.heap.size + 1) w5.heap.size) _ gL_6.out (by decide) HKK.out).mono ?_
  rintro e w11 ⟨rfl, hI, hc⟩
  have zw11 : w10.heap.size ≤ w11.heap.size := hc.size
  have HB_13 := Lib.hid (Chg.belowB HB_12.out hc HB_12.out.size (fun b h => by simp only [Bet] at h; omega))
  have A0_13 := Lib.hid (A0_12.out.stand hc (fun h => by simp only [Bet] at h; omega))
  have sL_10 := Lib.hid (sL_9.out.stand intE_ok hc (fun b h1 h2 => by simp only [Bet] at h1 h2; omega))
  have X0_8 := Lib.hid (X0_7.out.stand hc (fun h => by simp only [Bet] at h; omega))
  clear HB_12 A0_12 sL_9 X0_7 hc hkp
  have mL_0 := Lib.hid (hI)
  clear hI
  have HKN := Lib.hid (show ¬ (1 : Int) + ((P.keptI (P.contOk l0 n1) (P.contL l0 n1)).length : Int) < 0 by have := (show (1 : Int) ≤ 1 + ((P.keptI (P.contOk l0 n1) (P.contL l0 n1)).length : Int) by omega); omega)
  go_wp2_with fail
  refine (heldI _ (P.keptI (P.contOk l0 n1) (P.contL l0 n1)) 1 _ (Ints.read mL_0.out) (by decide) HKK.out).mono ?_
  rintro e w12 ⟨rfl, hb⟩
  have hkn := HKN.out
  have zw12 : w11.heap.size ≤ w12.heap.size := hb.size
  have HB_14 := Lib.hid (HB_13.out.trans (hb.mono HB_13.out.size))
  have A0_14 := Lib.hid (A0_13.out.below hb)
  have sL_11 := Lib.hid (sL_10.out.below intE_ok hb)
  have X0_9 := Lib.hid (X0_8.out.below hb)
  have mL_1 := Lib.hid (mL_0.out.below intE_ok hb)
  clear HB_13 A0_13 sL_10 X0_8 mL_0 hb HKN
  obtain ⟨c_A0, _⟩ := A0_14.out
  go_wp2_with fail
  refine (toTrie _ l0 _ (HU0.out.below HB_14.out) HSM0.out.small).mono ?_
  rintro e w13 ⟨y4, rfl, hI, hb⟩
  clear c_A0
  have zw13 : w12.heap.size ≤ w13.heap.size := hb.size
  have HB_15 := Lib.hid (HB_14.out.trans (hb.mono HB_14.out.size))
  have A0_15 := Lib.hid (A0_14.out.below hb)
  have sL_12 := Lib.hid (sL_11.out.below intE_ok hb)
  have X0_10 := Lib.hid (X0_9.out.below hb)
  have mL_2 := Lib.hid (mL_1.out.below intE_ok hb)
  clear HB_14 A0_14 sL_11 X0_9 mL_1 hb
  have C0_0 := Lib.hid ((by simpa using hI : Nods w13 (Bet (w12.heap.size) w13.heap.size) y4 l0))
  clear hI
  obtain ⟨y4d, y4c, rfl, _, _⟩ := id C0_0.out
  go_wp2_with fail
  refine (impl_continuations _ l0 n1 _ (Nods.read C0_0.out) HSM0.out.small HSM0.out.t30 (HE.out.below HB_15.out HE.out.size)).mono ?_
  rintro e w14 ⟨h, rfl, hI, hb⟩
  clear C0_0
  have zw14 : w13.heap.size ≤ w14.heap.size := hb.size
  have HB_16 := Lib.hid (HB_15.out.trans (hb.mono HB_15.out.size))
  have A0_16 := Lib.hid (A0_15.out.below hb)
  have sL_13 := Lib.hid (sL_12.out.below intE_ok hb)
  have X0_11 := Lib.hid (X0_10.out.below hb)
  have mL_3 := Lib.hid (mL_2.out.below intE_ok hb)
  clear HB_15 A0_15 sL_12 X0_10 mL_2 hb
  have hL_0 := Lib.hid ((by simpa using hI : Ints w14 (Bet (w13.heap.size) w14.heap.size) h (P.keptI (P.contOk l0 n1) (P.contL l0 n1))))
  clear hI
  obtain ⟨hd, hc, rfl, _, _⟩ := id hL_0.out
  go_wp2_with fail
  refine (eqIntS _ _ (P.keptI (P.contOk l0 n1) (P.contL l0 n1)) _ (Ints.read hL_0.out) (Ints.read sL_13.out)).mono ?_
  rintro e w15 ⟨rfl, hb⟩
  have zw15 : w14.heap.size ≤ w15.heap.size := hb.size
  have HB_17 := Lib.hid (HB_16.out.trans (hb.mono HB_16.out.size))
  have A0_17 := Lib.hid (A0_16.out.below hb)
  have sL_14 := Lib.hid (sL_13.out.below intE_ok hb)
  have X0_12 := Lib.hid (X0_11.out.below hb)
  have mL_4 := Lib.hid (mL_3.out.below intE_ok hb)
  have hL_1 := Lib.hid (hL_0.out.below intE_ok hb)
  clear HB_16 A0_16 sL_13 X0_11 mL_3 hL_0 hb
  have HKN := Lib.hid (show ¬ (1 : Int) + ((P.keptI (P.contOk l0 n1) (P.contL l0 n1)).length : Int) < 0 by have := (show (1 : Int) ≤ 1 + ((P.keptI (P.contOk l0 n1) (P.contL l0 n1)).length : Int) by omega); omega)
  go_wp2_with fail
  refine (heldI _ (P.keptI (P.contOk l0 n1) (P.contL l0 n1)) 1 _ (Ints.read mL_4.out) (by decide) HKK.out).mono ?_
  rintro e w16 ⟨rfl, hb⟩
  have hkn := HKN.out
  have zw16 : w15.heap.size ≤ w16.heap.size := hb.size
  have HB_18 := Lib.hid (HB_17.out.trans (hb.mono HB_17.out.size))
  have A0_18 := Lib.hid (A0_17.out.below hb)
  have sL_15 := Lib.hid (sL_14.out.below intE_ok hb)
  have X0_13 := Lib.hid (X0_12.out.below hb)
  have mL_5 := Lib.hid (mL_4.out.below intE_ok hb)
  have hL_2 := Lib.hid (hL_1.out.below intE_ok hb)
  clear HB_17 A0_17 sL_14 X0_12 mL_4 hL_1 hb HKN
  go_wp2
  go_ret
  exact ⟨rfl, HB_18.out⟩
end Go.Proofs.YtojcfpjoikmgcaaGreatDoor
