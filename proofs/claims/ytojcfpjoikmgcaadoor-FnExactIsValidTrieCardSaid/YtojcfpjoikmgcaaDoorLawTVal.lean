/- The law of IsValidTrie: the program's answer is the reference's. -/
import Derived.Deep.DeepCutAuto
import Derived.Deep.RegionLaw
import Derived.Deep.RegionHeld
import Derived.Test.YtojcfpjoikmgcaaDoorLawD
import Derived.Test.YtojcfpjoikmgcaaDoorLawT
namespace Go.Proofs.YtojcfpjoikmgcaaDoor
open Go Go.RowKit
set_option maxHeartbeats 8000000
set_option maxRecDepth 100000
theorem spec_isValidTrieI (tv : Value) (t : P.Tri) (w : World) (hu : NodR w tv t) (hx : ∀ n ∈ t, n.2.2.2.length ≤ 2 ^ 30) :
    Calls Tryd.prog 5 #[.agg #[tv]] w fun e w' => e = .returned (.bool (P.dictI t).isSome) ∧ Below w.heap.size w w' := by
  rw [P.dict_eq]
  exact spec_isValidTrie tv t w hu hx
theorem law_isValidTrie (u0 : Value) (l0 : P.Tri) (w : World) (hu0 : NodA w u0 l0) (ht0 : ∀ n ∈ l0, n.2.2.2.length ≤ 9223372036854775807) (hE : Env w) :
    Calls Tryd.prog 3 #[.agg #[u0]] w fun e w' => e = .returned (.bool true) ∧ Below w.heap.size w w' := by
  have HE := Lib.hid hE; clear hE
  have HU0 := Lib.hid hu0
  have HT0 := Lib.hid ht0; clear ht0
  obtain ⟨a0d, a0c, rfl, hln0, _⟩ := hu0
  have hb := ((Below.refl w.heap.size w).alloc (Nat.le_refl _) (.cells #[.slice a0d l0.length a0c] 24))
  have HB_0 := Lib.hid (hb)
  have A0_0 := Lib.hid (Box1.new (.slice a0d l0.length a0c) 24 w)
  clear hb
  go_enter Tryd.func3, Tryd.ntmps3
  go_wp2_with fail
  refine (szTrie _ l0 1048576 _ (HU0.out.below HB_0.out) HT0.out (by decide) (by decide)).mono ?_
  rintro e w1 ⟨⟨r0, rfl, hra0, hrb0⟩, hb⟩
  have zw1 : w.heap.size + 1 ≤ w1.heap.size := by have := hb.size; simp at this; omega
  have HB_1 := Lib.hid (HB_0.out.trans (hb.mono HB_0.out.size))
  have A0_1 := Lib.hid (A0_0.out.below hb)
  clear HB_0 A0_0 hb HT0
  have HR0 := Lib.hid hrb0; clear hrb0
  by_cases hneg0 : r0 < 0
  · go_wp2
    go_ret
    exact ⟨rfl, HB_1.out⟩
  have hR0 : r0 = 1048576 - ((l0.length : Int) + P.sizeT l0) := HR0.out (by omega)
  have HSL0 := Lib.hid hR0; have HRN0 := Lib.hid (show 0 ≤ r0 by omega); clear hR0 HR0 hra0
  have hq0 : r0 ≤ 2 ^ 20 := by have := P.sizeT_nonneg l0; have := HSL0.out; omega
  have HRQ0 := Lib.hid hq0; clear hq0
  have HS0 := Lib.hid (show (l0.length : Int) + P.sizeT l0 ≤ 1048576 by have := HSL0.out; have := HRN0.out; have := P.sizeT_nonneg l0; omega)
  have HUA0 := HU0; clear HU0
  have HU0 := Lib.hid (HUA0.out.read (goodT_of HS0.out).small); have HSM0 := Lib.hid (goodT_of HS0.out)
  clear HUA0
  clear HSL0 HRN0 HRQ0
  obtain ⟨c_A0, _⟩ := A0_1.out
  go_wp2_with fail
  refine (toTrie _ l0 _ (HU0.out.below HB_1.out) HSM0.out.small).mono ?_
  rintro e w2 ⟨y1, rfl, hI, hb⟩
  clear c_A0
  have zw2 : w1.heap.size ≤ w2.heap.size := hb.size
  have HB_2 := Lib.hid (HB_1.out.trans (hb.mono HB_1.out.size))
  have A0_2 := Lib.hid (A0_1.out.below hb)
  clear HB_1 A0_1 hb
  have C0_0 := Lib.hid ((by simpa using hI : Nods w2 (Bet (w1.heap.size) w2.heap.size) y1 l0))
  clear hI
  obtain ⟨y1d, y1c, rfl, _, _⟩ := id C0_0.out
  go_wp2_with fail
  refine (spec_isValidTrieI _ l0 _ (Nods.read C0_0.out) HSM0.out.t30).mono ?_
  rintro e w3 ⟨rfl, hb⟩
  clear C0_0
  have zw3 : w2.heap.size ≤ w3.heap.size := hb.size
  have HB_3 := Lib.hid (HB_2.out.trans (hb.mono HB_2.out.size))
  have A0_3 := Lib.hid (A0_2.out.below hb)
  clear HB_2 A0_2 hb
  obtain ⟨c_A0, _⟩ := A0_3.out
  go_wp2_with fail
  refine (toTrie _ l0 _ (HU0.out.below HB_3.out) HSM0.out.small).mono ?_
  rintro e w4 ⟨y2, rfl, hI, hb⟩
  clear c_A0
  have zw4 : w3.heap.size ≤ w4.heap.size := hb.size
  have HB_4 := Lib.hid (HB_3.out.trans (hb.mono HB_3.out.size))
  have A0_4 := Lib.hid (A0_3.out.below hb)
  clear HB_3 A0_3 hb
  have E0_0 := Lib.hid ((by simpa using hI : Nods w4 (Bet (w3.heap.size) w4.heap.size) y2 l0))
  clear hI
  obtain ⟨y2d, y2c, rfl, _, _⟩ := id E0_0.out
  have hb := (Below.refl w4.heap.size w4).alloc (Nat.le_refl _) (.cells #[.slice y2d l0.length y2c] 29)
  have HB_5 := Lib.hid (HB_4.out.trans (hb.mono HB_4.out.size))
  have A0_5 := Lib.hid (A0_4.out.below hb)
  have E0_1 := Lib.hid (E0_0.out.below nodE_ok hb)
  clear HB_4 A0_4 E0_0 hb
  have X0_0 := Lib.hid (Box1.new (.slice y2d l0.length y2c) 29 w4)
  obtain ⟨c_X0, _⟩ := X0_0.out
  go_wp2_with fail
  refine (impl_isValidTrie _ l0 _ (Nods.read E0_1.out) HSM0.out.t30 (HE.out.below HB_5.out HE.out.size)).mono ?_
  rintro e w5 ⟨rfl, hb⟩
  clear c_X0
  have zw5 : w4.heap.size + 1 ≤ w5.heap.size := by have := hb.size; simp at this; omega
  have HB_6 := Lib.hid (HB_5.out.trans (hb.mono HB_5.out.size))
  have A0_6 := Lib.hid (A0_5.out.below hb)
  have E0_2 := Lib.hid (E0_1.out.below nodE_ok hb)
  have X0_1 := Lib.hid (X0_0.out.below hb)
  clear HB_5 A0_5 E0_1 X0_0 hb
  have hb := (Below.refl w5.heap.size w5).drew
  have HB_7 := Lib.hid (HB_6.out.trans (hb.mono HB_6.out.size))
  have A0_7 := Lib.hid (A0_6.out.below hb)
  have E0_3 := Lib.hid (E0_2.out.below nodE_ok hb)
  have X0_2 := Lib.hid (X0_1.out.below hb)
  clear HB_6 A0_6 E0_2 X0_1 hb
  go_upto_region 7 with fail
  refine wp_region_held_drew (S := fun v : World => v.cell? ⟨w4.heap.size, 0, none⟩ = some (.slice y2d l0.length y2c) ∧ v.cell? ⟨w.heap.size, 0, none⟩ = some (.slice a0d l0.length a0c) ∧ w4.heap.size < v.heap.size ∧ w.heap.size < v.heap.size) (by kernel_rfl) ⟨X0_2.out.1, A0_7.out.1, X0_2.out.2, A0_7.out.2⟩ (fun hS0 => ?_)
  refine wpAnyH_take (i := 0) (v := .agg #[.slice y2d l0.length y2c]) rfl (by kernel_rfl) (by kernel_rfl) (by kernel_rfl) (fun _ _ _ h => h) (Or.inl ⟨by rfl, fun z hz => ?_⟩) hS0 ?_
  · obtain ⟨q1, q2, q3, q4⟩ := hz
    go_simp
  try simp only [List.getElem_toArray, List.getElem_cons_zero, Act.put, List.setIfInBounds_toArray, List.set_cons_zero, List.set_cons_succ]
  refine wpAnyH_take (i := 1) (v := .agg #[.slice a0d l0.length a0c]) rfl (by kernel_rfl) (by kernel_rfl) (by kernel_rfl) (fun _ _ _ h => h) (Or.inl ⟨by rfl, fun z hz => ?_⟩) hS0 ?_
  · obtain ⟨q1, q2, q3, q4⟩ := hz
    go_simp
  try simp only [List.getElem_toArray, List.getElem_cons_zero, List.getElem_cons_succ, Act.put, List.setIfInBounds_toArray, List.set_cons_zero, List.set_cons_succ]
  refine wpAnyH_ready (rs := [2]) (by kernel_rfl) (by simp) ?_
  refine AllReadyH.cons rfl (fun K hK => ?_) AllReadyH.nil
  go_simp
  refine (toTrie _ l0 _ (HU0.out.below HB_7.out) HSM0.out.small).mono ?_
  rintro e w6 ⟨y3, rfl, hI, hb⟩
  have zw6 : w5.heap.size ≤ w6.heap.size := hb.size
  refine hK.out _ _ ⟨(hb.cell (p := ⟨w4.heap.size, 0, none⟩) hS0.2.2.1).trans hS0.1, (hb.cell (p := ⟨w.heap.size, 0, none⟩) hS0.2.2.2).trans hS0.2.1, Nat.lt_of_lt_of_le hS0.2.2.1 hb.size, Nat.lt_of_lt_of_le hS0.2.2.2 hb.size⟩ (fun hS1 => ?_)
  clear hK K
  have HB_8 := Lib.hid (HB_7.out.trans (hb.mono HB_7.out.size))
  have A0_8 := Lib.hid (A0_7.out.below hb)
  have E0_4 := Lib.hid (E0_3.out.below nodE_ok hb)
  have X0_3 := Lib.hid (X0_2.out.below hb)
  clear HB_7 A0_7 E0_3 X0_2 hb hS0
  have HI3 := Lib.hid hI
  obtain ⟨y3d, y3c, rfl, _, _⟩ := hI
  try simp only [List.getElem_toArray, List.getElem_cons_zero, List.getElem_cons_succ, Act.put, List.setIfInBounds_toArray, List.set_cons_zero, List.set_cons_succ]
  refine wpAnyH_ready (rs := [3]) (by kernel_rfl) (by simp) ?_
  refine AllReadyH.cons rfl (fun K hK => ?_) AllReadyH.nil
  go_simp
  refine (eqTrie _ _ l0 _ (Nods.read E0_4.out) (Nods.read HI3.out)).mono ?_
  rintro e w7 ⟨rfl, hb⟩
  have zw7 : w6.heap.size ≤ w7.heap.size := hb.size
  refine hK.out _ _ ⟨(hb.cell (p := ⟨w4.heap.size, 0, none⟩) hS1.2.2.1).trans hS1.1, (hb.cell (p := ⟨w.heap.size, 0, none⟩) hS1.2.2.2).trans hS1.2.1, Nat.lt_of_lt_of_le hS1.2.2.1 hb.size, Nat.lt_of_lt_of_le hS1.2.2.2 hb.size⟩ (fun hS2 => ?_)
  clear hK K
  have HB_9 := Lib.hid (HB_8.out.trans (hb.mono HB_8.out.size))
  have A0_9 := Lib.hid (A0_8.out.below hb)
  have E0_5 := Lib.hid (E0_4.out.below nodE_ok hb)
  have X0_4 := Lib.hid (X0_3.out.below hb)
  clear HB_8 A0_8 E0_4 X0_3 hb hS1 HI3
  try simp only [List.getElem_toArray, List.getElem_cons_zero, List.getElem_cons_succ, Act.put, List.setIfInBounds_toArray, List.set_cons_zero, List.set_cons_succ]
  refine wpAnyH_take (i := 4) (v := .bool false) rfl (by kernel_rfl) (by kernel_rfl) (by kernel_rfl) (fun _ _ _ h => h) (Or.inl ⟨by rfl, fun z hz => ?_⟩) hS2 ?_
  · obtain ⟨q1, q2, q3, q4⟩ := hz
    go_simp
  try simp only [List.getElem_toArray, List.getElem_cons_zero, List.getElem_cons_succ, Act.put, List.setIfInBounds_toArray, List.set_cons_zero, List.set_cons_succ]
  refine wpAnyH_done (by kernel_rfl) ?_ _
  clear hS2
  go_wp2
  go_ret
  exact ⟨rfl, HB_9.out⟩
end Go.Proofs.YtojcfpjoikmgcaaDoor
