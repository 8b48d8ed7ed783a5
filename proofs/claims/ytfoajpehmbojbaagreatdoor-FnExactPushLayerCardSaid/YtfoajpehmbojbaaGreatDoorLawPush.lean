/- The law of PushLayer: the program's answer is the reference's. -/
import Derived.Deep.DeepCutAuto
import Derived.Deep.RegionLaw
import Derived.Deep.RegionHeld
import Derived.Test.YtfoajpehmbojbaaGreatDoorLawD
import Derived.Test.YtfoajpehmbojbaaGreatDoorLay11
namespace Go.Proofs.YtfoajpehmbojbaaGreatDoor
open Go Go.RowKit
set_option maxHeartbeats 8000000
set_option maxRecDepth 100000
theorem kAtL_push {l : P.Lays} {d : P.Dic} (h : (l.length : Int) + P.sizeL l ≤ 1048576) (h2 : (d.length : Int) + P.sizeE d ≤ 1048576) (ok : Bool) : P.kAtL 1 (P.keptL ok (P.push d l)) ≤ 2 ^ 40 := by
  cases ok
  · show P.kAtL 1 [] ≤ _; simp [P.kAtL]
  · have h3 := P.kAtL_le 1 (P.push d l)
    have h4 : P.sizeL (P.push d l) = (d.length : Int) + P.sizeE d + P.sizeL l := rfl
    have h5 : ((P.push d l).length : Int) = l.length + 1 := by unfold P.push; simp
    show P.kAtL 1 (P.push d l) ≤ _
    omega
theorem law_pushLayer (dv : Value) (l : P.Lays) (ev : Value) (d : P.Dic) (w : World) (hu : LayA w dv l) (ht : ∀ e ∈ l, ∀ x ∈ e.1, x.2.length ≤ 9223372036854775807) (hd : EntA w ev d) (ht2 : ∀ e ∈ d, e.2.length ≤ 9223372036854775807) (hE : Env w) :
    Calls Tryz.prog 5 #[.agg #[dv], .agg #[ev]] w fun e w' => e = .returned (.bool true) ∧ Below w.heap.size w w' := by
  have HU := Lib.hid hu; have HT := Lib.hid ht; have HE := Lib.hid hE; have HV := Lib.hid hd; have HT2 := Lib.hid ht2
  clear ht hE ht2
  obtain ⟨dad, dcap, rfl, _, _⟩ := hu
  obtain ⟨ead, ecap, rfl, _, _⟩ := hd
  have hb := ((Below.refl w.heap.size w).alloc (Nat.le_refl _) (.cells #[(.slice dad l.length dcap)] 52)).alloc (by simp) (.cells #[(.slice ead d.length ecap)] 24)
  have HB_0 := Lib.hid (hb)
  have A_0 := Lib.hid ((Box1.new (.slice dad l.length dcap) 52 w).below ((Below.refl _ _).alloc (Nat.le_refl _) (.cells #[(.slice ead d.length ecap)] 24)))
  have A2_0 := Lib.hid (show Box1 (w.heap.size + 1) (.slice ead d.length ecap) _ from by have h := Box1.new (.slice ead d.length ecap) 24 (w.alloc (.cells #[(.slice dad l.length dcap)] 52)); simpa using h)
  clear hb
  go_enter Tryz.func5, Tryz.ntmps5
  go_wp2_with fail
  refine (szStack _ l 1048576 _ (HU.out.below HB_0.out) HT.out (by decide) (by decide)).mono ?_
  rintro e w1 ⟨⟨r, rfl, hr1, hr2⟩, hb⟩
  have z1 : w.heap.size + 2 ≤ w1.heap.size := by have := hb.size; simp at this; omega
  have HB_1 := Lib.hid (HB_0.out.trans (hb.mono HB_0.out.size))
  have A_1 := Lib.hid (A_0.out.below hb)
  have A2_1 := Lib.hid (A2_0.out.below hb)
  clear HB_0 A_0 A2_0 hb HT
  have HR := Lib.hid hr2; clear hr2
  by_cases hneg : r < 0
  · go_wp2
    go_ret
    exact ⟨rfl, HB_1.out⟩
  have hsz : (l.length : Int) + P.sizeL l ≤ 1048576 := by have := HR.out (by omega); omega
  have hr20 : r ≤ 2 ^ 20 := by have := HR.out (by omega); have := P.sizeL_nonneg l; omega
  have hr0 : 0 ≤ r := by omega
  have HSZ := Lib.hid hsz; clear hsz HR hr1
  obtain ⟨c_A2, _⟩ := A2_1.out
  go_wp2_with fail
  refine (szDictionary _ d r _ (HV.out.below HB_1.out) HT2.out hr0 hr20).mono ?_
  rintro e w1b ⟨⟨r2, rfl, hr1, hr2⟩, hb⟩
  have z1b : w1.heap.size ≤ w1b.heap.size := hb.size
  clear c_A2
  have HB_2 := Lib.hid (HB_1.out.trans (hb.mono HB_1.out.size))
  have A_2 := Lib.hid (A_1.out.below hb)
  have A2_2 := Lib.hid (A2_1.out.below hb)
  clear HB_1 A_1 A2_1 hb HT2
  have HR := Lib.hid hr2; clear hr2
  by_cases hneg2 : r2 < 0
  · go_wp2
    go_ret
    exact ⟨rfl, HB_2.out⟩
  have hsd : (d.length : Int) + P.sizeE d ≤ 1048576 := by have := HR.out (by omega); omega
  have HUA := HU; clear HU
  have HU := Lib.hid (HUA.out.read (smallS_of HSZ.out)); clear HUA
  have HVA := HV; clear HV
  have HV := Lib.hid (HVA.out.read (small_of hsd).len (small_of hsd).outs); clear HVA
  have HSM := Lib.hid (smallS_of HSZ.out); have HSD := Lib.hid (small_of hsd); have HK1 := Lib.hid (kAtL_small HSZ.out)
  have HKK := Lib.hid (fun ok => kAtL_push HSZ.out hsd ok)
  have HK2 := Lib.hid (show P.kAt (P.kAtL 1 l) d ≤ 2 ^ 40 by have h1 := P.kAtL_le 1 l; have h2 := P.kAt_le (P.kAtL 1 l) d; have h3 := HSZ.out; omega)
  have HKP := Lib.hid (show 0 ≤ P.kAtL 1 l by have := P.kAtL_ge 1 l; omega)
  clear hsd HR HSZ hr1 hr0 hr20
  have hWA : w.heap.size + 1 < w1b.heap.size := A2_2.out.2
  have HS := Lib.hid (show KPU w.heap.size (.slice dad l.length dcap) (.slice ead d.length ecap) w1b.drew from KPU.step (B := w1b.heap.size) ⟨A_2.out.1, A2_2.out.1⟩ (Below.refl _ _).drew hWA)
  go_upto_region 8 with fail
  go_cut [6, 7] (fun p ok wx => ∃ bx sd sc, p = .pointer (some ⟨bx, 0, none⟩) ∧ ok = .bool (P.pushOk d l) ∧ wx.cell? ⟨bx, 0, none⟩ = some (.slice sd (P.keptL (P.pushOk d l) (P.push d l)).length sc) ∧ w1b.heap.size ≤ bx ∧ bx < wx.heap.size ∧ Lays wx (Bet w1b.heap.size wx.heap.size) (.slice sd (P.keptL (P.pushOk d l) (P.push d l)).length sc) (P.keptL (P.pushOk d l) (P.push d l)) ∧ Below w1b.heap.size w1b wx)
  case first =>
    have HBW1 := Lib.hid (show Below w1b.heap.size w1b w1b.drew from (Below.refl _ _).drew)
    have z0 : w1b.heap.size ≤ w1b.drew.heap.size := Nat.le_refl _
    refine wp_region_held_drew (S := KPU w.heap.size (.slice dad l.length dcap) (.slice ead d.length ecap)) (by kernel_rfl) HS.out (fun hS0 => ?_)
    refine wpAnyH_take (i := 0) (v := .agg #[(.slice dad l.length dcap)]) rfl (by kernel_rfl) (by kernel_rfl) (by kernel_rfl) (fun _ _ _ h => h) (Or.inl ⟨by rfl, fun z hz => ?_⟩) hS0 ?_
    · obtain ⟨z1q, z2q⟩ := hz
      go_simp
    try simp only [List.getElem_toArray, List.getElem_cons_zero, Act.put, List.setIfInBounds_toArray, List.set_cons_zero, List.set_cons_succ]
    refine wpAnyH_take (i := 2) (v := .agg #[(.slice ead d.length ecap)]) rfl (by kernel_rfl) (by kernel_rfl) (by kernel_rfl) (fun _ _ _ h => h) (Or.inl ⟨by rfl, fun z hz => ?_⟩) hS0 ?_
    · obtain ⟨z1q, z2q⟩ := hz
      go_simp
    try simp only [List.getElem_toArray, List.getElem_cons_zero, List.getElem_cons_succ, Act.put, List.setIfInBounds_toArray, List.set_cons_zero, List.set_cons_succ]
    generalize w1b.drew = v2 at *
    refine wpAnyH_ready (rs := [1, 8]) (by kernel_rfl) (by simp) ?_
    refine AllReadyH.cons rfl (fun K hK => ?_) (AllReadyH.cons rfl (fun K hK => ?_) AllReadyH.nil)
    · skip
      go_simp
      refine (toStack _ l _ (HU.out.below (HB_2.out.trans (HBW1.out.mono HB_2.out.size))) HSM.out.len HSM.out.each).mono ?_
      rintro e v4 ⟨u5, rfl, hI, hb⟩
      have zv4 : v2.heap.size ≤ v4.heap.size := hb.size
      refine hK.out _ _ (hS0.step (hb.mono HBW1.out.size) hWA) (fun hS3 => ?_)
      clear hK K
      have HBW6 := Lib.hid (HBW1.out.trans (hb.mono HBW1.out.size))
      clear HBW1
      have U7 := Lib.hid (show Lays v4 (Bet v2.heap.size v4.heap.size) u5 l from hI)
      obtain ⟨u5d, u5c, rfl, _, _⟩ := hI
      clear hb
      try simp only [List.getElem_toArray, List.getElem_cons_zero, List.getElem_cons_succ, Act.put, List.setIfInBounds_toArray, List.set_cons_zero, List.set_cons_succ]
      refine wpAnyH_ready (rs := [3, 8]) (by kernel_rfl) (by simp) ?_
      refine AllReadyH.cons rfl (fun K hK => ?_) (AllReadyH.cons rfl (fun K hK => ?_) AllReadyH.nil)
      · skip
        go_simp
        refine (toDictionary _ d _ (HV.out.below (HB_2.out.trans (HBW6.out.mono HB_2.out.size))) HSD.out.len HSD.out.outs).mono ?_
        rintro e v9 ⟨y10, rfl, hI, hb⟩
        have zv9 : v4.heap.size ≤ v9.heap.size := hb.size
        refine hK.out _ _ (hS3.step (hb.mono HBW6.out.size) hWA) (fun hS8 => ?_)
        clear hK K
        have HBW11 := Lib.hid (HBW6.out.trans (hb.mono HBW6.out.size))
        have U12 := Lib.hid (U7.out.below layE_ok hb)
        clear HBW6 U7
        have V13 := Lib.hid (show Ents v9 (Bet v4.heap.size v9.heap.size) y10 d from hI)
        obtain ⟨y10d, y10c, rfl, _, _⟩ := hI
        clear hb
        try simp only [List.getElem_toArray, List.getElem_cons_zero, List.getElem_cons_succ, Act.put, List.setIfInBounds_toArray, List.set_cons_zero, List.set_cons_succ]
        refine wpAnyH_ready (rs := [4, 8]) (by kernel_rfl) (by simp) ?_
        refine AllReadyH.cons rfl (fun K hK => ?_) (AllReadyH.cons rfl (fun K hK => ?_) AllReadyH.nil)
        · skip
          go_simp
          refine (spec_pushLayer _ _ l d _ (Lays.read U12.out) (Ents.read V13.out) HSM.out HSD.out).mono ?_
          rintro e v15 ⟨x16, rfl, hI, hb⟩
          have zv15 : v9.heap.size ≤ v15.heap.size := hb.size
          refine hK.out _ _ (hS8.step (hb.mono HBW11.out.size) hWA) (fun hS14 => ?_)
          clear hK K
          clear U12 V13
          have HBW17 := Lib.hid (HBW11.out.trans (hb.mono HBW11.out.size))
          clear HBW11
          have RES18 := Lib.hid (show Lays v15 (Bet v9.heap.size v15.heap.size) x16 (P.keptL (P.pushOk d l) (P.push d l)) from hI)
          obtain ⟨x16d, x16c, rfl, _, _⟩ := hI
          clear hb
          try simp only [List.getElem_toArray, List.getElem_cons_zero, List.getElem_cons_succ, Act.put, List.setIfInBounds_toArray, List.set_cons_zero, List.set_cons_succ]
          refine wpAnyH_take (i := 5) (v := .tuple #[.agg #[.slice x16d (P.keptL (P.pushOk d l) (P.push d l)).length x16c], .bool (P.pushOk d l)]) rfl (by kernel_rfl) (by kernel_rfl) (by kernel_rfl) (fun _ _ _ h => h) (Or.inl ⟨by rfl, fun z hz => ?_⟩) hS14 ?_
          · obtain ⟨z1q, z2q⟩ := hz
            go_simp
          try simp only [List.getElem_toArray, List.getElem_cons_zero, List.getElem_cons_succ, Act.put, List.setIfInBounds_toArray, List.set_cons_zero, List.set_cons_succ]
          refine wpAnyH_take (i := 6) (v := .agg #[.slice x16d (P.keptL (P.pushOk d l) (P.push d l)).length x16c]) rfl (by kernel_rfl) (by kernel_rfl) (by kernel_rfl) (fun _ _ _ h => h) (Or.inl ⟨by rfl, fun z hz => ?_⟩) hS14 ?_
          · obtain ⟨z1q, z2q⟩ := hz
            go_simp
          try simp only [List.getElem_toArray, List.getElem_cons_zero, List.getElem_cons_succ, Act.put, List.setIfInBounds_toArray, List.set_cons_zero, List.set_cons_succ]
          refine wpAnyH_take (i := 7) (v := .bool (P.pushOk d l)) rfl (by kernel_rfl) (by kernel_rfl) (by kernel_rfl) (fun _ _ _ h => h) (Or.inl ⟨by rfl, fun z hz => ?_⟩) hS14 ?_
          · obtain ⟨z1q, z2q⟩ := hz
            go_simp
          try simp only [List.getElem_toArray, List.getElem_cons_zero, List.getElem_cons_succ, Act.put, List.setIfInBounds_toArray, List.set_cons_zero, List.set_cons_succ]
          refine wpAnyH_ready (rs := [8]) (by kernel_rfl) (by simp) ?_
          refine AllReadyH.cons rfl (fun K hK => ?_) AllReadyH.nil
          go_simp
          have hb := (Below.refl v15.heap.size v15).alloc (Nat.le_refl _) (.cells #[.slice none 0 0] 56)
          have zv20 : v15.heap.size < (v15.alloc (.cells #[.slice none 0 0] 56)).heap.size := by simp
          refine hK.out _ _ (hS14.step (hb.mono HBW17.out.size) hWA) (fun hS19 => ?_)
          clear hK K
          have BX21 := Lib.hid (NBx.new v15 56)
          have HBW22 := Lib.hid (HBW17.out.trans (hb.mono HBW17.out.size))
          have RES23 := Lib.hid (RES18.out.below layE_ok hb)
          clear HBW17 RES18
          clear hb
          generalize v15.alloc (.cells #[.slice none 0 0] 56) = v20 at *
          try simp only [List.getElem_toArray, List.getElem_cons_zero, List.getElem_cons_succ, Act.put, List.setIfInBounds_toArray, List.set_cons_zero, List.set_cons_succ]
          refine wpAnyH_ready (rs := [9]) (by kernel_rfl) (by simp) ?_
          refine AllReadyH.cons rfl (fun K hK => ?_) AllReadyH.nil
          have zA := HBW22.out.size
          obtain ⟨cb, fb, zb⟩ := BX21.out
          go_simp
          refine hK.out _ _ (hS19.step ((Below.refl w1b.heap.size v20).setCell (p := ⟨v15.heap.size, 0, none⟩) (by show w1b.heap.size ≤ v15.heap.size; omega) _) hWA) (fun hS24 => ?_)
          clear hK K
          try simp only [List.getElem_toArray, List.getElem_cons_zero, List.getElem_cons_succ, Act.put, List.setIfInBounds_toArray, List.set_cons_zero, List.set_cons_succ]
          refine wpAnyH_take (i := 10) (v := .bool (P.pushOk d l)) rfl (by kernel_rfl) (by kernel_rfl) (by kernel_rfl) (fun _ _ _ h => h) (Or.inl ⟨by rfl, fun z hz => ?_⟩) hS24 ?_
          · obtain ⟨z1q, z2q⟩ := hz
            go_simp
          try simp only [List.getElem_toArray, List.getElem_cons_zero, List.getElem_cons_succ, Act.put, List.setIfInBounds_toArray, List.set_cons_zero, List.set_cons_succ]
          refine wpAnyH_done (by kernel_rfl) ?_ _
          go_wp2_with fail
          go_meet
          refine ⟨v15.heap.size, x16d, x16c, rfl, rfl, World.cell?_setCell_same _ _ _ cb, by omega, by simpa [World.setCell] using zb, ?_, HBW22.out.setCell (by show w1b.heap.size ≤ v15.heap.size; omega) _⟩
          exact (RES23.out.stand (X := fun b => b = v15.heap.size) layE_ok ((Chg.refl (fun b => b = v15.heap.size) v20).setCell (p := ⟨v15.heap.size, 0, none⟩) rfl _) (fun b hb e => by have h1 := hb.1; have h2 := hb.2; omega)).wide (fun b hb => ⟨by have h1 := hb.1; omega, by have h1 := hb.2; simp only [World.setCell, Array.size_modify]; omega⟩) (fun b hb => hb.2)
        · skip
          go_simp
          have hb := (Below.refl v9.heap.size v9).alloc (Nat.le_refl _) (.cells #[.slice none 0 0] 56)
          have zv26 : v9.heap.size < (v9.alloc (.cells #[.slice none 0 0] 56)).heap.size := by simp
          refine hK.out _ _ (hS8.step (hb.mono HBW11.out.size) hWA) (fun hS25 => ?_)
          clear hK K
          have BX27 := Lib.hid (NBx.new v9 56)
          have HBW28 := Lib.hid (HBW11.out.trans (hb.mono HBW11.out.size))
          have U29 := Lib.hid (U12.out.below layE_ok hb)
          have V30 := Lib.hid (V13.out.below entE_ok hb)
          clear HBW11 U12 V13
          clear hb
          generalize v9.alloc (.cells #[.slice none 0 0] 56) = v26 at *
          try simp only [List.getElem_toArray, List.getElem_cons_zero, List.getElem_cons_succ, Act.put, List.setIfInBounds_toArray, List.set_cons_zero, List.set_cons_succ]
          refine wpAnyH_ready (rs := [4]) (by kernel_rfl) (by simp) ?_
          refine AllReadyH.cons rfl (fun K hK => ?_) AllReadyH.nil
          go_simp
          refine (spec_pushLayer _ _ l d _ (Lays.read U29.out) (Ents.read V30.out) HSM.out HSD.out).mono ?_
          rintro e v32 ⟨x33, rfl, hI, hb⟩
          have zv32 : v26.heap.size ≤ v32.heap.size := hb.size
          refine hK.out _ _ (hS25.step (hb.mono HBW28.out.size) hWA) (fun hS31 => ?_)
          clear hK K
          clear U29 V30
          have HBW34 := Lib.hid (HBW28.out.trans (hb.mono HBW28.out.size))
          have BX35 := Lib.hid (BX27.out.below hb)
          clear HBW28 BX27
          have RES36 := Lib.hid (show Lays v32 (Bet v26.heap.size v32.heap.size) x33 (P.keptL (P.pushOk d l) (P.push d l)) from hI)
          obtain ⟨x33d, x33c, rfl, _, _⟩ := hI
          clear hb
          try simp only [List.getElem_toArray, List.getElem_cons_zero, List.getElem_cons_succ, Act.put, List.setIfInBounds_toArray, List.set_cons_zero, List.set_cons_succ]
          refine wpAnyH_take (i := 5) (v := .tuple #[.agg #[.slice x33d (P.keptL (P.pushOk d l) (P.push d l)).length x33c], .bool (P.pushOk d l)]) rfl (by kernel_rfl) (by kernel_rfl) (by kernel_rfl) (fun _ _ _ h => h) (Or.inl ⟨by rfl, fun z hz => ?_⟩) hS31 ?_
          · obtain ⟨z1q, z2q⟩ := hz
            go_simp
          try simp only [List.getElem_toArray, List.getElem_cons_zero, List.getElem_cons_succ, Act.put, List.setIfInBounds_toArray, List.set_cons_zero, List.set_cons_succ]
          refine wpAnyH_take (i := 6) (v := .agg #[.slice x33d (P.keptL (P.pushOk d l) (P.push d l)).length x33c]) rfl (by kernel_rfl) (by kernel_rfl) (by kernel_rfl) (fun _ _ _ h => h) (Or.inl ⟨by rfl, fun z hz => ?_⟩) hS31 ?_
          · obtain ⟨z1q, z2q⟩ := hz
            go_simp
          try simp only [List.getElem_toArray, List.getElem_cons_zero, List.getElem_cons_succ, Act.put, List.setIfInBounds_toArray, List.set_cons_zero, List.set_cons_succ]
          refine wpAnyH_take (i := 7) (v := .bool (P.pushOk d l)) rfl (by kernel_rfl) (by kernel_rfl) (by kernel_rfl) (fun _ _ _ h => h) (Or.inl ⟨by rfl, fun z hz => ?_⟩) hS31 ?_
          · obtain ⟨z1q, z2q⟩ := hz
            go_simp
          try simp only [List.getElem_toArray, List.getElem_cons_zero, List.getElem_cons_succ, Act.put, List.setIfInBounds_toArray, List.set_cons_zero, List.set_cons_succ]
          refine wpAnyH_ready (rs := [9]) (by kernel_rfl) (by simp) ?_
          refine AllReadyH.cons rfl (fun K hK => ?_) AllReadyH.nil
          have zA := HBW34.out.size
          obtain ⟨cb, fb, zb⟩ := BX35.out
          go_simp
          refine hK.out _ _ (hS31.step ((Below.refl w1b.heap.size v32).setCell (p := ⟨v9.heap.size, 0, none⟩) (by show w1b.heap.size ≤ v9.heap.size; omega) _) hWA) (fun hS37 => ?_)
          clear hK K
          try simp only [List.getElem_toArray, List.getElem_cons_zero, List.getElem_cons_succ, Act.put, List.setIfInBounds_toArray, List.set_cons_zero, List.set_cons_succ]
          refine wpAnyH_take (i := 10) (v := .bool (P.pushOk d l)) rfl (by kernel_rfl) (by kernel_rfl) (by kernel_rfl) (fun _ _ _ h => h) (Or.inl ⟨by rfl, fun z hz => ?_⟩) hS37 ?_
          · obtain ⟨z1q, z2q⟩ := hz
            go_simp
          try simp only [List.getElem_toArray, List.getElem_cons_zero, List.getElem_cons_succ, Act.put, List.setIfInBounds_toArray, List.set_cons_zero, List.set_cons_succ]
          refine wpAnyH_done (by kernel_rfl) ?_ _
          go_wp2_with fail
          go_meet
          refine ⟨v9.heap.size, x33d, x33c, rfl, rfl, World.cell?_setCell_same _ _ _ cb, by omega, by simpa [World.setCell] using zb, ?_, HBW34.out.setCell (by show w1b.heap.size ≤ v9.heap.size; omega) _⟩
          exact (RES36.out.stand (X := fun b => b = v9.heap.size) layE_ok ((Chg.refl (fun b => b = v9.heap.size) v32).setCell (p := ⟨v9.heap.size, 0, none⟩) rfl _) (fun b hb e => by have h1 := hb.1; have h2 := hb.2; omega)).wide (fun b hb => ⟨by have h1 := hb.1; omega, by have h1 := hb.2; simp only [World.setCell, Array.size_modify]; omega⟩) (fun b hb => hb.2)
      · skip
        go_simp
        have hb := (Below.refl v4.heap.size v4).alloc (Nat.le_refl _) (.cells #[.slice none 0 0] 56)
        have zv39 : v4.heap.size < (v4.alloc (.cells #[.slice none 0 0] 56)).heap.size := by simp
        refine hK.out _ _ (hS3.step (hb.mono HBW6.out.size) hWA) (fun hS38 => ?_)
        clear hK K
        have BX40 := Lib.hid (NBx.new v4 56)
        have HBW41 := Lib.hid (HBW6.out.trans (hb.mono HBW6.out.size))
        have U42 := Lib.hid (U7.out.below layE_ok hb)
        clear HBW6 U7
        clear hb
        generalize v4.alloc (.cells #[.slice none 0 0] 56) = v39 at *
        try simp only [List.getElem_toArray, List.getElem_cons_zero, List.getElem_cons_succ, Act.put, List.setIfInBounds_toArray, List.set_cons_zero, List.set_cons_succ]
        refine wpAnyH_ready (rs := [3]) (by kernel_rfl) (by simp) ?_
        refine AllReadyH.cons rfl (fun K hK => ?_) AllReadyH.nil
        go_simp
        refine (toDictionary _ d _ (HV.out.below (HB_2.out.trans (HBW41.out.mono HB_2.out.size))) HSD.out.len HSD.out.outs).mono ?_
        rintro e v44 ⟨y45, rfl, hI, hb⟩
        have zv44 : v39.heap.size ≤ v44.heap.size := hb.size
        refine hK.out _ _ (hS38.step (hb.mono HBW41.out.size) hWA) (fun hS43 => ?_)
        clear hK K
        have HBW46 := Lib.hid (HBW41.out.trans (hb.mono HBW41.out.size))
        have U47 := Lib.hid (U42.out.below layE_ok hb)
        have BX48 := Lib.hid (BX40.out.below hb)
        clear HBW41 U42 BX40
        have V49 := Lib.hid (show Ents v44 (Bet v39.heap.size v44.heap.size) y45 d from hI)
        obtain ⟨y45d, y45c, rfl, _, _⟩ := hI
        clear hb
        try simp only [List.getElem_toArray, List.getElem_cons_zero, List.getElem_cons_succ, Act.put, List.setIfInBounds_toArray, List.set_cons_zero, List.set_cons_succ]
        refine wpAnyH_ready (rs := [4]) (by kernel_rfl) (by simp) ?_
        refine AllReadyH.cons rfl (fun K hK => ?_) AllReadyH.nil
        go_simp
        refine (spec_pushLayer _ _ l d _ (Lays.read U47.out) (Ents.read V49.out) HSM.out HSD.out).mono ?_
        rintro e v51 ⟨x52, rfl, hI, hb⟩
        have zv51 : v44.heap.size ≤ v51.heap.size := hb.size
        refine hK.out _ _ (hS43.step (hb.mono HBW46.out.size) hWA) (fun hS50 => ?_)
        clear hK K
        clear U47 V49
        have HBW53 := Lib.hid (HBW46.out.trans (hb.mono HBW46.out.size))
        have BX54 := Lib.hid (BX48.out.below hb)
        clear HBW46 BX48
        have RES55 := Lib.hid (show Lays v51 (Bet v44.heap.size v51.heap.size) x52 (P.keptL (P.pushOk d l) (P.push d l)) from hI)
        obtain ⟨x52d, x52c, rfl, _, _⟩ := hI
        clear hb
        try simp only [List.getElem_toArray, List.getElem_cons_zero, List.getElem_cons_succ, Act.put, List.setIfInBounds_toArray, List.set_cons_zero, List.set_cons_succ]
        refine wpAnyH_take (i := 5) (v := .tuple #[.agg #[.slice x52d (P.keptL (P.pushOk d l) (P.push d l)).length x52c], .bool (P.pushOk d l)]) rfl (by kernel_rfl) (by kernel_rfl) (by kernel_rfl) (fun _ _ _ h => h) (Or.inl ⟨by rfl, fun z hz => ?_⟩) hS50 ?_
        · obtain ⟨z1q, z2q⟩ := hz
          go_simp
        try simp only [List.getElem_toArray, List.getElem_cons_zero, List.getElem_cons_succ, Act.put, List.setIfInBounds_toArray, List.set_cons_zero, List.set_cons_succ]
        refine wpAnyH_take (i := 6) (v := .agg #[.slice x52d (P.keptL (P.pushOk d l) (P.push d l)).length x52c]) rfl (by kernel_rfl) (by kernel_rfl) (by kernel_rfl) (fun _ _ _ h => h) (Or.inl ⟨by rfl, fun z hz => ?_⟩) hS50 ?_
        · obtain ⟨z1q, z2q⟩ := hz
          go_simp
        try simp only [List.getElem_toArray, List.getElem_cons_zero, List.getElem_cons_succ, Act.put, List.setIfInBounds_toArray, List.set_cons_zero, List.set_cons_succ]
        refine wpAnyH_take (i := 7) (v := .bool (P.pushOk d l)) rfl (by kernel_rfl) (by kernel_rfl) (by kernel_rfl) (fun _ _ _ h => h) (Or.inl ⟨by rfl, fun z hz => ?_⟩) hS50 ?_
        · obtain ⟨z1q, z2q⟩ := hz
          go_simp
        try simp only [List.getElem_toArray, List.getElem_cons_zero, List.getElem_cons_succ, Act.put, List.setIfInBounds_toArray, List.set_cons_zero, List.set_cons_succ]
        refine wpAnyH_ready (rs := [9]) (by kernel_rfl) (by simp) ?_
        refine AllReadyH.cons rfl (fun K hK => ?_) AllReadyH.nil
        have zA := HBW53.out.size
        obtain ⟨cb, fb, zb⟩ := BX54.out
        go_simp
        refine hK.out _ _ (hS50.step ((Below.refl w1b.heap.size v51).setCell (p := ⟨v4.heap.size, 0, none⟩) (by show w1b.heap.size ≤ v4.heap.size; omega) _) hWA) (fun hS56 => ?_)
        clear hK K
        try simp only [List.getElem_toArray, List.getElem_cons_zero, List.getElem_cons_succ, Act.put, List.setIfInBounds_toArray, List.set_cons_zero, List.set_cons_succ]
        refine wpAnyH_take (i := 10) (v := .bool (P.pushOk d l)) rfl (by kernel_rfl) (by kernel_rfl) (by kernel_rfl) (fun _ _ _ h => h) (Or.inl ⟨by rfl, fun z hz => ?_⟩) hS56 ?_
        · obtain ⟨z1q, z2q⟩ := hz
          go_simp
        try simp only [List.getElem_toArray, List.getElem_cons_zero, List.getElem_cons_succ, Act.put, List.setIfInBounds_toArray, List.set_cons_zero, List.set_cons_succ]
        refine wpAnyH_done (by kernel_rfl) ?_ _
        go_wp2_with fail
        go_meet
        refine ⟨v4.heap.size, x52d, x52c, rfl, rfl, World.cell?_setCell_same _ _ _ cb, by omega, by simpa [World.setCell] using zb, ?_, HBW53.out.setCell (by show w1b.heap.size ≤ v4.heap.size; omega) _⟩
        exact (RES55.out.stand (X := fun b => b = v4.heap.size) layE_ok ((Chg.refl (fun b => b = v4.heap.size) v51).setCell (p := ⟨v4.heap.size, 0, none⟩) rfl _) (fun b hb e => by have h1 := hb.1; have h2 := hb.2; omega)).wide (fun b hb => ⟨by have h1 := hb.1; omega, by have h1 := hb.2; simp only [World.setCell, Array.size_modify]; omega⟩) (fun b hb => hb.2)
    · skip
      go_simp
      have hb := (Below.refl v2.heap.size v2).alloc (Nat.le_refl _) (.cells #[.slice none 0 0] 56)
      have zv58 : v2.heap.size < (v2.alloc (.cells #[.slice none 0 0] 56)).heap.size := by simp
      refine hK.out _ _ (hS0.step (hb.mono HBW1.out.size) hWA) (fun hS57 => ?_)
      clear hK K
      have BX59 := Lib.hid (NBx.new v2 56)
      have HBW60 := Lib.hid (HBW1.out.trans (hb.mono HBW1.out.size))
      clear HBW1
      clear hb
      generalize v2.alloc (.cells #[.slice none 0 0] 56) = v58 at *
      try simp only [List.getElem_toArray, List.getElem_cons_zero, List.getElem_cons_succ, Act.put, List.setIfInBounds_toArray, List.set_cons_zero, List.set_cons_succ]
      refine wpAnyH_ready (rs := [1]) (by kernel_rfl) (by simp) ?_
      refine AllReadyH.cons rfl (fun K hK => ?_) AllReadyH.nil
      go_simp
      refine (toStack _ l _ (HU.out.below (HB_2.out.trans (HBW60.out.mono HB_2.out.size))) HSM.out.len HSM.out.each).mono ?_
      rintro e v62 ⟨u63, rfl, hI, hb⟩
      have zv62 : v58.heap.size ≤ v62.heap.size := hb.size
      refine hK.out _ _ (hS57.step (hb.mono HBW60.out.size) hWA) (fun hS61 => ?_)
      clear hK K
      have HBW64 := Lib.hid (HBW60.out.trans (hb.mono HBW60.out.size))
      have BX65 := Lib.hid (BX59.out.below hb)
      clear HBW60 BX59
      have U66 := Lib.hid (show Lays v62 (Bet v58.heap.size v62.heap.size) u63 l from hI)
      obtain ⟨u63d, u63c, rfl, _, _⟩ := hI
      clear hb
      try simp only [List.getElem_toArray, List.getElem_cons_zero, List.getElem_cons_succ, Act.put, List.setIfInBounds_toArray, List.set_cons_zero, List.set_cons_succ]
      refine wpAnyH_ready (rs := [3]) (by kernel_rfl) (by simp) ?_
      refine AllReadyH.cons rfl (fun K hK => ?_) AllReadyH.nil
      go_simp
      refine (toDictionary _ d _ (HV.out.below (HB_2.out.trans (HBW64.out.mono HB_2.out.size))) HSD.out.len HSD.out.outs).mono ?_
      rintro e v68 ⟨y69, rfl, hI, hb⟩
      have zv68 : v62.heap.size ≤ v68.heap.size := hb.size
      refine hK.out _ _ (hS61.step (hb.mono HBW64.out.size) hWA) (fun hS67 => ?_)
      clear hK K
      have HBW70 := Lib.hid (HBW64.out.trans (hb.mono HBW64.out.size))
      have U71 := Lib.hid (U66.out.below layE_ok hb)
      have BX72 := Lib.hid (BX65.out.below hb)
      clear HBW64 U66 BX65
      have V73 := Lib.hid (show Ents v68 (Bet v62.heap.size v68.heap.size) y69 d from hI)
      obtain ⟨y69d, y69c, rfl, _, _⟩ := hI
      clear hb
      try simp only [List.getElem_toArray, List.getElem_cons_zero, List.getElem_cons_succ, Act.put, List.setIfInBounds_toArray, List.set_cons_zero, List.set_cons_succ]
      refine wpAnyH_ready (rs := [4]) (by kernel_rfl) (by simp) ?_
      refine AllReadyH.cons rfl (fun K hK => ?_) AllReadyH.nil
      go_simp
      refine (spec_pushLayer _ _ l d _ (Lays.read U71.out) (Ents.read V73.out) HSM.out HSD.out).mono ?_
      rintro e v75 ⟨x76, rfl, hI, hb⟩
      have zv75 : v68.heap.size ≤ v75.heap.size := hb.size
      refine hK.out _ _ (hS67.step (hb.mono HBW70.out.size) hWA) (fun hS74 => ?_)
      clear hK K
      clear U71 V73
      have HBW77 := Lib.hid (HBW70.out.trans (hb.mono HBW70.out.size))
      have BX78 := Lib.hid (BX72.out.below hb)
      clear HBW70 BX72
      have RES79 := Lib.hid (show Lays v75 (Bet v68.heap.size v75.heap.size) x76 (P.keptL (P.pushOk d l) (P.push d l)) from hI)
      obtain ⟨x76d, x76c, rfl, _, _⟩ := hI
      clear hb
      try simp only [List.getElem_toArray, List.getElem_cons_zero, List.getElem_cons_succ, Act.put, List.setIfInBounds_toArray, List.set_cons_zero, List.set_cons_succ]
      refine wpAnyH_take (i := 5) (v := .tuple #[.agg #[.slice x76d (P.keptL (P.pushOk d l) (P.push d l)).length x76c], .bool (P.pushOk d l)]) rfl (by kernel_rfl) (by kernel_rfl) (by kernel_rfl) (fun _ _ _ h => h) (Or.inl ⟨by rfl, fun z hz => ?_⟩) hS74 ?_
      · obtain ⟨z1q, z2q⟩ := hz
        go_simp
      try simp only [List.getElem_toArray, List.getElem_cons_zero, List.getElem_cons_succ, Act.put, List.setIfInBounds_toArray, List.set_cons_zero, List.set_cons_succ]
      refine wpAnyH_take (i := 6) (v := .agg #[.slice x76d (P.keptL (P.pushOk d l) (P.push d l)).length x76c]) rfl (by kernel_rfl) (by kernel_rfl) (by kernel_rfl) (fun _ _ _ h => h) (Or.inl ⟨by rfl, fun z hz => ?_⟩) hS74 ?_
      · obtain ⟨z1q, z2q⟩ := hz
        go_simp
      try simp only [List.getElem_toArray, List.getElem_cons_zero, List.getElem_cons_succ, Act.put, List.setIfInBounds_toArray, List.set_cons_zero, List.set_cons_succ]
      refine wpAnyH_take (i := 7) (v := .bool (P.pushOk d l)) rfl (by kernel_rfl) (by kernel_rfl) (by kernel_rfl) (fun _ _ _ h => h) (Or.inl ⟨by rfl, fun z hz => ?_⟩) hS74 ?_
      · obtain ⟨z1q, z2q⟩ := hz
        go_simp
      try simp only [List.getElem_toArray, List.getElem_cons_zero, List.getElem_cons_succ, Act.put, List.setIfInBounds_toArray, List.set_cons_zero, List.set_cons_succ]
      refine wpAnyH_ready (rs := [9]) (by kernel_rfl) (by simp) ?_
      refine AllReadyH.cons rfl (fun K hK => ?_) AllReadyH.nil
      have zA := HBW77.out.size
      obtain ⟨cb, fb, zb⟩ := BX78.out
      go_simp
      refine hK.out _ _ (hS74.step ((Below.refl w1b.heap.size v75).setCell (p := ⟨v2.heap.size, 0, none⟩) (by show w1b.heap.size ≤ v2.heap.size; omega) _) hWA) (fun hS80 => ?_)
      clear hK K
      try simp only [List.getElem_toArray, List.getElem_cons_zero, List.getElem_cons_succ, Act.put, List.setIfInBounds_toArray, List.set_cons_zero, List.set_cons_succ]
      refine wpAnyH_take (i := 10) (v := .bool (P.pushOk d l)) rfl (by kernel_rfl) (by kernel_rfl) (by kernel_rfl) (fun _ _ _ h => h) (Or.inl ⟨by rfl, fun z hz => ?_⟩) hS80 ?_
      · obtain ⟨z1q, z2q⟩ := hz
        go_simp
      try simp only [List.getElem_toArray, List.getElem_cons_zero, List.getElem_cons_succ, Act.put, List.setIfInBounds_toArray, List.set_cons_zero, List.set_cons_succ]
      refine wpAnyH_done (by kernel_rfl) ?_ _
      go_wp2_with fail
      go_meet
      refine ⟨v2.heap.size, x76d, x76c, rfl, rfl, World.cell?_setCell_same _ _ _ cb, by omega, by simpa [World.setCell] using zb, ?_, HBW77.out.setCell (by show w1b.heap.size ≤ v2.heap.size; omega) _⟩
      exact (RES79.out.stand (X := fun b => b = v2.heap.size) layE_ok ((Chg.refl (fun b => b = v2.heap.size) v75).setCell (p := ⟨v2.heap.size, 0, none⟩) rfl _) (fun b hb e => by have h1 := hb.1; have h2 := hb.2; omega)).wide (fun b hb => ⟨by have h1 := hb.1; omega, by have h1 := hb.2; simp only [World.setCell, Array.size_modify]; omega⟩) (fun b hb => hb.2)
  case rest =>
    obtain ⟨bs, sd, sc, rfl, rfl, c0, zbs, ybs, hl, hb⟩ := hcut
    have zw4 : w1b.heap.size ≤ wc.heap.size := hb.size
    have HB_3 := Lib.hid (HB_2.out.trans (hb.mono HB_2.out.size))
    have A_3 := Lib.hid (A_2.out.below hb)
    have A2_3 := Lib.hid (A2_2.out.below hb)
    clear HB_2 A_2 A2_2 hb HS
    have sB_0 := Lib.hid (show Box1 bs (.slice sd (P.keptL (P.pushOk d l) (P.push d l)).length sc) wc from ⟨c0, ybs⟩)
    have sL_0 := Lib.hid (hl)
    clear c0 hl hWA
    generalize hww : wc = w4 at *
    obtain ⟨c_A, _⟩ := A_3.out
    go_wp2_with fail
    refine (toStack _ l _ (HU.out.below HB_3.out) HSM.out.len HSM.out.each).mono ?_
    rintro e w5 ⟨u2, rfl, hI, hb⟩
    clear c_A
    have z5 : w4.heap.size ≤ w5.heap.size := by have := hb.size; simpa using this
    have HB_4 := Lib.hid (HB_3.out.trans (hb.mono HB_3.out.size))
    have A_4 := Lib.hid (A_3.out.below hb)
    have A2_4 := Lib.hid (A2_3.out.below hb)
    have sB_1 := Lib.hid (sB_0.out.below hb)
    have sL_1 := Lib.hid (sL_0.out.below layE_ok hb)
    clear HB_3 A_3 A2_3 sB_0 sL_0 hb
    have E0_0 := Lib.hid ((by simpa using hI : Lays w5 (Bet (w4.heap.size) w5.heap.size) u2 l))
    clear hI
    obtain ⟨u2d, u2c, rfl, _, _⟩ := id E0_0.out
    have hb := (Below.refl w5.heap.size w5).alloc (Nat.le_refl _) (.cells #[(.slice u2d l.length u2c)] 56)
    have HB_5 := Lib.hid (HB_4.out.trans (hb.mono HB_4.out.size))
    have A_5 := Lib.hid (A_4.out.below hb)
    have A2_5 := Lib.hid (A2_4.out.below hb)
    have sB_2 := Lib.hid (sB_1.out.below hb)
    have sL_2 := Lib.hid (sL_1.out.below layE_ok hb)
    have E0_1 := Lib.hid (E0_0.out.below layE_ok hb)
    clear HB_4 A_4 A2_4 sB_1 sL_1 E0_0 hb
    have X0_0 := Lib.hid (Box1.new (.slice u2d l.length u2c) 56 w5)
    obtain ⟨c_A2, _⟩ := A2_5.out
    go_wp2_with fail
    refine (toDictionary _ d _ (HV.out.below HB_5.out) HSD.out.len HSD.out.outs).mono ?_
    rintro e w6 ⟨y2, rfl, hI, hb⟩
    clear c_A2
    have z6 : w5.heap.size + 1 ≤ w6.heap.size := by have := hb.size; simpa using this
    have HB_6 := Lib.hid (HB_5.out.trans (hb.mono HB_5.out.size))
    have A_6 := Lib.hid (A_5.out.below hb)
    have A2_6 := Lib.hid (A2_5.out.below hb)
    have sB_3 := Lib.hid (sB_2.out.below hb)
    have sL_3 := Lib.hid (sL_2.out.below layE_ok hb)
    have E0_2 := Lib.hid (E0_1.out.below layE_ok hb)
    have X0_1 := Lib.hid (X0_0.out.below hb)
    clear HB_5 A_5 A2_5 sB_2 sL_2 E0_1 X0_0 hb
    have F0_0 := Lib.hid ((by simpa using hI : Ents w6 (Bet (w5.heap.size + 1) w6.heap.size) y2 d))
    clear hI
    obtain ⟨y2d, y2c, rfl, _, _⟩ := id F0_0.out
    have hb := (Below.refl w6.heap.size w6).alloc (Nat.le_refl _) (.cells #[(.slice y2d d.length y2c)] 29)
    have HB_7 := Lib.hid (HB_6.out.trans (hb.mono HB_6.out.size))
    have A_7 := Lib.hid (A_6.out.below hb)
    have A2_7 := Lib.hid (A2_6.out.below hb)
    have sB_4 := Lib.hid (sB_3.out.below hb)
    have sL_4 := Lib.hid (sL_3.out.below layE_ok hb)
    have E0_3 := Lib.hid (E0_2.out.below layE_ok hb)
    have X0_2 := Lib.hid (X0_1.out.below hb)
    have F0_1 := Lib.hid (F0_0.out.below entE_ok hb)
    clear HB_6 A_6 A2_6 sB_3 sL_3 E0_2 X0_1 F0_0 hb
    have X1_0 := Lib.hid (Box1.new (.slice y2d d.length y2c) 29 w6)
    obtain ⟨c_X0, _⟩ := X0_2.out
    obtain ⟨c_X1, _⟩ := X1_0.out
    go_wp2_with fail
    refine (impl_pushLayer _ _ l d _ (Lays.read E0_3.out) (Ents.read F0_1.out) HSM.out HSD.out (HE.out.below HB_7.out HE.out.size)).mono ?_
    rintro e w7 ⟨g0, rfl, hI, hb⟩
    clear c_X0 c_X1
    have z7 : w6.heap.size + 1 ≤ w7.heap.size := by have := hb.size; simpa using this
    have HB_8 := Lib.hid (HB_7.out.trans (hb.mono HB_7.out.size))
    have A_8 := Lib.hid (A_7.out.below hb)
    have A2_8 := Lib.hid (A2_7.out.below hb)
    have sB_5 := Lib.hid (sB_4.out.below hb)
    have sL_5 := Lib.hid (sL_4.out.below layE_ok hb)
    have E0_4 := Lib.hid (E0_3.out.below layE_ok hb)
    have X0_3 := Lib.hid (X0_2.out.below hb)
    have F0_2 := Lib.hid (F0_1.out.below entE_ok hb)
    have X1_1 := Lib.hid (X1_0.out.below hb)
    clear HB_7 A_7 A2_7 sB_4 sL_4 E0_3 X0_2 F0_1 X1_0 hb
    have L0_0 := Lib.hid ((by simpa using hI : Lays w7 (Bet (w6.heap.size + 1) w7.heap.size) g0 (P.keptL (P.pushOk d l) (P.push d l))))
    clear hI
    obtain ⟨g0d, g0c, rfl, _, _⟩ := id L0_0.out
    have hb := (Below.refl w7.heap.size w7).alloc (Nat.le_refl _) (.cells #[(.slice g0d (P.keptL (P.pushOk d l) (P.push d l)).length g0c)] 56)
    have HB_9 := Lib.hid (HB_8.out.trans (hb.mono HB_8.out.size))
    have A_9 := Lib.hid (A_8.out.below hb)
    have A2_9 := Lib.hid (A2_8.out.below hb)
    have sB_6 := Lib.hid (sB_5.out.below hb)
    have sL_6 := Lib.hid (sL_5.out.below layE_ok hb)
    have E0_5 := Lib.hid (E0_4.out.below layE_ok hb)
    have X0_4 := Lib.hid (X0_3.out.below hb)
    have F0_3 := Lib.hid (F0_2.out.below entE_ok hb)
    have X1_2 := Lib.hid (X1_1.out.below hb)
    have L0_1 := Lib.hid (L0_0.out.below layE_ok hb)
    clear HB_8 A_8 A2_8 sB_5 sL_5 E0_4 X0_3 F0_2 X1_1 L0_0 hb
    have G0_0 := Lib.hid (Box1.new (.slice g0d (P.keptL (P.pushOk d l) (P.push d l)).length g0c) 56 w7)
    obtain ⟨c_G0, _⟩ := G0_0.out
    obtain ⟨c_sB, _⟩ := sB_6.out
    go_wp2_with fail
    refine (eqStack _ _ (P.keptL (P.pushOk d l) (P.push d l)) _ (Lays.read L0_1.out) (Lays.read sL_6.out)).mono ?_
    rintro e w8 ⟨rfl, hb⟩
    clear c_G0 c_sB
    have z8 : w7.heap.size + 1 ≤ w8.heap.size := by have := hb.size; simpa using this
    have HB_10 := Lib.hid (HB_9.out.trans (hb.mono HB_9.out.size))
    have A_10 := Lib.hid (A_9.out.below hb)
    have A2_10 := Lib.hid (A2_9.out.below hb)
    have sB_7 := Lib.hid (sB_6.out.below hb)
    have sL_7 := Lib.hid (sL_6.out.below layE_ok hb)
    have E0_6 := Lib.hid (E0_5.out.below layE_ok hb)
    have X0_5 := Lib.hid (X0_4.out.below hb)
    have F0_4 := Lib.hid (F0_3.out.below entE_ok hb)
    have X1_3 := Lib.hid (X1_2.out.below hb)
    have L0_2 := Lib.hid (L0_1.out.below layE_ok hb)
    have G0_1 := Lib.hid (G0_0.out.below hb)
    clear HB_9 A_9 A2_9 sB_6 sL_6 E0_5 X0_4 F0_3 X1_2 L0_1 G0_0 hb
    have hb := (Below.refl w8.heap.size w8).drew
    have HB_11 := Lib.hid (HB_10.out.trans (hb.mono HB_10.out.size))
    have A_11 := Lib.hid (A_10.out.below hb)
    have A2_11 := Lib.hid (A2_10.out.below hb)
    have sB_8 := Lib.hid (sB_7.out.below hb)
    have sL_8 := Lib.hid (sL_7.out.below layE_ok hb)
    have E0_7 := Lib.hid (E0_6.out.below layE_ok hb)
    have X0_6 := Lib.hid (X0_5.out.below hb)
    have F0_5 := Lib.hid (F0_4.out.below entE_ok hb)
    have X1_4 := Lib.hid (X1_3.out.below hb)
    have L0_3 := Lib.hid (L0_2.out.below layE_ok hb)
    have G0_2 := Lib.hid (G0_1.out.below hb)
    clear HB_10 A_10 A2_10 sB_7 sL_7 E0_6 X0_5 F0_4 X1_3 L0_2 G0_1 hb
    go_upto_region 14 with fail
    refine wp_region_held_drew (S := fun v : World => v.cell? ⟨w5.heap.size, 0, none⟩ = some (.slice u2d l.length u2c) ∧ v.cell? ⟨w.heap.size, 0, none⟩ = some (.slice dad l.length dcap) ∧ w5.heap.size < v.heap.size ∧ w.heap.size < v.heap.size) (by kernel_rfl) ⟨X0_6.out.1, A_11.out.1, X0_6.out.2, A_11.out.2⟩ (fun hS0 => ?_)
    refine wpAnyH_take (i := 0) (v := .agg #[(.slice u2d l.length u2c)]) rfl (by kernel_rfl) (by kernel_rfl) (by kernel_rfl) (fun _ _ _ h => h) (Or.inl ⟨by rfl, fun z hz => ?_⟩) hS0 ?_
    · obtain ⟨q1, q2, q3, q4⟩ := hz
      go_simp
    try simp only [List.getElem_toArray, List.getElem_cons_zero, Act.put, List.setIfInBounds_toArray, List.set_cons_zero, List.set_cons_succ]
    refine wpAnyH_take (i := 1) (v := .agg #[(.slice dad l.length dcap)]) rfl (by kernel_rfl) (by kernel_rfl) (by kernel_rfl) (fun _ _ _ h => h) (Or.inl ⟨by rfl, fun z hz => ?_⟩) hS0 ?_
    · obtain ⟨q1, q2, q3, q4⟩ := hz
      go_simp
    try simp only [List.getElem_toArray, List.getElem_cons_zero, List.getElem_cons_succ, Act.put, List.setIfInBounds_toArray, List.set_cons_zero, List.set_cons_succ]
    refine wpAnyH_ready (rs := [2]) (by kernel_rfl) (by simp) ?_
    refine AllReadyH.cons rfl (fun K hK => ?_) AllReadyH.nil
    go_simp
    refine (toStack _ l _ (HU.out.below HB_11.out) HSM.out.len HSM.out.each).mono ?_
    rintro e w9 ⟨u3, rfl, hI, hb⟩
    have zw9 : w8.heap.size ≤ w9.heap.size := by have := hb.size; simpa using this
    refine hK.out _ _ ⟨(hb.cell (p := ⟨w5.heap.size, 0, none⟩) hS0.2.2.1).trans hS0.1, (hb.cell (p := ⟨w.heap.size, 0, none⟩) hS0.2.2.2).trans hS0.2.1, Nat.lt_of_lt_of_le hS0.2.2.1 hb.size, Nat.lt_of_lt_of_le hS0.2.2.2 hb.size⟩ (fun hS1 => ?_)
    clear hK K
    have HB_12 := Lib.hid (HB_11.out.trans (hb.mono HB_11.out.size))
    have A_12 := Lib.hid (A_11.out.below hb)
    have A2_12 := Lib.hid (A2_11.out.below hb)
    have sB_9 := Lib.hid (sB_8.out.below hb)
    have sL_9 := Lib.hid (sL_8.out.below layE_ok hb)
    have E0_8 := Lib.hid (E0_7.out.below layE_ok hb)
    have X0_7 := Lib.hid (X0_6.out.below hb)
    have F0_6 := Lib.hid (F0_5.out.below entE_ok hb)
    have X1_5 := Lib.hid (X1_4.out.below hb)
    have L0_4 := Lib.hid (L0_3.out.below layE_ok hb)
    have G0_3 := Lib.hid (G0_2.out.below hb)
    clear HB_11 A_11 A2_11 sB_8 sL_8 E0_7 X0_6 F0_5 X1_4 L0_3 G0_2 hb hS0
    have HI3 := Lib.hid hI
    obtain ⟨u3d, u3c, rfl, _, _⟩ := hI
    try simp only [List.getElem_toArray, List.getElem_cons_zero, List.getElem_cons_succ, Act.put, List.setIfInBounds_toArray, List.set_cons_zero, List.set_cons_succ]
    refine wpAnyH_ready (rs := [3]) (by kernel_rfl) (by simp) ?_
    refine AllReadyH.cons rfl (fun K hK => ?_) AllReadyH.nil
    go_simp
    refine (eqStack _ _ l _ (Lays.read E0_8.out) (Lays.read HI3.out)).mono ?_
    rintro e w10 ⟨rfl, hb⟩
    have zw10 : w9.heap.size ≤ w10.heap.size := by have := hb.size; simpa using this
    refine hK.out _ _ ⟨(hb.cell (p := ⟨w5.heap.size, 0, none⟩) hS1.2.2.1).trans hS1.1, (hb.cell (p := ⟨w.heap.size, 0, none⟩) hS1.2.2.2).trans hS1.2.1, Nat.lt_of_lt_of_le hS1.2.2.1 hb.size, Nat.lt_of_lt_of_le hS1.2.2.2 hb.size⟩ (fun hS2 => ?_)
    clear hK K
    have HB_13 := Lib.hid (HB_12.out.trans (hb.mono HB_12.out.size))
    have A_13 := Lib.hid (A_12.out.below hb)
    have A2_13 := Lib.hid (A2_12.out.below hb)
    have sB_10 := Lib.hid (sB_9.out.below hb)
    have sL_10 := Lib.hid (sL_9.out.below layE_ok hb)
    have E0_9 := Lib.hid (E0_8.out.below layE_ok hb)
    have X0_8 := Lib.hid (X0_7.out.below hb)
    have F0_7 := Lib.hid (F0_6.out.below entE_ok hb)
    have X1_6 := Lib.hid (X1_5.out.below hb)
    have L0_5 := Lib.hid (L0_4.out.below layE_ok hb)
    have G0_4 := Lib.hid (G0_3.out.below hb)
    clear HB_12 A_12 A2_12 sB_9 sL_9 E0_8 X0_7 F0_6 X1_5 L0_4 G0_3 hb hS1 HI3
    try simp only [List.getElem_toArray, List.getElem_cons_zero, List.getElem_cons_succ, Act.put, List.setIfInBounds_toArray, List.set_cons_zero, List.set_cons_succ]
    refine wpAnyH_take (i := 4) (v := .bool false) rfl (by kernel_rfl) (by kernel_rfl) (by kernel_rfl) (fun _ _ _ h => h) (Or.inl ⟨by rfl, fun z hz => ?_⟩) hS2 ?_
    · obtain ⟨q1, q2, q3, q4⟩ := hz
      go_simp
    try simp only [List.getElem_toArray, List.getElem_cons_zero, List.getElem_cons_succ, Act.put, List.setIfInBounds_toArray, List.set_cons_zero, List.set_cons_succ]
    refine wpAnyH_done (by kernel_rfl) ?_ _
    clear hS2
    have hb := (Below.refl w10.heap.size w10).drew
    have HB_14 := Lib.hid (HB_13.out.trans (hb.mono HB_13.out.size))
    have A_14 := Lib.hid (A_13.out.below hb)
    have A2_14 := Lib.hid (A2_13.out.below hb)
    have sB_11 := Lib.hid (sB_10.out.below hb)
    have sL_11 := Lib.hid (sL_10.out.below layE_ok hb)
    have E0_10 := Lib.hid (E0_9.out.below layE_ok hb)
    have X0_9 := Lib.hid (X0_8.out.below hb)
    have F0_8 := Lib.hid (F0_7.out.below entE_ok hb)
    have X1_7 := Lib.hid (X1_6.out.below hb)
    have L0_6 := Lib.hid (L0_5.out.below layE_ok hb)
    have G0_5 := Lib.hid (G0_4.out.below hb)
    clear HB_13 A_13 A2_13 sB_10 sL_10 E0_9 X0_8 F0_7 X1_6 L0_5 G0_4 hb
    go_upto_region 16 with fail
    refine wp_region_held_drew (S := fun v : World => v.cell? ⟨w6.heap.size, 0, none⟩ = some (.slice y2d d.length y2c) ∧ v.cell? ⟨(w.heap.size + 1), 0, none⟩ = some (.slice ead d.length ecap) ∧ w6.heap.size < v.heap.size ∧ (w.heap.size + 1) < v.heap.size) (by kernel_rfl) ⟨X1_7.out.1, A2_14.out.1, X1_7.out.2, A2_14.out.2⟩ (fun hS0 => ?_)
    refine wpAnyH_take (i := 0) (v := .agg #[(.slice y2d d.length y2c)]) rfl (by kernel_rfl) (by kernel_rfl) (by kernel_rfl) (fun _ _ _ h => h) (Or.inl ⟨by rfl, fun z hz => ?_⟩) hS0 ?_
    · obtain ⟨q1, q2, q3, q4⟩ := hz
      go_simp
    try simp only [List.getElem_toArray, List.getElem_cons_zero, Act.put, List.setIfInBounds_toArray, List.set_cons_zero, List.set_cons_succ]
    refine wpAnyH_take (i := 1) (v := .agg #[(.slice ead d.length ecap)]) rfl (by kernel_rfl) (by kernel_rfl) (by kernel_rfl) (fun _ _ _ h => h) (Or.inl ⟨by rfl, fun z hz => ?_⟩) hS0 ?_
    · obtain ⟨q1, q2, q3, q4⟩ := hz
      go_simp
    try simp only [List.getElem_toArray, List.getElem_cons_zero, List.getElem_cons_succ, Act.put, List.setIfInBounds_toArray, List.set_cons_zero, List.set_cons_succ]
    refine wpAnyH_ready (rs := [2]) (by kernel_rfl) (by simp) ?_
    refine AllReadyH.cons rfl (fun K hK => ?_) AllReadyH.nil
    go_simp
    refine (toDictionary _ d _ (HV.out.below HB_14.out) HSD.out.len HSD.out.outs).mono ?_
    rintro e w11 ⟨y3, rfl, hI, hb⟩
    have zw11 : w10.heap.size ≤ w11.heap.size := by have := hb.size; simpa using this
    refine hK.out _ _ ⟨(hb.cell (p := ⟨w6.heap.size, 0, none⟩) hS0.2.2.1).trans hS0.1, (hb.cell (p := ⟨(w.heap.size + 1), 0, none⟩) hS0.2.2.2).trans hS0.2.1, Nat.lt_of_lt_of_le hS0.2.2.1 hb.size, Nat.lt_of_lt_of_le hS0.2.2.2 hb.size⟩ (fun hS1 => ?_)
    clear hK K
    have HB_15 := Lib.hid (HB_14.out.trans (hb.mono HB_14.out.size))
    have A_15 := Lib.hid (A_14.out.below hb)
    have A2_15 := Lib.hid (A2_14.out.below hb)
    have sB_12 := Lib.hid (sB_11.out.below hb)
    have sL_12 := Lib.hid (sL_11.out.below layE_ok hb)
    have E0_11 := Lib.hid (E0_10.out.below layE_ok hb)
    have X0_10 := Lib.hid (X0_9.out.below hb)
    have F0_9 := Lib.hid (F0_8.out.below entE_ok hb)
    have X1_8 := Lib.hid (X1_7.out.below hb)
    have L0_7 := Lib.hid (L0_6.out.below layE_ok hb)
    have G0_6 := Lib.hid (G0_5.out.below hb)
    clear HB_14 A_14 A2_14 sB_11 sL_11 E0_10 X0_9 F0_8 X1_7 L0_6 G0_5 hb hS0
    have HI3 := Lib.hid hI
    obtain ⟨y3d, y3c, rfl, _, _⟩ := hI
    try simp only [List.getElem_toArray, List.getElem_cons_zero, List.getElem_cons_succ, Act.put, List.setIfInBounds_toArray, List.set_cons_zero, List.set_cons_succ]
    refine wpAnyH_ready (rs := [3]) (by kernel_rfl) (by simp) ?_
    refine AllReadyH.cons rfl (fun K hK => ?_) AllReadyH.nil
    go_simp
    refine (eqDictionary _ _ d _ (Ents.read F0_9.out) (Ents.read HI3.out)).mono ?_
    rintro e w12 ⟨rfl, hb⟩
    have zw12 : w11.heap.size ≤ w12.heap.size := by have := hb.size; simpa using this
    refine hK.out _ _ ⟨(hb.cell (p := ⟨w6.heap.size, 0, none⟩) hS1.2.2.1).trans hS1.1, (hb.cell (p := ⟨(w.heap.size + 1), 0, none⟩) hS1.2.2.2).trans hS1.2.1, Nat.lt_of_lt_of_le hS1.2.2.1 hb.size, Nat.lt_of_lt_of_le hS1.2.2.2 hb.size⟩ (fun hS2 => ?_)
    clear hK K
    have HB_16 := Lib.hid (HB_15.out.trans (hb.mono HB_15.out.size))
    have A_16 := Lib.hid (A_15.out.below hb)
    have A2_16 := Lib.hid (A2_15.out.below hb)
    have sB_13 := Lib.hid (sB_12.out.below hb)
    have sL_13 := Lib.hid (sL_12.out.below layE_ok hb)
    have E0_12 := Lib.hid (E0_11.out.below layE_ok hb)
    have X0_11 := Lib.hid (X0_10.out.below hb)
    have F0_10 := Lib.hid (F0_9.out.below entE_ok hb)
    have X1_9 := Lib.hid (X1_8.out.below hb)
    have L0_8 := Lib.hid (L0_7.out.below layE_ok hb)
    have G0_7 := Lib.hid (G0_6.out.below hb)
    clear HB_15 A_15 A2_15 sB_12 sL_12 E0_11 X0_10 F0_9 X1_8 L0_7 G0_6 hb hS1 HI3
    try simp only [List.getElem_toArray, List.getElem_cons_zero, List.getElem_cons_succ, Act.put, List.setIfInBounds_toArray, List.set_cons_zero, List.set_cons_succ]
    refine wpAnyH_take (i := 4) (v := .bool false) rfl (by kernel_rfl) (by kernel_rfl) (by kernel_rfl) (fun _ _ _ h => h) (Or.inl ⟨by rfl, fun z hz => ?_⟩) hS2 ?_
    · obtain ⟨q1, q2, q3, q4⟩ := hz
      go_simp
    try simp only [List.getElem_toArray, List.getElem_cons_zero, List.getElem_cons_succ, Act.put, List.setIfInBounds_toArray, List.set_cons_zero, List.set_cons_succ]
    refine wpAnyH_done (by kernel_rfl) ?_ _
    clear hS2
    obtain ⟨c_X0, _⟩ := X0_11.out
    go_wp2_with fail
    refine (markStack _ l 1 (Bet w4.heap.size w5.heap.size) _ E0_12.out (by decide) HK1.out).mono ?_
    rintro e w13 ⟨rfl, _, hc⟩
    have z13 : w12.heap.size ≤ w13.heap.size := hc.size
    clear c_X0
    have HB_17 := Lib.hid (Chg.belowB HB_16.out hc HB_16.out.size (fun b h => by simp only [Bet] at h; omega))
    have A_17 := Lib.hid (A_16.out.stand hc (fun h => by simp only [Bet] at h; omega))
    have A2_17 := Lib.hid (A2_16.out.stand hc (fun h => by simp only [Bet] at h; omega))
    have sB_14 := Lib.hid (sB_13.out.stand hc (fun h => by simp only [Bet] at h; omega))
    have sL_14 := Lib.hid (sL_13.out.stand layE_ok hc (fun b h1 h2 => by simp only [Bet] at h1 h2; omega))
    have X0_12 := Lib.hid (X0_11.out.stand hc (fun h => by simp only [Bet] at h; omega))
    have F0_11 := Lib.hid (F0_10.out.stand entE_ok hc (fun b h1 h2 => by simp only [Bet] at h1 h2; omega))
    have X1_10 := Lib.hid (X1_9.out.stand hc (fun h => by simp only [Bet] at h; omega))
    have L0_9 := Lib.hid (L0_8.out.stand layE_ok hc (fun b h1 h2 => by simp only [Bet] at h1 h2; omega))
    have G0_8 := Lib.hid (G0_7.out.stand hc (fun h => by simp only [Bet] at h; omega))
    clear HB_16 A_16 A2_16 sB_13 sL_13 X0_11 F0_10 X1_9 L0_8 G0_7 hc
    obtain ⟨c_X1, _⟩ := X1_10.out
    go_wp2_with fail
    refine (markDictionary _ d (P.kAtL 1 l) (Bet (w5.heap.size + 1) w6.heap.size) _ F0_11.out HKP.out HK2.out).mono ?_
    rintro e w14 ⟨rfl, _, hc⟩
    have z14 : w13.heap.size ≤ w14.heap.size := hc.size
    clear c_X1
    have HB_18 := Lib.hid (Chg.belowB HB_17.out hc HB_17.out.size (fun b h => by simp only [Bet] at h; omega))
    have A_18 := Lib.hid (A_17.out.stand hc (fun h => by simp only [Bet] at h; omega))
    have A2_18 := Lib.hid (A2_17.out.stand hc (fun h => by simp only [Bet] at h; omega))
    have sB_15 := Lib.hid (sB_14.out.stand hc (fun h => by simp only [Bet] at h; omega))
    have sL_15 := Lib.hid (sL_14.out.stand layE_ok hc (fun b h1 h2 => by simp only [Bet] at h1 h2; omega))
    have X0_13 := Lib.hid (X0_12.out.stand hc (fun h => by simp only [Bet] at h; omega))
    have X1_11 := Lib.hid (X1_10.out.stand hc (fun h => by simp only [Bet] at h; omega))
    have L0_10 := Lib.hid (L0_9.out.stand layE_ok hc (fun b h1 h2 => by simp only [Bet] at h1 h2; omega))
    have G0_9 := Lib.hid (G0_8.out.stand hc (fun h => by simp only [Bet] at h; omega))
    clear HB_17 A_17 A2_17 sB_14 sL_14 X0_12 X1_10 L0_9 G0_8 hc
    have hkp : ¬ P.kAt (P.kAtL 1 l) d < 0 := by have := P.kAt_ge (P.kAtL 1 l) d; have := HKP.out; omega
    obtain ⟨c_G0, _⟩ := G0_9.out
    obtain ⟨c_sB, _⟩ := sB_15.out
    go_wp2_with fail
    refine (eqStack _ _ (P.keptL (P.pushOk d l) (P.push d l)) _ (Lays.read L0_10.out) (Lays.read sL_15.out)).mono ?_
    rintro e w15 ⟨rfl, hb⟩
    clear c_G0 c_sB
    have z15 : w14.heap.size ≤ w15.heap.size := by have := hb.size; simpa using this
    have HB_19 := Lib.hid (HB_18.out.trans (hb.mono HB_18.out.size))
    have A_19 := Lib.hid (A_18.out.below hb)
    have A2_19 := Lib.hid (A2_18.out.below hb)
    have sB_16 := Lib.hid (sB_15.out.below hb)
    have sL_16 := Lib.hid (sL_15.out.below layE_ok hb)
    have X0_14 := Lib.hid (X0_13.out.below hb)
    have X1_12 := Lib.hid (X1_11.out.below hb)
    have L0_11 := Lib.hid (L0_10.out.below layE_ok hb)
    have G0_10 := Lib.hid (G0_9.out.below hb)
    clear HB_18 A_18 A2_18 sB_15 sL_15 X0_13 X1_11 L0_10 G0_9 hb
    obtain ⟨c_G0, _⟩ := G0_10.out
    go_wp2_with fail
    refine (markStack _ (P.keptL (P.pushOk d l) (P.push d l)) 1 (Bet (w6.heap.size + 1) w7.heap.size) _ L0_11.out (by decide) (HKK.out _)).mono ?_
    rintro e w16 ⟨rfl, hI, hc⟩
    have z16 : w15.heap.size ≤ w16.heap.size := hc.size
    clear c_G0
    have HB_20 := Lib.hid (Chg.belowB HB_19.out hc HB_19.out.size (fun b h => by simp only [Bet] at h; omega))
    have A_20 := Lib.hid (A_19.out.stand hc (fun h => by simp only [Bet] at h; omega))
    have A2_20 := Lib.hid (A2_19.out.stand hc (fun h => by simp only [Bet] at h; omega))
    have sB_17 := Lib.hid (sB_16.out.stand hc (fun h => by simp only [Bet] at h; omega))
    have sL_17 := Lib.hid (sL_16.out.stand layE_ok hc (fun b h1 h2 => by simp only [Bet] at h1 h2; omega))
    have X0_15 := Lib.hid (X0_14.out.stand hc (fun h => by simp only [Bet] at h; omega))
    have X1_13 := Lib.hid (X1_12.out.stand hc (fun h => by simp only [Bet] at h; omega))
    have G0_11 := Lib.hid (G0_10.out.stand hc (fun h => by simp only [Bet] at h; omega))
    clear HB_19 A_19 A2_19 sB_16 sL_16 X0_14 X1_12 G0_10 hc hkp
    have M0_0 := Lib.hid (hI)
    clear hI
    obtain ⟨c_G0, _⟩ := G0_11.out
    have HKN := Lib.hid (show ¬ P.kAtL 1 (P.keptL (P.pushOk d l) (P.push d l)) < 0 by have := P.kAtL_ge 1 (P.keptL (P.pushOk d l) (P.push d l)); omega)
    go_wp2_with fail
    refine (heldStack _ (P.keptL (P.pushOk d l) (P.push d l)) 1 _ (Lays.read M0_0.out) (by decide) (HKK.out _)).mono ?_
    rintro e w17 ⟨rfl, hb⟩
    clear c_G0
    have hkn := HKN.out
    have z17 : w16.heap.size ≤ w17.heap.size := by have := hb.size; simpa using this
    have HB_21 := Lib.hid (HB_20.out.trans (hb.mono HB_20.out.size))
    have A_21 := Lib.hid (A_20.out.below hb)
    have A2_21 := Lib.hid (A2_20.out.below hb)
    have sB_18 := Lib.hid (sB_17.out.below hb)
    have sL_18 := Lib.hid (sL_17.out.below layE_ok hb)
    have X0_16 := Lib.hid (X0_15.out.below hb)
    have X1_14 := Lib.hid (X1_13.out.below hb)
    have G0_12 := Lib.hid (G0_11.out.below hb)
    have M0_1 := Lib.hid (M0_0.out.below layE_ok hb)
    clear HB_20 A_20 A2_20 sB_17 sL_17 X0_15 X1_13 G0_11 M0_0 hb HKN
    have hWA : w.heap.size + 1 < w17.heap.size := A2_21.out.2
    have HS := Lib.hid (show KPU w.heap.size (.slice dad l.length dcap) (.slice ead d.length ecap) w17.drew from KPU.step (B := w17.heap.size) ⟨A_21.out.1, A2_21.out.1⟩ (Below.refl _ _).drew hWA)
    go_upto_region 31 with fail
    go_cut [15, 16] (fun p ok wx => ∃ bx sd sc, p = .pointer (some ⟨bx, 0, none⟩) ∧ ok = .bool (P.pushOk d l) ∧ wx.cell? ⟨bx, 0, none⟩ = some (.slice sd (P.keptL (P.pushOk d l) (P.push d l)).length sc) ∧ w17.heap.size ≤ bx ∧ bx < wx.heap.size ∧ Lays wx (Bet w17.heap.size wx.heap.size) (.slice sd (P.keptL (P.pushOk d l) (P.push d l)).length sc) (P.keptL (P.pushOk d l) (P.push d l)) ∧ Below w17.heap.size w17 wx)
    case first =>
      have HBW81 := Lib.hid (show Below w17.heap.size w17 w17.drew from (Below.refl _ _).drew)
      have z0 : w17.heap.size ≤ w17.drew.heap.size := Nat.le_refl _
      refine wp_region_held_drew (S := KPU w.heap.size (.slice dad l.length dcap) (.slice ead d.length ecap)) (by kernel_rfl) HS.out (fun hS0 => ?_)
      refine wpAnyH_take (i := 0) (v := .agg #[(.slice dad l.length dcap)]) rfl (by kernel_rfl) (by kernel_rfl) (by kernel_rfl) (fun _ _ _ h => h) (Or.inl ⟨by rfl, fun z hz => ?_⟩) hS0 ?_
      · obtain ⟨z1q, z2q⟩ := hz
        go_simp
      try simp only [List.getElem_toArray, List.getElem_cons_zero, Act.put, List.setIfInBounds_toArray, List.set_cons_zero, List.set_cons_succ]
      refine wpAnyH_take (i := 2) (v := .agg #[(.slice ead d.length ecap)]) rfl (by kernel_rfl) (by kernel_rfl) (by kernel_rfl) (fun _ _ _ h => h) (Or.inl ⟨by rfl, fun z hz => ?_⟩) hS0 ?_
      · obtain ⟨z1q, z2q⟩ := hz
        go_simp
      try simp only [List.getElem_toArray, List.getElem_cons_zero, List.getElem_cons_succ, Act.put, List.setIfInBounds_toArray, List.set_cons_zero, List.set_cons_succ]
      generalize w17.drew = v82 at *
      refine wpAnyH_ready (rs := [1, 8]) (by kernel_rfl) (by simp) ?_
      refine AllReadyH.cons rfl (fun K hK => ?_) (AllReadyH.cons rfl (fun K hK => ?_) AllReadyH.nil)
      · skip
        go_simp
        refine (toStack _ l _ (HU.out.below (HB_21.out.trans (HBW81.out.mono HB_21.out.size))) HSM.out.len HSM.out.each).mono ?_
        rintro e v84 ⟨u85, rfl, hI, hb⟩
        have zv84 : v82.heap.size ≤ v84.heap.size := hb.size
        refine hK.out _ _ (hS0.step (hb.mono HBW81.out.size) hWA) (fun hS83 => ?_)
        clear hK K
        have HBW86 := Lib.hid (HBW81.out.trans (hb.mono HBW81.out.size))
        clear HBW81
        have U87 := Lib.hid (show Lays v84 (Bet v82.heap.size v84.heap.size) u85 l from hI)
        obtain ⟨u85d, u85c, rfl, _, _⟩ := hI
        clear hb
        try simp only [List.getElem_toArray, List.getElem_cons_zero, List.getElem_cons_succ, Act.put, List.setIfInBounds_toArray, List.set_cons_zero, List.set_cons_succ]
        refine wpAnyH_ready (rs := [3, 8]) (by kernel_rfl) (by simp) ?_
        refine AllReadyH.cons rfl (fun K hK => ?_) (AllReadyH.cons rfl (fun K hK => ?_) AllReadyH.nil)
        · skip
          go_simp
          refine (toDictionary _ d _ (HV.out.below (HB_21.out.trans (HBW86.out.mono HB_21.out.size))) HSD.out.len HSD.out.outs).mono ?_
          rintro e v89 ⟨y90, rfl, hI, hb⟩
          have zv89 : v84.heap.size ≤ v89.heap.size := hb.size
          refine hK.out _ _ (hS83.step (hb.mono HBW86.out.size) hWA) (fun hS88 => ?_)
          clear hK K
          have HBW91 := Lib.hid (HBW86.out.trans (hb.mono HBW86.out.size))
          have U92 := Lib.hid (U87.out.below layE_ok hb)
          clear HBW86 U87
          have V93 := Lib.hid (show Ents v89 (Bet v84.heap.size v89.heap.size) y90 d from hI)
          obtain ⟨y90d, y90c, rfl, _, _⟩ := hI
          clear hb
          try simp only [List.getElem_toArray, List.getElem_cons_zero, List.getElem_cons_succ, Act.put, List.setIfInBounds_toArray, List.set_cons_zero, List.set_cons_succ]
          refine wpAnyH_ready (rs := [4, 8]) (by kernel_rfl) (by simp) ?_
          refine AllReadyH.cons rfl (fun K hK => ?_) (AllReadyH.cons rfl (fun K hK => ?_) AllReadyH.nil)
          · skip
            go_simp
            refine (impl_pushLayer _ _ l d _ (Lays.read U92.out) (Ents.read V93.out) HSM.out HSD.out (HE.out.below (HB_21.out.trans (HBW91.out.mono HB_21.out.size)) HE.out.size)).mono ?_
            rintro e v95 ⟨x96, rfl, hI, hb⟩
            have zv95 : v89.heap.size ≤ v95.heap.size := hb.size
            refine hK.out _ _ (hS88.step (hb.mono HBW91.out.size) hWA) (fun hS94 => ?_)
            clear hK K
            clear U92 V93
            have HBW97 := Lib.hid (HBW91.out.trans (hb.mono HBW91.out.size))
            clear HBW91
            have RES98 := Lib.hid (show Lays v95 (Bet v89.heap.size v95.heap.size) x96 (P.keptL (P.pushOk d l) (P.push d l)) from hI)
            obtain ⟨x96d, x96c, rfl, _, _⟩ := hI
            clear hb
            try simp only [List.getElem_toArray, List.getElem_cons_zero, List.getElem_cons_succ, Act.put, List.setIfInBounds_toArray, List.set_cons_zero, List.set_cons_succ]
            refine wpAnyH_take (i := 5) (v := .tuple #[.agg #[.slice x96d (P.keptL (P.pushOk d l) (P.push d l)).length x96c], .bool (P.pushOk d l)]) rfl (by kernel_rfl) (by kernel_rfl) (by kernel_rfl) (fun _ _ _ h => h) (Or.inl ⟨by rfl, fun z hz => ?_⟩) hS94 ?_
            · obtain ⟨z1q, z2q⟩ := hz
              go_simp
            try simp only [List.getElem_toArray, List.getElem_cons_zero, List.getElem_cons_succ, Act.put, List.setIfInBounds_toArray, List.set_cons_zero, List.set_cons_succ]
            refine wpAnyH_take (i := 6) (v := .agg #[.slice x96d (P.keptL (P.pushOk d l) (P.push d l)).length x96c]) rfl (by kernel_rfl) (by kernel_rfl) (by kernel_rfl) (fun _ _ _ h => h) (Or.inl ⟨by rfl, fun z hz => ?_⟩) hS94 ?_
            · obtain ⟨z1q, z2q⟩ := hz
              go_simp
            try simp only [List.getElem_toArray, List.getElem_cons_zero, List.getElem_cons_succ, Act.put, List.setIfInBounds_toArray, List.set_cons_zero, List.set_cons_succ]
            refine wpAnyH_take (i := 7) (v := .bool (P.pushOk d l)) rfl (by kernel_rfl) (by kernel_rfl) (by kernel_rfl) (fun _ _ _ h => h) (Or.inl ⟨by rfl, fun z hz => ?_⟩) hS94 ?_
            · obtain ⟨z1q, z2q⟩ := hz
              go_simp
            try simp only [List.getElem_toArray, List.getElem_cons_zero, List.getElem_cons_succ, Act.put, List.setIfInBounds_toArray, List.set_cons_zero, List.set_cons_succ]
            refine wpAnyH_ready (rs := [8]) (by kernel_rfl) (by simp) ?_
            refine AllReadyH.cons rfl (fun K hK => ?_) AllReadyH.nil
            go_simp
            have hb := (Below.refl v95.heap.size v95).alloc (Nat.le_refl _) (.cells #[.slice none 0 0] 56)
            have zv100 : v95.heap.size < (v95.alloc (.cells #[.slice none 0 0] 56)).heap.size := by simp
            refine hK.out _ _ (hS94.step (hb.mono HBW97.out.size) hWA) (fun hS99 => ?_)
            clear hK K
            have BX101 := Lib.hid (NBx.new v95 56)
            have HBW102 := Lib.hid (HBW97.out.trans (hb.mono HBW97.out.size))
            have RES103 := Lib.hid (RES98.out.below layE_ok hb)
            clear HBW97 RES98
            clear hb
            generalize v95.alloc (.cells #[.slice none 0 0] 56) = v100 at *
            try simp only [List.getElem_toArray, List.getElem_cons_zero, List.getElem_cons_succ, Act.put, List.setIfInBounds_toArray, List.set_cons_zero, List.set_cons_succ]
            refine wpAnyH_ready (rs := [9]) (by kernel_rfl) (by simp) ?_
            refine AllReadyH.cons rfl (fun K hK => ?_) AllReadyH.nil
            have zA := HBW102.out.size
            obtain ⟨cb, fb, zb⟩ := BX101.out
            go_simp
            refine hK.out _ _ (hS99.step ((Below.refl w17.heap.size v100).setCell (p := ⟨v95.heap.size, 0, none⟩) (by show w17.heap.size ≤ v95.heap.size; omega) _) hWA) (fun hS104 => ?_)
            clear hK K
            try simp only [List.getElem_toArray, List.getElem_cons_zero, List.getElem_cons_succ, Act.put, List.setIfInBounds_toArray, List.set_cons_zero, List.set_cons_succ]
            refine wpAnyH_take (i := 10) (v := .bool (P.pushOk d l)) rfl (by kernel_rfl) (by kernel_rfl) (by kernel_rfl) (fun _ _ _ h => h) (Or.inl ⟨by rfl, fun z hz => ?_⟩) hS104 ?_
            · obtain ⟨z1q, z2q⟩ := hz
              go_simp
            try simp only [List.getElem_toArray, List.getElem_cons_zero, List.getElem_cons_succ, Act.put, List.setIfInBounds_toArray, List.set_cons_zero, List.set_cons_succ]
            refine wpAnyH_done (by kernel_rfl) ?_ _
            go_wp2_with fail
            go_meet
            refine ⟨v95.heap.size, x96d, x96c, rfl, rfl, World.cell?_setCell_same _ _ _ cb, by omega, by simpa [World.setCell] using zb, ?_, HBW102.out.setCell (by show w17.heap.size ≤ v95.heap.size; omega) _⟩
            exact (RES103.out.stand (X := fun b => b = v95.heap.size) layE_ok ((Chg.refl (fun b => b = v95.heap.size) v100).setCell (p := ⟨v95.heap.size, 0, none⟩) rfl _) (fun b hb e => by have h1 := hb.1; have h2 := hb.2; omega)).wide (fun b hb => ⟨by have h1 := hb.1; omega, by have h1 := hb.2; simp only [World.setCell, Array.size_modify]; omega⟩) (fun b hb => hb.2)
          · skip
            go_simp
            have hb := (Below.refl v89.heap.size v89).alloc (Nat.le_refl _) (.cells #[.slice none 0 0] 56)
            have zv106 : v89.heap.size < (v89.alloc (.cells #[.slice none 0 0] 56)).heap.size := by simp
            refine hK.out _ _ (hS88.step (hb.mono HBW91.out.size) hWA) (fun hS105 => ?_)
            clear hK K
            have BX107 := Lib.hid (NBx.new v89 56)
            have HBW108 := Lib.hid (HBW91.out.trans (hb.mono HBW91.out.size))
            have U109 := Lib.hid (U92.out.below layE_ok hb)
            have V110 := Lib.hid (V93.out.below entE_ok hb)
            clear HBW91 U92 V93
            clear hb
            generalize v89.alloc (.cells #[.slice none 0 0] 56) = v106 at *
            try simp only [List.getElem_toArray, List.getElem_cons_zero, List.getElem_cons_succ, Act.put, List.setIfInBounds_toArray, List.set_cons_zero, List.set_cons_succ]
            refine wpAnyH_ready (rs := [4]) (by kernel_rfl) (by simp) ?_
            refine AllReadyH.cons rfl (fun K hK => ?_) AllReadyH.nil
            go_simp
            refine (impl_pushLayer _ _ l d _ (Lays.read U109.out) (Ents.read V110.out) HSM.out HSD.out (HE.out.below (HB_21.out.trans (HBW108.out.mono HB_21.out.size)) HE.out.size)).mono ?_
            rintro e v112 ⟨x113, rfl, hI, hb⟩
            have zv112 : v106.heap.size ≤ v112.heap.size := hb.size
            refine hK.out _ _ (hS105.step (hb.mono HBW108.out.size) hWA) (fun hS111 => ?_)
            clear hK K
            clear U109 V110
            have HBW114 := Lib.hid (HBW108.out.trans (hb.mono HBW108.out.size))
            have BX115 := Lib.hid (BX107.out.below hb)
            clear HBW108 BX107
            have RES116 := Lib.hid (show Lays v112 (Bet v106.heap.size v112.heap.size) x113 (P.keptL (P.pushOk d l) (P.push d l)) from hI)
            obtain ⟨x113d, x113c, rfl, _, _⟩ := hI
            clear hb
            try simp only [List.getElem_toArray, List.getElem_cons_zero, List.getElem_cons_succ, Act.put, List.setIfInBounds_toArray, List.set_cons_zero, List.set_cons_succ]
            refine wpAnyH_take (i := 5) (v := .tuple #[.agg #[.slice x113d (P.keptL (P.pushOk d l) (P.push d l)).length x113c], .bool (P.pushOk d l)]) rfl (by kernel_rfl) (by kernel_rfl) (by kernel_rfl) (fun _ _ _ h => h) (Or.inl ⟨by rfl, fun z hz => ?_⟩) hS111 ?_
            · obtain ⟨z1q, z2q⟩ := hz
              go_simp
            try simp only [List.getElem_toArray, List.getElem_cons_zero, List.getElem_cons_succ, Act.put, List.setIfInBounds_toArray, List.set_cons_zero, List.set_cons_succ]
            refine wpAnyH_take (i := 6) (v := .agg #[.slice x113d (P.keptL (P.pushOk d l) (P.push d l)).length x113c]) rfl (by kernel_rfl) (by kernel_rfl) (by kernel_rfl) (fun _ _ _ h => h) (Or.inl ⟨by rfl, fun z hz => ?_⟩) hS111 ?_
            · obtain ⟨z1q, z2q⟩ := hz
              go_simp
            try simp only [List.getElem_toArray, List.getElem_cons_zero, List.getElem_cons_succ, Act.put, List.setIfInBounds_toArray, List.set_cons_zero, List.set_cons_succ]
            refine wpAnyH_take (i := 7) (v := .bool (P.pushOk d l)) rfl (by kernel_rfl) (by kernel_rfl) (by kernel_rfl) (fun _ _ _ h => h) (Or.inl ⟨by rfl, fun z hz => ?_⟩) hS111 ?_
            · obtain ⟨z1q, z2q⟩ := hz
              go_simp
            try simp only [List.getElem_toArray, List.getElem_cons_zero, List.getElem_cons_succ, Act.put, List.setIfInBounds_toArray, List.set_cons_zero, List.set_cons_succ]
            refine wpAnyH_ready (rs := [9]) (by kernel_rfl) (by simp) ?_
            refine AllReadyH.cons rfl (fun K hK => ?_) AllReadyH.nil
            have zA := HBW114.out.size
            obtain ⟨cb, fb, zb⟩ := BX115.out
            go_simp
            refine hK.out _ _ (hS111.step ((Below.refl w17.heap.size v112).setCell (p := ⟨v89.heap.size, 0, none⟩) (by show w17.heap.size ≤ v89.heap.size; omega) _) hWA) (fun hS117 => ?_)
            clear hK K
            try simp only [List.getElem_toArray, List.getElem_cons_zero, List.getElem_cons_succ, Act.put, List.setIfInBounds_toArray, List.set_cons_zero, List.set_cons_succ]
            refine wpAnyH_take (i := 10) (v := .bool (P.pushOk d l)) rfl (by kernel_rfl) (by kernel_rfl) (by kernel_rfl) (fun _ _ _ h => h) (Or.inl ⟨by rfl, fun z hz => ?_⟩) hS117 ?_
            · obtain ⟨z1q, z2q⟩ := hz
              go_simp
            try simp only [List.getElem_toArray, List.getElem_cons_zero, List.getElem_cons_succ, Act.put, List.setIfInBounds_toArray, List.set_cons_zero, List.set_cons_succ]
            refine wpAnyH_done (by kernel_rfl) ?_ _
            go_wp2_with fail
            go_meet
            refine ⟨v89.heap.size, x113d, x113c, rfl, rfl, World.cell?_setCell_same _ _ _ cb, by omega, by simpa [World.setCell] using zb, ?_, HBW114.out.setCell (by show w17.heap.size ≤ v89.heap.size; omega) _⟩
            exact (RES116.out.stand (X := fun b => b = v89.heap.size) layE_ok ((Chg.refl (fun b => b = v89.heap.size) v112).setCell (p := ⟨v89.heap.size, 0, none⟩) rfl _) (fun b hb e => by have h1 := hb.1; have h2 := hb.2; omega)).wide (fun b hb => ⟨by have h1 := hb.1; omega, by have h1 := hb.2; simp only [World.setCell, Array.size_modify]; omega⟩) (fun b hb => hb.2)
        · skip
          go_simp
          have hb := (Below.refl v84.heap.size v84).alloc (Nat.le_refl _) (.cells #[.slice none 0 0] 56)
          have zv119 : v84.heap.size < (v84.alloc (.cells #[.slice none 0 0] 56)).heap.size := by simp
          refine hK.out _ _ (hS83.step (hb.mono HBW86.out.size) hWA) (fun hS118 => ?_)
          clear hK K
          have BX120 := Lib.hid (NBx.new v84 56)
          have HBW121 := Lib.hid (HBW86.out.trans (hb.mono HBW86.out.size))
          have U122 := Lib.hid (U87.out.below layE_ok hb)
          clear HBW86 U87
          clear hb
          generalize v84.alloc (.cells #[.slice none 0 0] 56) = v119 at *
          try simp only [List.getElem_toArray, List.getElem_cons_zero, List.getElem_cons_succ, Act.put, List.setIfInBounds_toArray, List.set_cons_zero, List.set_cons_succ]
          refine wpAnyH_ready (rs := [3]) (by kernel_rfl) (by simp) ?_
          refine AllReadyH.cons rfl (fun K hK => ?_) AllReadyH.nil
          go_simp
          refine (toDictionary _ d _ (HV.out.below (HB_21.out.trans (HBW121.out.mono HB_21.out.size))) HSD.out.len HSD.out.outs).mono ?_
          rintro e v124 ⟨y125, rfl, hI, hb⟩
          have zv124 : v119.heap.size ≤ v124.heap.size := hb.size
          refine hK.out _ _ (hS118.step (hb.mono HBW121.out.size) hWA) (fun hS123 => ?_)
          clear hK K
          have HBW126 := Lib.hid (HBW121.out.trans (hb.mono HBW121.out.size))
          have U127 := Lib.hid (U122.out.below layE_ok hb)
          have BX128 := Lib.hid (BX120.out.below hb)
          clear HBW121 U122 BX120
          have V129 := Lib.hid (show Ents v124 (Bet v119.heap.size v124.heap.size) y125 d from hI)
          obtain ⟨y125d, y125c, rfl, _, _⟩ := hI
          clear hb
          try simp only [List.getElem_toArray, List.getElem_cons_zero, List.getElem_cons_succ, Act.put, List.setIfInBounds_toArray, List.set_cons_zero, List.set_cons_succ]
          refine wpAnyH_ready (rs := [4]) (by kernel_rfl) (by simp) ?_
          refine AllReadyH.cons rfl (fun K hK => ?_) AllReadyH.nil
          go_simp
          refine (impl_pushLayer _ _ l d _ (Lays.read U127.out) (Ents.read V129.out) HSM.out HSD.out (HE.out.below (HB_21.out.trans (HBW126.out.mono HB_21.out.size)) HE.out.size)).mono ?_
          rintro e v131 ⟨x132, rfl, hI, hb⟩
          have zv131 : v124.heap.size ≤ v131.heap.size := hb.size
          refine hK.out _ _ (hS123.step (hb.mono HBW126.out.size) hWA) (fun hS130 => ?_)
          clear hK K
          clear U127 V129
          have HBW133 := Lib.hid (HBW126.out.trans (hb.mono HBW126.out.size))
          have BX134 := Lib.hid (BX128.out.below hb)
          clear HBW126 BX128
          have RES135 := Lib.hid (show Lays v131 (Bet v124.heap.size v131.heap.size) x132 (P.keptL (P.pushOk d l) (P.push d l)) from hI)
          obtain ⟨x132d, x132c, rfl, _, _⟩ := hI
          clear hb
          try simp only [List.getElem_toArray, List.getElem_cons_zero, List.getElem_cons_succ, Act.put, List.setIfInBounds_toArray, List.set_cons_zero, List.set_cons_succ]
          refine wpAnyH_take (i := 5) (v := .tuple #[.agg #[.slice x132d (P.keptL (P.pushOk d l) (P.push d l)).length x132c], .bool (P.pushOk d l)]) rfl (by kernel_rfl) (by kernel_rfl) (by kernel_rfl) (fun _ _ _ h => h) (Or.inl ⟨by rfl, fun z hz => ?_⟩) hS130 ?_
          · obtain ⟨z1q, z2q⟩ := hz
            go_simp
          try simp only [List.getElem_toArray, List.getElem_cons_zero, List.getElem_cons_succ, Act.put, List.setIfInBounds_toArray, List.set_cons_zero, List.set_cons_succ]
          refine wpAnyH_take (i := 6) (v := .agg #[.slice x132d (P.keptL (P.pushOk d l) (P.push d l)).length x132c]) rfl (by kernel_rfl) (by kernel_rfl) (by kernel_rfl) (fun _ _ _ h => h) (Or.inl ⟨by rfl, fun z hz => ?_⟩) hS130 ?_
          · obtain ⟨z1q, z2q⟩ := hz
            go_simp
          try simp only [List.getElem_toArray, List.getElem_cons_zero, List.getElem_cons_succ, Act.put, List.setIfInBounds_toArray, List.set_cons_zero, List.set_cons_succ]
          refine wpAnyH_take (i := 7) (v := .bool (P.pushOk d l)) rfl (by kernel_rfl) (by kernel_rfl) (by kernel_rfl) (fun _ _ _ h => h) (Or.inl ⟨by rfl, fun z hz => ?_⟩) hS130 ?_
          · obtain ⟨z1q, z2q⟩ := hz
            go_simp
          try simp only [List.getElem_toArray, List.getElem_cons_zero, List.getElem_cons_succ, Act.put, List.setIfInBounds_toArray, List.set_cons_zero, List.set_cons_succ]
          refine wpAnyH_ready (rs := [9]) (by kernel_rfl) (by simp) ?_
          refine AllReadyH.cons rfl (fun K hK => ?_) AllReadyH.nil
          have zA := HBW133.out.size
          obtain ⟨cb, fb, zb⟩ := BX134.out
          go_simp
          refine hK.out _ _ (hS130.step ((Below.refl w17.heap.size v131).setCell (p := ⟨v84.heap.size, 0, none⟩) (by show w17.heap.size ≤ v84.heap.size; omega) _) hWA) (fun hS136 => ?_)
          clear hK K
          try simp only [List.getElem_toArray, List.getElem_cons_zero, List.getElem_cons_succ, Act.put, List.setIfInBounds_toArray, List.set_cons_zero, List.set_cons_succ]
          refine wpAnyH_take (i := 10) (v := .bool (P.pushOk d l)) rfl (by kernel_rfl) (by kernel_rfl) (by kernel_rfl) (fun _ _ _ h => h) (Or.inl ⟨by rfl, fun z hz => ?_⟩) hS136 ?_
          · obtain ⟨z1q, z2q⟩ := hz
            go_simp
          try simp only [List.getElem_toArray, List.getElem_cons_zero, List.getElem_cons_succ, Act.put, List.setIfInBounds_toArray, List.set_cons_zero, List.set_cons_succ]
          refine wpAnyH_done (by kernel_rfl) ?_ _
          go_wp2_with fail
          go_meet
          refine ⟨v84.heap.size, x132d, x132c, rfl, rfl, World.cell?_setCell_same _ _ _ cb, by omega, by simpa [World.setCell] using zb, ?_, HBW133.out.setCell (by show w17.heap.size ≤ v84.heap.size; omega) _⟩
          exact (RES135.out.stand (X := fun b => b = v84.heap.size) layE_ok ((Chg.refl (fun b => b = v84.heap.size) v131).setCell (p := ⟨v84.heap.size, 0, none⟩) rfl _) (fun b hb e => by have h1 := hb.1; have h2 := hb.2; omega)).wide (fun b hb => ⟨by have h1 := hb.1; omega, by have h1 := hb.2; simp only [World.setCell, Array.size_modify]; omega⟩) (fun b hb => hb.2)
      · skip
        go_simp
        have hb := (Below.refl v82.heap.size v82).alloc (Nat.le_refl _) (.cells #[.slice none 0 0] 56)
        have zv138 : v82.heap.size < (v82.alloc (.cells #[.slice none 0 0] 56)).heap.size := by simp
        refine hK.out _ _ (hS0.step (hb.mono HBW81.out.size) hWA) (fun hS137 => ?_)
        clear hK K
        have BX139 := Lib.hid (NBx.new v82 56)
        have HBW140 := Lib.hid (HBW81.out.trans (hb.mono HBW81.out.size))
        clear HBW81
        clear hb
        generalize v82.alloc (.cells #[.slice none 0 0] 56) = v138 at *
        try simp only [List.getElem_toArray, List.getElem_cons_zero, List.getElem_cons_succ, Act.put, List.setIfInBounds_toArray, List.set_cons_zero, List.set_cons_succ]
        refine wpAnyH_ready (rs := [1]) (by kernel_rfl) (by simp) ?_
        refine AllReadyH.cons rfl (fun K hK => ?_) AllReadyH.nil
        go_simp
        refine (toStack _ l _ (HU.out.below (HB_21.out.trans (HBW140.out.mono HB_21.out.size))) HSM.out.len HSM.out.each).mono ?_
        rintro e v142 ⟨u143, rfl, hI, hb⟩
        have zv142 : v138.heap.size ≤ v142.heap.size := hb.size
        refine hK.out _ _ (hS137.step (hb.mono HBW140.out.size) hWA) (fun hS141 => ?_)
        clear hK K
        have HBW144 := Lib.hid (HBW140.out.trans (hb.mono HBW140.out.size))
        have BX145 := Lib.hid (BX139.out.below hb)
        clear HBW140 BX139
        have U146 := Lib.hid (show Lays v142 (Bet v138.heap.size v142.heap.size) u143 l from hI)
        obtain ⟨u143d, u143c, rfl, _, _⟩ := hI
        clear hb
        try simp only [List.getElem_toArray, List.getElem_cons_zero, List.getElem_cons_succ, Act.put, List.setIfInBounds_toArray, List.set_cons_zero, List.set_cons_succ]
        refine wpAnyH_ready (rs := [3]) (by kernel_rfl) (by simp) ?_
        refine AllReadyH.cons rfl (fun K hK => ?_) AllReadyH.nil
        go_simp
        refine (toDictionary _ d _ (HV.out.below (HB_21.out.trans (HBW144.out.mono HB_21.out.size))) HSD.out.len HSD.out.outs).mono ?_
        rintro e v148 ⟨y149, rfl, hI, hb⟩
        have zv148 : v142.heap.size ≤ v148.heap.size := hb.size
        refine hK.out _ _ (hS141.step (hb.mono HBW144.out.size) hWA) (fun hS147 => ?_)
        clear hK K
        have HBW150 := Lib.hid (HBW144.out.trans (hb.mono HBW144.out.size))
        have U151 := Lib.hid (U146.out.below layE_ok hb)
        have BX152 := Lib.hid (BX145.out.below hb)
        clear HBW144 U146 BX145
        have V153 := Lib.hid (show Ents v148 (Bet v142.heap.size v148.heap.size) y149 d from hI)
        obtain ⟨y149d, y149c, rfl, _, _⟩ := hI
        clear hb
        try simp only [List.getElem_toArray, List.getElem_cons_zero, List.getElem_cons_succ, Act.put, List.setIfInBounds_toArray, List.set_cons_zero, List.set_cons_succ]
        refine wpAnyH_ready (rs := [4]) (by kernel_rfl) (by simp) ?_
        refine AllReadyH.cons rfl (fun K hK => ?_) AllReadyH.nil
        go_simp
        refine (impl_pushLayer _ _ l d _ (Lays.read U151.out) (Ents.read V153.out) HSM.out HSD.out (HE.out.below (HB_21.out.trans (HBW150.out.mono HB_21.out.size)) HE.out.size)).mono ?_
        rintro e v155 ⟨x156, rfl, hI, hb⟩
        have zv155 : v148.heap.size ≤ v155.heap.size := hb.size
        refine hK.out _ _ (hS147.step (hb.mono HBW150.out.size) hWA) (fun hS154 => ?_)
        clear hK K
        clear U151 V153
        have HBW157 := Lib.hid (HBW150.out.trans (hb.mono HBW150.out.size))
        have BX158 := Lib.hid (BX152.out.below hb)
        clear HBW150 BX152
        have RES159 := Lib.hid (show Lays v155 (Bet v148.heap.size v155.heap.size) x156 (P.keptL (P.pushOk d l) (P.push d l)) from hI)
        obtain ⟨x156d, x156c, rfl, _, _⟩ := hI
        clear hb
        try simp only [List.getElem_toArray, List.getElem_cons_zero, List.getElem_cons_succ, Act.put, List.setIfInBounds_toArray, List.set_cons_zero, List.set_cons_succ]
        refine wpAnyH_take (i := 5) (v := .tuple #[.agg #[.slice x156d (P.keptL (P.pushOk d l) (P.push d l)).length x156c], .bool (P.pushOk d l)]) rfl (by kernel_rfl) (by kernel_rfl) (by kernel_rfl) (fun _ _ _ h => h) (Or.inl ⟨by rfl, fun z hz => ?_⟩) hS154 ?_
        · obtain ⟨z1q, z2q⟩ := hz
          go_simp
        try simp only [List.getElem_toArray, List.getElem_cons_zero, List.getElem_cons_succ, Act.put, List.setIfInBounds_toArray, List.set_cons_zero, List.set_cons_succ]
        refine wpAnyH_take (i := 6) (v := .agg #[.slice x156d (P.keptL (P.pushOk d l) (P.push d l)).length x156c]) rfl (by kernel_rfl) (by kernel_rfl) (by kernel_rfl) (fun _ _ _ h => h) (Or.inl ⟨by rfl, fun z hz => ?_⟩) hS154 ?_
        · obtain ⟨z1q, z2q⟩ := hz
          go_simp
        try simp only [List.getElem_toArray, List.getElem_cons_zero, List.getElem_cons_succ, Act.put, List.setIfInBounds_toArray, List.set_cons_zero, List.set_cons_succ]
        refine wpAnyH_take (i := 7) (v := .bool (P.pushOk d l)) rfl (by kernel_rfl) (by kernel_rfl) (by kernel_rfl) (fun _ _ _ h => h) (Or.inl ⟨by rfl, fun z hz => ?_⟩) hS154 ?_
        · obtain ⟨z1q, z2q⟩ := hz
          go_simp
        try simp only [List.getElem_toArray, List.getElem_cons_zero, List.getElem_cons_succ, Act.put, List.setIfInBounds_toArray, List.set_cons_zero, List.set_cons_succ]
        refine wpAnyH_ready (rs := [9]) (by kernel_rfl) (by simp) ?_
        refine AllReadyH.cons rfl (fun K hK => ?_) AllReadyH.nil
        have zA := HBW157.out.size
        obtain ⟨cb, fb, zb⟩ := BX158.out
        go_simp
        refine hK.out _ _ (hS154.step ((Below.refl w17.heap.size v155).setCell (p := ⟨v82.heap.size, 0, none⟩) (by show w17.heap.size ≤ v82.heap.size; omega) _) hWA) (fun hS160 => ?_)
        clear hK K
        try simp only [List.getElem_toArray, List.getElem_cons_zero, List.getElem_cons_succ, Act.put, List.setIfInBounds_toArray, List.set_cons_zero, List.set_cons_succ]
        refine wpAnyH_take (i := 10) (v := .bool (P.pushOk d l)) rfl (by kernel_rfl) (by kernel_rfl) (by kernel_rfl) (fun _ _ _ h => h) (Or.inl ⟨by rfl, fun z hz => ?_⟩) hS160 ?_
        · obtain ⟨z1q, z2q⟩ := hz
          go_simp
        try simp only [List.getElem_toArray, List.getElem_cons_zero, List.getElem_cons_succ, Act.put, List.setIfInBounds_toArray, List.set_cons_zero, List.set_cons_succ]
        refine wpAnyH_done (by kernel_rfl) ?_ _
        go_wp2_with fail
        go_meet
        refine ⟨v82.heap.size, x156d, x156c, rfl, rfl, World.cell?_setCell_same _ _ _ cb, by omega, by simpa [World.setCell] using zb, ?_, HBW157.out.setCell (by show w17.heap.size ≤ v82.heap.size; omega) _⟩
        exact (RES159.out.stand (X := fun b => b = v82.heap.size) layE_ok ((Chg.refl (fun b => b = v82.heap.size) v155).setCell (p := ⟨v82.heap.size, 0, none⟩) rfl _) (fun b hb e => by have h1 := hb.1; have h2 := hb.2; omega)).wide (fun b hb => ⟨by have h1 := hb.1; omega, by have h1 := hb.2; simp only [World.setCell, Array.size_modify]; omega⟩) (fun b hb => hb.2)
    case rest =>
      obtain ⟨bh, hd, hc, rfl, rfl, c0, zbh, ybh, hl, hb⟩ := hcut
      have zw20 : w17.heap.size ≤ wc.heap.size := hb.size
      have HB_22 := Lib.hid (HB_21.out.trans (hb.mono HB_21.out.size))
      have A_22 := Lib.hid (A_21.out.below hb)
      have A2_22 := Lib.hid (A2_21.out.below hb)
      have sB_19 := Lib.hid (sB_18.out.below hb)
      have sL_19 := Lib.hid (sL_18.out.below layE_ok hb)
      have X0_17 := Lib.hid (X0_16.out.below hb)
      have X1_15 := Lib.hid (X1_14.out.below hb)
      have G0_13 := Lib.hid (G0_12.out.below hb)
      have M0_2 := Lib.hid (M0_1.out.below layE_ok hb)
      clear HB_21 A_21 A2_21 sB_18 sL_18 X0_16 X1_14 G0_12 M0_1 hb HS
      have hB_0 := Lib.hid (show Box1 bh (.slice hd (P.keptL (P.pushOk d l) (P.push d l)).length hc) wc from ⟨c0, ybh⟩)
      have hL_0 := Lib.hid (hl)
      clear c0 hl hWA
      generalize hww : wc = w20 at *
      obtain ⟨c_hB, _⟩ := hB_0.out
      obtain ⟨c_sB, _⟩ := sB_19.out
      go_wp2_with fail
      refine (eqStack _ _ (P.keptL (P.pushOk d l) (P.push d l)) _ (Lays.read hL_0.out) (Lays.read sL_19.out)).mono ?_
      rintro e w21 ⟨rfl, hb⟩
      clear c_hB c_sB
      have z21 : w20.heap.size ≤ w21.heap.size := by have := hb.size; simpa using this
      have HB_23 := Lib.hid (HB_22.out.trans (hb.mono HB_22.out.size))
      have A_23 := Lib.hid (A_22.out.below hb)
      have A2_23 := Lib.hid (A2_22.out.below hb)
      have sB_20 := Lib.hid (sB_19.out.below hb)
      have sL_20 := Lib.hid (sL_19.out.below layE_ok hb)
      have X0_18 := Lib.hid (X0_17.out.below hb)
      have X1_16 := Lib.hid (X1_15.out.below hb)
      have G0_14 := Lib.hid (G0_13.out.below hb)
      have M0_3 := Lib.hid (M0_2.out.below layE_ok hb)
      have hB_1 := Lib.hid (hB_0.out.below hb)
      have hL_1 := Lib.hid (hL_0.out.below layE_ok hb)
      clear HB_22 A_22 A2_22 sB_19 sL_19 X0_17 X1_15 G0_13 M0_2 hB_0 hL_0 hb
      obtain ⟨c_G0, _⟩ := G0_14.out
      have HKN := Lib.hid (show ¬ P.kAtL 1 (P.keptL (P.pushOk d l) (P.push d l)) < 0 by have := P.kAtL_ge 1 (P.keptL (P.pushOk d l) (P.push d l)); omega)
      go_wp2_with fail
      refine (heldStack _ (P.keptL (P.pushOk d l) (P.push d l)) 1 _ (Lays.read M0_3.out) (by decide) (HKK.out _)).mono ?_
      rintro e w22 ⟨rfl, hb⟩
      clear c_G0
      have hkn := HKN.out
      have z22 : w21.heap.size ≤ w22.heap.size := by have := hb.size; simpa using this
      have HB_24 := Lib.hid (HB_23.out.trans (hb.mono HB_23.out.size))
      have A_24 := Lib.hid (A_23.out.below hb)
      have A2_24 := Lib.hid (A2_23.out.below hb)
      have sB_21 := Lib.hid (sB_20.out.below hb)
      have sL_21 := Lib.hid (sL_20.out.below layE_ok hb)
      have X0_19 := Lib.hid (X0_18.out.below hb)
      have X1_17 := Lib.hid (X1_16.out.below hb)
      have G0_15 := Lib.hid (G0_14.out.below hb)
      have M0_4 := Lib.hid (M0_3.out.below layE_ok hb)
      have hB_2 := Lib.hid (hB_1.out.below hb)
      have hL_2 := Lib.hid (hL_1.out.below layE_ok hb)
      clear HB_23 A_23 A2_23 sB_20 sL_20 X0_18 X1_16 G0_14 M0_3 hB_1 hL_1 hb HKN
      go_wp2
      go_ret
      exact ⟨rfl, HB_24.out⟩
end Go.Proofs.YtfoajpehmbojbaaGreatDoor
