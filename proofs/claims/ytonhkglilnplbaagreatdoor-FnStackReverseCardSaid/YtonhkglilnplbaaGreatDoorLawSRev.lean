/- The law: the outlines of a text are those whose look-up gives the text. -/
import Derived.Deep.DeepCutAuto
import Derived.Test.YtonhkglilnplbaaGreatDoorCurE9
import Derived.Test.YtonhkglilnplbaaGreatDoorOFor1
import Derived.Test.YtonhkglilnplbaaGreatDoorRLists
import Derived.Test.YtonhkglilnplbaaGreatDoorLook1
set_option linter.all false
namespace Go.Proofs.YtonhkglilnplbaaGreatDoor
open Go Go.RowKit
set_option maxHeartbeats 4000000
set_option maxRecDepth 100000
theorem P.outs_look {t : Str} {l : P.Lays} {o : List Int} (h : o ∈ P.keptO (P.stack l) (P.outsFor t l)) : P.lookS o l = (t, P.layIdx o l, true) := by
  cases hs : P.stack l
  · rw [hs] at h; cases h
  · rw [hs] at h
    have hl := P.stack_layers hs
    have h2 : o ∈ P.outsOf t (P.flatS l) := h
    unfold P.outsOf at h2
    obtain ⟨e, he, rfl⟩ := List.mem_map.1 h2
    obtain ⟨he1, he2⟩ := List.mem_filter.1 he
    obtain ⟨h3, h4⟩ := P.seen_look hl ((P.flatS_seen (P.layers_pair hl)).1 he1)
    unfold P.lookS
    rw [hs, if_pos rfl, h3, h4]
    have : e.2 = t := by simpa using he2
    rw [this]
theorem law_stackReverse (v : Value) (w : World) (hc : CodeAny w v) (hE : Env w) :
    Calls Tryz.prog 5 #[v] w fun e w' => e = .returned (.bool true) ∧ Below w.heap.size w w' := by
  obtain ⟨ad, n, cap, rfl, hn, hr⟩ := hc
  have HE := Lib.hid hE
  clear hE
  go_enter Tryz.func5, Tryz.ntmps5
  go_wp2_with fail
  refine (rBig _ n ad cap rfl hn _).mono ?_
  rintro e w' ⟨rfl, rfl⟩
  cases hbig : decide (65536 < n)
  · have hn2 : n ≤ 65536 := by have := of_decide_eq_false hbig; omega
    go_wp2_with fail
    refine (drawOutlinesFor _ _ ⟨ad, n, cap, rfl, hn2, hr⟩).mono ?_
    rintro e w1 ⟨l, t, u, rfl, hdl, htl, hu, hb⟩
    have HDL := Lib.hid hdl
    have hba : Below w1.heap.size w1 (w1.alloc (.cells #[u] 52)) := (Below.refl _ _).alloc (Nat.le_refl _) _
    have HB := Lib.hid (hb.trans (hba.mono hb.size))
    have HU := Lib.hid (hu.below hba)
    have HX := Lib.hid (DBx.new u 52 w1)
    have HE1 := Lib.hid (HE.out.below HB.out HE.out.size)
    obtain ⟨ua, uc, rfl, hl45, _⟩ := hu
    clear hdl hba hb HE hbig hr
    go_wp2_with fail
    refine (impl_outlinesFor _ l t _ HU.out HDL.out.small HE1.out).mono ?_
    rintro e w2 ⟨x2, rfl, hO, hb⟩
    have HB2 := Lib.hid (HB.out.trans (hb.mono HB.out.size)); have HU2 := Lib.hid (HU.out.below hb); have HX2 := Lib.hid (HX.out.below hb); have HE2 := Lib.hid (HE1.out.below hb HE1.out.size)
    have HO2 := Lib.hid (OutsO.read hO)
    obtain ⟨xa, xc, rfl, hxl, _⟩ := (OutsO.read hO)
    clear hb HB HU HX HE1 hO
    obtain ⟨x0, _⟩ := HX2.out
    go_wp2_with fail
    refine (spec_outlinesFor _ l t _ HU2.out HDL.out.small).mono ?_
    rintro e w3 ⟨x3, rfl, hO, hb⟩
    have HB3 := Lib.hid (HB2.out.trans (hb.mono HB2.out.size)); have HU3 := Lib.hid (HU2.out.below hb); have HX3 := Lib.hid (HX2.out.below hb); have HE3 := Lib.hid (HE2.out.below hb HE2.out.size)
    have HO3 := Lib.hid (HO2.out.below hb); have HP3 := Lib.hid (OutsO.read hO)
    obtain ⟨ya, yc, rfl, _, _⟩ := (OutsO.read hO)
    clear hb HB2 HU2 HX2 HE2 HO2 hO x0
    go_wp2_with fail
    refine (rLists _ _ (P.keptO (P.stack l) (P.outsFor t l)) _ HO3.out HP3.out).mono ?_
    rintro e w4 ⟨rfl, hb⟩
    have HB4 := Lib.hid (HB3.out.trans (hb.mono HB3.out.size)); have HU4 := Lib.hid (HU3.out.below hb); have HX4 := Lib.hid (HX3.out.below hb); have HE4 := Lib.hid (HE3.out.below hb HE3.out.size)
    have HO4 := Lib.hid (HO3.out.below hb)
    clear hb HB3 HU3 HX3 HE3 HO3 HP3
    have HLK := Lib.hid (fun o (ho : o ∈ P.keptO (P.stack l) (P.outsFor t l)) => P.outs_look ho)
    generalize P.keptO (P.stack l) (P.outsFor t l) = os at *
    go_wp2_with fail
    go_loopw [9] (fun i wr => ∃ j : Nat, j ≤ os.length ∧ i = .int .i64 j ∧ Below w4.heap.size w4 wr) (fun i _ => os.length - (intOf i).toNat)
    case atStart => exact ⟨0, Nat.zero_le _, rfl, Below.refl _ _⟩
    case round =>
      obtain ⟨j, hj, rfl, hb⟩ := hrel
      have HBR := Lib.hid hb
      by_cases hlt : j < os.length
      · obtain ⟨g, p, hga, hgl, x, c0, hx⟩ := (HO4.out.below hb).at j hlt
        subst hga
        have HXR := Lib.hid (hx.below (Below.refl wr.heap.size wr).drew)
        have HUR := Lib.hid (HU4.out.below (hb.trans ((Below.refl wr.heap.size wr).drew.mono hb.size))); have HER := Lib.hid (HE4.out.below (hb.trans ((Below.refl wr.heap.size wr).drew.mono hb.size)) HE4.out.size)
        have hbx := (HX4.out.below hb).below (Below.refl wr.heap.size wr).drew
        have HBD := Lib.hid (hb.trans ((Below.refl wr.heap.size wr).drew.mono hb.size))
        have hlk := HLK.out os[j] (List.getElem_mem hlt)
        have HS := Lib.hid (show wr.drew.cell? ⟨w1.heap.size, 0, none⟩ = some (.slice ua l.length uc) ∧ wr.drew.cell? ⟨g, p + j, none⟩ = some x ∧ w1.heap.size < wr.drew.heap.size ∧ g < wr.drew.heap.size from ⟨hbx.1, ((Below.refl wr.heap.size wr).drew.cell (p := ⟨g, p + j, none⟩) hgl).trans c0, hbx.2.2, hgl⟩)
        obtain ⟨xd, xcc, rfl, _, _⟩ := hx
        generalize os[j] = o at *
        have HL := Lib.hid hlk
        clear hb hbx hlk c0 hgl
        have i1 : (j : Int) < (os.length : Int) := by omega
        go_upto_region 11 with fail
        refine wp_region_held_drew (S := fun v => v.cell? ⟨w1.heap.size, 0, none⟩ = some (.slice ua l.length uc) ∧ v.cell? ⟨g, p + j, none⟩ = some (.slice xd o.length xcc) ∧ w1.heap.size < v.heap.size ∧ g < v.heap.size) (by kernel_rfl) HS.out (fun hS0 => ?_)
        generalize wr.drew = v0 at *
        refine wpAnyH_take (i := 0) (v := .agg #[.slice ua l.length uc]) rfl (by kernel_rfl) (by kernel_rfl) (by kernel_rfl) (fun _ _ _ h => h) (Or.inl ⟨by rfl, fun z hz => ?_⟩) hS0 ?_
        · obtain ⟨z1, z2, z3, z4⟩ := hz
          go_simp
        try simp only [List.getElem_toArray, List.getElem_cons_zero, Act.put, List.setIfInBounds_toArray, List.set_cons_zero, List.set_cons_succ]
        refine wpAnyH_take (i := 1) (v := .slice (some ⟨g, p, none⟩) os.length xc) rfl (by kernel_rfl) (by kernel_rfl) (by kernel_rfl) (fun _ _ _ h => h) (Or.inl ⟨by rfl, fun z hz => ?_⟩) hS0 ?_
        · obtain ⟨z1, z2, z3, z4⟩ := hz
          go_simp
        try simp only [List.getElem_toArray, List.getElem_cons_zero, List.getElem_cons_succ, Act.put, List.setIfInBounds_toArray, List.set_cons_zero, List.set_cons_succ]
        refine wpAnyH_take (i := 2) (v := .int .i64 j) rfl (by kernel_rfl) (by kernel_rfl) (by kernel_rfl) (fun _ _ _ h => h) (Or.inl ⟨by rfl, fun z hz => ?_⟩) hS0 ?_
        · obtain ⟨z1, z2, z3, z4⟩ := hz
          go_simp
        try simp only [List.getElem_toArray, List.getElem_cons_zero, List.getElem_cons_succ, Act.put, List.setIfInBounds_toArray, List.set_cons_zero, List.set_cons_succ]
        refine wpAnyH_take (i := 3) (v := .pointer (some ⟨g, p + j, none⟩)) rfl (by kernel_rfl) (by kernel_rfl) (by kernel_rfl) (fun _ _ _ h => h) (Or.inl ⟨by rfl, fun z hz => ?_⟩) hS0 ?_
        · obtain ⟨z1, z2, z3, z4⟩ := hz
          go_simp
        try simp only [List.getElem_toArray, List.getElem_cons_zero, List.getElem_cons_succ, Act.put, List.setIfInBounds_toArray, List.set_cons_zero, List.set_cons_succ]
        refine wpAnyH_take (i := 4) (v := .slice xd o.length xcc) rfl (by kernel_rfl) (by kernel_rfl) (by kernel_rfl) (fun _ _ _ h => h) (Or.inl ⟨by rfl, fun z hz => ?_⟩) hS0 ?_
        · obtain ⟨z1, z2, z3, z4⟩ := hz
          go_simp
        try simp only [List.getElem_toArray, List.getElem_cons_zero, List.getElem_cons_succ, Act.put, List.setIfInBounds_toArray, List.set_cons_zero, List.set_cons_succ]
        refine wpAnyH_ready (rs := [5]) (by kernel_rfl) (by simp) ?_
        refine AllReadyH.cons rfl (fun K hK => ?_) AllReadyH.nil
        go_simp
        refine (impl_lookupStack _ _ l o _ HUR.out HXR.out HDL.out.small HER.out).mono ?_
        rintro e v1 ⟨rfl, hb⟩
        rw [HL.out]
        have HB5 := Lib.hid (HBD.out.trans (hb.mono HBD.out.size))
        refine hK.out _ _ ⟨(hb.cell (p := ⟨w1.heap.size, 0, none⟩) hS0.2.2.1).trans hS0.1, (hb.cell (p := ⟨g, p + j, none⟩) hS0.2.2.2).trans hS0.2.1, Nat.lt_of_lt_of_le hS0.2.2.1 hb.size, Nat.lt_of_lt_of_le hS0.2.2.2 hb.size⟩ (fun hS1 => ?_)
        clear hK K hb
        try simp only [List.getElem_toArray, List.getElem_cons_zero, List.getElem_cons_succ, Act.put, List.setIfInBounds_toArray, List.set_cons_zero, List.set_cons_succ]
        refine wpAnyH_take (i := 6) (v := .tuple #[.string (S t), .int .i64 (P.layIdx o l), .bool true]) rfl (by kernel_rfl) (by kernel_rfl) (by kernel_rfl) (fun _ _ _ h => h) (Or.inl ⟨by rfl, fun z hz => ?_⟩) hS1 ?_
        · obtain ⟨z1, z2, z3, z4⟩ := hz
          go_simp
        try simp only [List.getElem_toArray, List.getElem_cons_zero, List.getElem_cons_succ, Act.put, List.setIfInBounds_toArray, List.set_cons_zero, List.set_cons_succ]
        refine wpAnyH_take (i := 7) (v := .string (S t)) rfl (by kernel_rfl) (by kernel_rfl) (by kernel_rfl) (fun _ _ _ h => h) (Or.inl ⟨by rfl, fun z hz => ?_⟩) hS1 ?_
        · obtain ⟨z1, z2, z3, z4⟩ := hz
          go_simp
        try simp only [List.getElem_toArray, List.getElem_cons_zero, List.getElem_cons_succ, Act.put, List.setIfInBounds_toArray, List.set_cons_zero, List.set_cons_succ]
        refine wpAnyH_take (i := 8) (v := .int .i64 (P.layIdx o l)) rfl (by kernel_rfl) (by kernel_rfl) (by kernel_rfl) (fun _ _ _ h => h) (Or.inl ⟨by rfl, fun z hz => ?_⟩) hS1 ?_
        · obtain ⟨z1, z2, z3, z4⟩ := hz
          go_simp
        try simp only [List.getElem_toArray, List.getElem_cons_zero, List.getElem_cons_succ, Act.put, List.setIfInBounds_toArray, List.set_cons_zero, List.set_cons_succ]
        refine wpAnyH_take (i := 9) (v := .bool true) rfl (by kernel_rfl) (by kernel_rfl) (by kernel_rfl) (fun _ _ _ h => h) (Or.inl ⟨by rfl, fun z hz => ?_⟩) hS1 ?_
        · obtain ⟨z1, z2, z3, z4⟩ := hz
          go_simp
        try simp only [List.getElem_toArray, List.getElem_cons_zero, List.getElem_cons_succ, Act.put, List.setIfInBounds_toArray, List.set_cons_zero, List.set_cons_succ]
        refine wpAnyH_take (i := 10) (v := .string (S t)) rfl (by kernel_rfl) (by kernel_rfl) (by kernel_rfl) (fun _ _ _ h => h) (Or.inl ⟨by rfl, fun z hz => ?_⟩) hS1 ?_
        · obtain ⟨z1, z2, z3, z4⟩ := hz
          go_simp
        try simp only [List.getElem_toArray, List.getElem_cons_zero, List.getElem_cons_succ, Act.put, List.setIfInBounds_toArray, List.set_cons_zero, List.set_cons_succ]
        refine wpAnyH_take (i := 11) (v := .int .i64 (P.layIdx o l)) rfl (by kernel_rfl) (by kernel_rfl) (by kernel_rfl) (fun _ _ _ h => h) (Or.inl ⟨by rfl, fun z hz => ?_⟩) hS1 ?_
        · obtain ⟨z1, z2, z3, z4⟩ := hz
          go_simp
        try simp only [List.getElem_toArray, List.getElem_cons_zero, List.getElem_cons_succ, Act.put, List.setIfInBounds_toArray, List.set_cons_zero, List.set_cons_succ]
        refine wpAnyH_take (i := 12) (v := .bool true) rfl (by kernel_rfl) (by kernel_rfl) (by kernel_rfl) (fun _ _ _ h => h) (Or.inl ⟨by rfl, fun z hz => ?_⟩) hS1 ?_
        · obtain ⟨z1, z2, z3, z4⟩ := hz
          go_simp
        try simp only [List.getElem_toArray, List.getElem_cons_zero, List.getElem_cons_succ, Act.put, List.setIfInBounds_toArray, List.set_cons_zero, List.set_cons_succ]
        refine wpAnyH_done (by kernel_rfl) ?_ _
        clear hS0 hS1
        go_wp2
        go_roundw
        case rel => exact ⟨j + 1, by omega, by go_num, HB5.out⟩
        case measure => simp [intOf]; omega
      · clear hb
        go_wp2
        go_ret
        exact ⟨rfl, HB4.out.trans (HBR.out.mono HB4.out.size)⟩
  · have hn2 := of_decide_eq_true hbig
    go_wp2
    go_ret
    exact ⟨rfl, Below.refl _ _⟩
end Go.Proofs.YtonhkglilnplbaaGreatDoor
