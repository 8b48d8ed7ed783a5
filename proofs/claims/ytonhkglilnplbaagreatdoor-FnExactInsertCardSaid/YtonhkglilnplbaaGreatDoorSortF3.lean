/- Walks: the library's insertion sort, on any row of entries. -/
import Derived.Deep.DeepCutAuto
import Derived.BigRegion
import Derived.IntWalk
import Derived.Test.YtonhkglilnplbaaGreatDoorSortF2
namespace Go.Proofs.YtonhkglilnplbaaGreatDoor
open Go Go.RowKit
set_option maxHeartbeats 4000000
set_option maxRecDepth 100000
/-- two items of a row, as a comparison reads them -/
theorem RowI.two {v : World} {F : Blk} {g o : Nat} {its : List It} (h : RowI v F g o its) (i j : Nat) (hi : i < its.length) (hj : j < its.length) :
    ∃ xd xc yd yc, (its[i]'hi).x = .slice xd (its[i]'hi).e.1.length xc ∧ (its[j]'hj).x = .slice yd (its[j]'hj).e.1.length yc ∧ KC v.heap.size v g (o + i * 2) (its[i]'hi).x (its[i]'hi).e.1 (its[i]'hi).e.2 (o + j * 2) (its[j]'hj).x (its[j]'hj).e.1 (its[j]'hj).e.2 v := by
  have a0 := (h.cel i hi 0 (by simp [It.cs])).1
  have a1 := (h.cel i hi 1 (by simp [It.cs])).1
  have b0 := (h.cel j hj 0 (by simp [It.cs])).1
  have b1 := (h.cel j hj 1 (by simp [It.cs])).1
  have ei := h.el _ (List.getElem_mem hi)
  have ej := h.el _ (List.getElem_mem hj)
  have ri := Ints.read ei
  have rj := Ints.read ej
  obtain ⟨xd, xc, hx, _⟩ := ei
  obtain ⟨yd, yc, hy, _⟩ := ej
  exact ⟨xd, xc, yd, yc, hx, hy, by simpa [It.cs] using a0, by simpa [It.cs] using a1, by simpa [It.cs] using b0, by simpa [It.cs] using b1, h.lt _ h.own, ri, rj, Nat.le_refl _, Below.refl _ _⟩
/-- may be written -/
theorem RowI.soft {v : World} {F : Blk} {g o : Nat} {its : List It} (h : RowI v F g o its) (i : Nat) (hi : i < its.length) : v.frozen? ⟨g, o + i * 2, none⟩ = false ∧ v.frozen? ⟨g, o + i * 2 + 1, none⟩ = false :=
  ⟨(h.cel i hi 0 (by simp [It.cs])).2, (h.cel i hi 1 (by simp [It.cs])).2⟩
theorem insertion_full (its : List It) (F : Blk) (g o cap a b : Nat) (w : World) (h : RowI w F g o its) (hl : its.length ≤ 2 ^ 30) (hab : a ≤ b) (hb : b ≤ its.length) :
    Calls Tryz.prog 202 #[.slice (some ⟨g, o, none⟩) its.length cap, .int .i64 a, .int .i64 b, byF] w fun e w' => e = .returned (.tuple #[]) ∧ ∃ its', PermOn a b its its' ∧ SortedOn a b its' ∧ RowI w' F g o its' ∧ Chg (fun b => b = g) w w' := by
  have HH := Lib.hid h; clear h
  go_enter Tryz.func202, Tryz.ntmps202
  go_wp2
  go_loopw [8] (fun i wr => ∃ (j : Nat) (m : List It), a + 1 ≤ j ∧ (j ≤ b ∨ j = a + 1) ∧ i = .int .i64 j ∧ PermOn a b its m ∧ SortedOn a j m ∧ RowI wr F g o m ∧ Chg (fun b => b = g) w wr) (fun i _ => b - (intOf i).toNat)
  case atStart => exact ⟨a + 1, its, Nat.le_refl _, .inr rfl, by go_num, PermOn.refl _ _ _, (fun i j x y h1 h2 h3 => by omega), HH.out, Chg.refl _ _⟩
  case round =>
    obtain ⟨j, m, hj1, hj2, rfl, hp, hs, hr, hc⟩ := hrel
    have HP := Lib.hid hp; have HS := Lib.hid hs; have HR := Lib.hid hr; have HC := Lib.hid hc
    have HLM := Lib.hid hp.len
    clear hp hs hr hc HH
    by_cases hlt : j < b
    · go_wp2_with fail
      go_loopw [9] (fun i wr => ∃ (k : Nat) (m : List It), a ≤ k ∧ k ≤ j ∧ i = .int .i64 k ∧ PermOn a b its m ∧ HoleAt a k j m ∧ RowI wr F g o m ∧ Chg (fun b => b = g) w wr) (fun i _ => (intOf i).toNat)
      case atStart => exact ⟨j, m, by omega, Nat.le_refl _, rfl, HP.out, HoleAt.start HS.out, HR.out, HC.out⟩
      case round =>
        clear HP HS HR HC HLM
        obtain ⟨k, m2, hk1, hk2, rfl, hp, hh, hr, hc⟩ := hrel
        have HP := Lib.hid hp; have HO := Lib.hid hh; have HR := Lib.hid hr; have HC := Lib.hid hc
        have hlm : m2.length = its.length := hp.len
        have hkl : k < m2.length := by omega
        by_cases hak : a < k
        · obtain ⟨xd, xc, yd, yc, hx, hy, hkc⟩ := hr.two k (k - 1) hkl (by omega)
          have HSTEP := Lib.hid (fun h => hh.step hak hk2 hkl h)
          have HDONE := Lib.hid (fun h => hh.done1 hak hk2 hkl h)
          have HSW := Lib.hid (fun (v : World) (h : RowI v F g o m2) => h.swap k (k - 1) hkl (by omega) (by omega))
          have HPS := Lib.hid (PermOn.swap m2 k (k - 1) hkl (by omega) (a := a) (b := b) (by omega) (by omega))
          clear hp hh hr hc
          generalize m2[k] = en at *
          generalize (m2[k - 1]'(by omega)) = fn at *
          obtain ⟨x, Gx, eo, et⟩ := en
          obtain ⟨y, Gy, fo, ft⟩ := fn
          simp only at hx hy hkc HSTEP HDONE HSW
          subst hx hy
          have HKC := Lib.hid hkc
          have hsS := hkc.step (Below.refl _ _).drew
          clear hkc
          have h1 : (a : Int) < (k : Int) := by omega
          have h2 : (k : Int) < (its.length : Int) := by omega
          have hk3 : 0 < k := by omega
          have hk4 : 1 ≤ (k : Int) := by omega
          have hw1 : IntKind.i64.wrap ((k : Int) - 1) = (k : Int) - 1 := IntWalk.i64_in _ (by omega)
          have hn3 : ¬ (its.length : Int) ≤ (k : Int) - 1 := by omega
          go_upto_region 4 with fail
          refine wp_region_held_drew (S := KC wr.heap.size wr g (o + k * 2) (.slice xd eo.length xc) eo et (o + (k - 1) * 2) (.slice yd fo.length yc) fo ft) (by kernel_rfl) hsS (fun hS0 => ?_)
          clear hsS
          refine wpAnyH_take (i := 0) (v := .int .i64 k) rfl (by kernel_rfl) (by kernel_rfl) (by kernel_rfl) (fun _ _ _ h => h) (Or.inl ⟨by rfl, fun z hz => ?_⟩) hS0 ?_
          · obtain ⟨z1, z2, z3, z4, z5, z6⟩ := hz
            go_simp
          try simp only [List.getElem_toArray, List.getElem_cons_zero, Act.put, List.setIfInBounds_toArray, List.set_cons_zero, List.set_cons_succ]
          refine wpAnyH_take (i := 1) (v := .int .i64 a) rfl (by kernel_rfl) (by kernel_rfl) (by kernel_rfl) (fun _ _ _ h => h) (Or.inl ⟨by rfl, fun z hz => ?_⟩) hS0 ?_
          · obtain ⟨z1, z2, z3, z4, z5, z6⟩ := hz
            go_simp
          try simp only [List.getElem_toArray, List.getElem_cons_zero, List.getElem_cons_succ, Act.put, List.setIfInBounds_toArray, List.set_cons_zero, List.set_cons_succ]
          refine wpAnyH_take (i := 2) (v := .bool true) rfl (by kernel_rfl) (by kernel_rfl) (by kernel_rfl) (fun _ _ _ h => h) (Or.inl ⟨by rfl, fun z hz => ?_⟩) hS0 ?_
          · obtain ⟨z1, z2, z3, z4, z5, z6⟩ := hz
            go_simp
          try simp only [List.getElem_toArray, List.getElem_cons_zero, List.getElem_cons_succ, Act.put, List.setIfInBounds_toArray, List.set_cons_zero, List.set_cons_succ]
          refine wpAnyH_take (i := 3) (v := .bool true) rfl (by kernel_rfl) (by kernel_rfl) (by kernel_rfl) (fun _ _ _ h => h) (Or.inl ⟨by rfl, fun z hz => ?_⟩) hS0 ?_
          · obtain ⟨z1, z2, z3, z4, z5, z6⟩ := hz
            go_simp
          try simp only [List.getElem_toArray, List.getElem_cons_zero, List.getElem_cons_succ, Act.put, List.setIfInBounds_toArray, List.set_cons_zero, List.set_cons_succ]
          refine wpAnyH_take (i := 4) (v := byF) rfl (by kernel_rfl) (by kernel_rfl) (by kernel_rfl) (fun _ _ _ h => h) (Or.inl ⟨by rfl, fun z hz => ?_⟩) hS0 ?_
          · obtain ⟨z1, z2, z3, z4, z5, z6⟩ := hz
            go_simp
          try simp only [List.getElem_toArray, List.getElem_cons_zero, List.getElem_cons_succ, Act.put, List.setIfInBounds_toArray, List.set_cons_zero, List.set_cons_succ]
          refine wpAnyH_take (i := 5) (v := .slice (some ⟨g, o, none⟩) its.length cap) rfl (by kernel_rfl) (by kernel_rfl) (by kernel_rfl) (fun _ _ _ h => h) (Or.inl ⟨by rfl, fun z hz => ?_⟩) hS0 ?_
          · obtain ⟨z1, z2, z3, z4, z5, z6⟩ := hz
            go_simp
          try simp only [List.getElem_toArray, List.getElem_cons_zero, List.getElem_cons_succ, Act.put, List.setIfInBounds_toArray, List.set_cons_zero, List.set_cons_succ]
          refine wpAnyH_take (i := 6) (v := .int .i64 k) rfl (by kernel_rfl) (by kernel_rfl) (by kernel_rfl) (fun _ _ _ h => h) (Or.inl ⟨by rfl, fun z hz => ?_⟩) hS0 ?_
          · obtain ⟨z1, z2, z3, z4, z5, z6⟩ := hz
            go_simp
          try simp only [List.getElem_toArray, List.getElem_cons_zero, List.getElem_cons_succ, Act.put, List.setIfInBounds_toArray, List.set_cons_zero, List.set_cons_succ]
          refine wpAnyH_take (i := 7) (v := .pointer (some ⟨g, o + k * 2, none⟩)) rfl (by kernel_rfl) (by kernel_rfl) (by kernel_rfl) (fun _ _ _ h => h) (Or.inl ⟨by rfl, fun z hz => ?_⟩) hS0 ?_
          · obtain ⟨z1, z2, z3, z4, z5, z6⟩ := hz
            go_simp
          try simp only [List.getElem_toArray, List.getElem_cons_zero, List.getElem_cons_succ, Act.put, List.setIfInBounds_toArray, List.set_cons_zero, List.set_cons_succ]
          refine wpAnyH_take (i := 8) (v := .agg #[.slice xd eo.length xc, .string (S et)]) rfl (by kernel_rfl) (by kernel_rfl) (by kernel_rfl) (fun _ _ _ h => h) (Or.inl ⟨by rfl, fun z hz => ?_⟩) hS0 ?_
          · obtain ⟨z1, z2, z3, z4, z5, z6⟩ := hz
            go_simp
          try simp only [List.getElem_toArray, List.getElem_cons_zero, List.getElem_cons_succ, Act.put, List.setIfInBounds_toArray, List.set_cons_zero, List.set_cons_succ]
          refine wpAnyH_take (i := 9) (v := .slice (some ⟨g, o, none⟩) its.length cap) rfl (by kernel_rfl) (by kernel_rfl) (by kernel_rfl) (fun _ _ _ h => h) (Or.inl ⟨by rfl, fun z hz => ?_⟩) hS0 ?_
          · obtain ⟨z1, z2, z3, z4, z5, z6⟩ := hz
            go_simp
          try simp only [List.getElem_toArray, List.getElem_cons_zero, List.getElem_cons_succ, Act.put, List.setIfInBounds_toArray, List.set_cons_zero, List.set_cons_succ]
          refine wpAnyH_take (i := 10) (v := .int .i64 k) rfl (by kernel_rfl) (by kernel_rfl) (by kernel_rfl) (fun _ _ _ h => h) (Or.inl ⟨by rfl, fun z hz => ?_⟩) hS0 ?_
          · obtain ⟨z1, z2, z3, z4, z5, z6⟩ := hz
            go_simp
          try simp only [List.getElem_toArray, List.getElem_cons_zero, List.getElem_cons_succ, Act.put, List.setIfInBounds_toArray, List.set_cons_zero, List.set_cons_succ]
          refine wpAnyH_take (i := 11) (v := .int .i64 ((k : Int) - 1)) rfl (by kernel_rfl) (by kernel_rfl) (by kernel_rfl) (fun _ _ _ h => h) (Or.inl ⟨by rfl, fun z hz => ?_⟩) hS0 ?_
          · obtain ⟨z1, z2, z3, z4, z5, z6⟩ := hz
            go_simp
          try simp only [List.getElem_toArray, List.getElem_cons_zero, List.getElem_cons_succ, Act.put, List.setIfInBounds_toArray, List.set_cons_zero, List.set_cons_succ]
          refine wpAnyH_take (i := 12) (v := .pointer (some ⟨g, o + (k - 1) * 2, none⟩)) rfl (by kernel_rfl) (by kernel_rfl) (by kernel_rfl) (fun _ _ _ h => h) (Or.inl ⟨by rfl, fun z hz => ?_⟩) hS0 ?_
          · obtain ⟨z1, z2, z3, z4, z5, z6⟩ := hz
            go_simp
          try simp only [List.getElem_toArray, List.getElem_cons_zero, List.getElem_cons_succ, Act.put, List.setIfInBounds_toArray, List.set_cons_zero, List.set_cons_succ]
          refine wpAnyH_take (i := 13) (v := .agg #[.slice yd fo.length yc, .string (S ft)]) rfl (by kernel_rfl) (by kernel_rfl) (by kernel_rfl) (fun _ _ _ h => h) (Or.inl ⟨by rfl, fun z hz => ?_⟩) hS0 ?_
          · obtain ⟨z1, z2, z3, z4, z5, z6⟩ := hz
            go_simp
          try simp only [List.getElem_toArray, List.getElem_cons_zero, List.getElem_cons_succ, Act.put, List.setIfInBounds_toArray, List.set_cons_zero, List.set_cons_succ]
          refine wpAnyH_ready (rs := [14]) (by kernel_rfl) (by simp) ?_
          refine AllReadyH.cons rfl (fun K hK => ?_) AllReadyH.nil
          have HX := Lib.hid hS0.2.2.2.2.2.1
          have HY := Lib.hid hS0.2.2.2.2.2.2.1
          have HS1 := Lib.hid hS0
          go_simp
          refine (byOutline _ _ eo fo et ft _ HX.out HY.out).mono ?_
          rintro e v ⟨rfl, hb⟩
          refine hK.out _ _ (HS1.out.step hb) (fun hS1 => ?_)
          clear hK K hb
          try simp only [List.getElem_toArray, List.getElem_cons_zero, List.getElem_cons_succ, Act.put, List.setIfInBounds_toArray, List.set_cons_zero, List.set_cons_succ]
          have HBV := Lib.hid hS1.2.2.2.2.2.2.2.2
          have HRV := Lib.hid (HR.out.below HBV.out)
          have HCV := Lib.hid (HC.out.trans (Below.chg HBV.out _))
          by_cases hcmp : P.cmp eo fo < 0
          · have HCM := Lib.hid hcmp
            refine wpAnyH_take (i := 15) (v := .bool true) rfl (by kernel_rfl) (by kernel_rfl) (by kernel_rfl) (fun _ _ _ h => h) (Or.inl ⟨by rfl, fun z hz => ?_⟩) hS1 ?_
            · obtain ⟨z1, z2, z3, z4, z5, z6⟩ := hz
              go_simp
            try simp only [List.getElem_toArray, List.getElem_cons_zero, List.getElem_cons_succ, Act.put, List.setIfInBounds_toArray, List.set_cons_zero, List.set_cons_succ]
            refine wpAnyH_take (i := 16) (v := .bool true) rfl (by kernel_rfl) (by kernel_rfl) (by kernel_rfl) (fun _ _ _ h => h) (Or.inl ⟨by rfl, fun z hz => ?_⟩) hS1 ?_
            · obtain ⟨z1, z2, z3, z4, z5, z6⟩ := hz
              go_simp
            try simp only [List.getElem_toArray, List.getElem_cons_zero, List.getElem_cons_succ, Act.put, List.setIfInBounds_toArray, List.set_cons_zero, List.set_cons_succ]
            refine wpAnyH_done (by kernel_rfl) ?_ _
            obtain ⟨c1, c2, c3, c4, c5, _⟩ := hS1
            obtain ⟨f1, f2⟩ := HRV.out.soft k hkl
            obtain ⟨f3, f4⟩ := HRV.out.soft (k - 1) (by omega)
            clear hS0 HS1 HBV HDONE hcmp HX HY HKC HR HC
            generalize HVV : v = vv at *
            go_upto_region 6 with fail
            go_region
            obtain ⟨hr3, hc3⟩ := HSW.out vv HRV.out
            have hd := (Below.refl (swapW vv g o k (k - 1) ⟨.slice xd eo.length xc, Gx, (eo, et)⟩ ⟨.slice yd fo.length yc, Gy, (fo, ft)⟩).heap.size (swapW vv g o k (k - 1) ⟨.slice xd eo.length xc, Gx, (eo, et)⟩ ⟨.slice yd fo.length yc, Gy, (fo, ft)⟩)).drew
            have HR3 := Lib.hid (hr3.below hd)
            have HC3 := Lib.hid ((HCV.out.trans hc3).trans (Below.chg hd _))
            have HS3 := Lib.hid (HSTEP.out HCM.out)
            have HP3 := Lib.hid (HP.out.trans HPS.out)
            clear hr3 hc3 hd HSTEP HSW HPS HP HRV HCV c1 c2 c3 c4 c5 f1 f2 f3 f4
            change Exit.inBlock _ _ _ _ (swapW vv g o k (k - 1) ⟨.slice xd eo.length xc, Gx, (eo, et)⟩ ⟨.slice yd fo.length yc, Gy, (fo, ft)⟩).drew
            generalize (swapW vv g o k (k - 1) ⟨.slice xd eo.length xc, Gx, (eo, et)⟩ ⟨.slice yd fo.length yc, Gy, (fo, ft)⟩).drew = v3 at *
            generalize swapI m2 k (k - 1) hkl _ = m3 at *
            go_wp2
            go_roundw
            case rel => exact ⟨k - 1, m3, by omega, by omega, by go_num, HP3.out, HS3.out, HR3.out, HC3.out⟩
            case measure => simp [intOf]; omega
          · skip
            refine wpAnyH_take (i := 15) (v := .bool false) rfl (by kernel_rfl) (by kernel_rfl) (by kernel_rfl) (fun _ _ _ h => h) (Or.inl ⟨by rfl, fun z hz => ?_⟩) hS1 ?_
            · obtain ⟨z1, z2, z3, z4, z5, z6⟩ := hz
              go_simp
            try simp only [List.getElem_toArray, List.getElem_cons_zero, List.getElem_cons_succ, Act.put, List.setIfInBounds_toArray, List.set_cons_zero, List.set_cons_succ]
            refine wpAnyH_take (i := 16) (v := .bool false) rfl (by kernel_rfl) (by kernel_rfl) (by kernel_rfl) (fun _ _ _ h => h) (Or.inl ⟨by rfl, fun z hz => ?_⟩) hS1 ?_
            · obtain ⟨z1, z2, z3, z4, z5, z6⟩ := hz
              go_simp
            try simp only [List.getElem_toArray, List.getElem_cons_zero, List.getElem_cons_succ, Act.put, List.setIfInBounds_toArray, List.set_cons_zero, List.set_cons_succ]
            refine wpAnyH_done (by kernel_rfl) ?_ _
            have HSO := Lib.hid (HDONE.out hcmp)
            clear hS0 HS1 hS1 HSTEP hcmp HX HY HKC HR HC HBV
            go_wp2
            go_roundw
            case rel => exact ⟨j + 1, m2, by omega, .inl (by omega), by go_num, HP.out, HSO.out, HRV.out, HCV.out⟩
            case measure => simp [intOf]; omega
        · have hka : k = a := by omega
          subst hka
          have HSO := Lib.hid hh.done0
          have h1 : ¬ (k : Int) < (k : Int) := by omega
          clear hp hh hr hc
          go_upto_region 4 with fail
          refine wp_region_held_drew (S := fun _ => True) (by kernel_rfl) trivial (fun hS0 => ?_)
          refine wpAnyH_take (i := 0) (v := .int .i64 k) rfl (by kernel_rfl) (by kernel_rfl) (by kernel_rfl) (fun _ _ _ h => h) (Or.inl ⟨by rfl, fun z hz => ?_⟩) hS0 ?_
          · obtain z1 := hz
            go_simp
          try simp only [List.getElem_toArray, List.getElem_cons_zero, Act.put, List.setIfInBounds_toArray, List.set_cons_zero, List.set_cons_succ]
          refine wpAnyH_take (i := 1) (v := .int .i64 k) rfl (by kernel_rfl) (by kernel_rfl) (by kernel_rfl) (fun _ _ _ h => h) (Or.inl ⟨by rfl, fun z hz => ?_⟩) hS0 ?_
          · obtain z1 := hz
            go_simp
          try simp only [List.getElem_toArray, List.getElem_cons_zero, List.getElem_cons_succ, Act.put, List.setIfInBounds_toArray, List.set_cons_zero, List.set_cons_succ]
          refine wpAnyH_take (i := 2) (v := .bool false) rfl (by kernel_rfl) (by kernel_rfl) (by kernel_rfl) (fun _ _ _ h => h) (Or.inl ⟨by rfl, fun z hz => ?_⟩) hS0 ?_
          · obtain z1 := hz
            go_simp
          try simp only [List.getElem_toArray, List.getElem_cons_zero, List.getElem_cons_succ, Act.put, List.setIfInBounds_toArray, List.set_cons_zero, List.set_cons_succ]
          refine wpAnyH_take (i := 3) (v := .bool false) rfl (by kernel_rfl) (by kernel_rfl) (by kernel_rfl) (fun _ _ _ h => h) (Or.inl ⟨by rfl, fun z hz => ?_⟩) hS0 ?_
          · obtain z1 := hz
            go_simp
          try simp only [List.getElem_toArray, List.getElem_cons_zero, List.getElem_cons_succ, Act.put, List.setIfInBounds_toArray, List.set_cons_zero, List.set_cons_succ]
          refine wpAnyH_take (i := 4) rfl (by kernel_rfl) (by kernel_rfl) (by kernel_rfl) (fun _ _ _ h => h) (Or.inr ⟨by rfl, rfl⟩) hS0 ?_
          try simp only [List.getElem_toArray, List.getElem_cons_zero, List.getElem_cons_succ, Act.put, List.setIfInBounds_toArray, List.set_cons_zero, List.set_cons_succ]
          refine wpAnyH_take (i := 5) rfl (by kernel_rfl) (by kernel_rfl) (by kernel_rfl) (fun _ _ _ h => h) (Or.inr ⟨by rfl, rfl⟩) hS0 ?_
          try simp only [List.getElem_toArray, List.getElem_cons_zero, List.getElem_cons_succ, Act.put, List.setIfInBounds_toArray, List.set_cons_zero, List.set_cons_succ]
          refine wpAnyH_take (i := 6) rfl (by kernel_rfl) (by kernel_rfl) (by kernel_rfl) (fun _ _ _ h => h) (Or.inr ⟨by rfl, rfl⟩) hS0 ?_
          try simp only [List.getElem_toArray, List.getElem_cons_zero, List.getElem_cons_succ, Act.put, List.setIfInBounds_toArray, List.set_cons_zero, List.set_cons_succ]
          refine wpAnyH_take (i := 7) rfl (by kernel_rfl) (by kernel_rfl) (by kernel_rfl) (fun _ _ _ h => h) (Or.inr ⟨by rfl, rfl⟩) hS0 ?_
          try simp only [List.getElem_toArray, List.getElem_cons_zero, List.getElem_cons_succ, Act.put, List.setIfInBounds_toArray, List.set_cons_zero, List.set_cons_succ]
          refine wpAnyH_take (i := 8) rfl (by kernel_rfl) (by kernel_rfl) (by kernel_rfl) (fun _ _ _ h => h) (Or.inr ⟨by rfl, rfl⟩) hS0 ?_
          try simp only [List.getElem_toArray, List.getElem_cons_zero, List.getElem_cons_succ, Act.put, List.setIfInBounds_toArray, List.set_cons_zero, List.set_cons_succ]
          refine wpAnyH_take (i := 9) rfl (by kernel_rfl) (by kernel_rfl) (by kernel_rfl) (fun _ _ _ h => h) (Or.inr ⟨by rfl, rfl⟩) hS0 ?_
          try simp only [List.getElem_toArray, List.getElem_cons_zero, List.getElem_cons_succ, Act.put, List.setIfInBounds_toArray, List.set_cons_zero, List.set_cons_succ]
          refine wpAnyH_take (i := 10) rfl (by kernel_rfl) (by kernel_rfl) (by kernel_rfl) (fun _ _ _ h => h) (Or.inr ⟨by rfl, rfl⟩) hS0 ?_
          try simp only [List.getElem_toArray, List.getElem_cons_zero, List.getElem_cons_succ, Act.put, List.setIfInBounds_toArray, List.set_cons_zero, List.set_cons_succ]
          refine wpAnyH_take (i := 11) rfl (by kernel_rfl) (by kernel_rfl) (by kernel_rfl) (fun _ _ _ h => h) (Or.inr ⟨by rfl, rfl⟩) hS0 ?_
          try simp only [List.getElem_toArray, List.getElem_cons_zero, List.getElem_cons_succ, Act.put, List.setIfInBounds_toArray, List.set_cons_zero, List.set_cons_succ]
          refine wpAnyH_take (i := 12) rfl (by kernel_rfl) (by kernel_rfl) (by kernel_rfl) (fun _ _ _ h => h) (Or.inr ⟨by rfl, rfl⟩) hS0 ?_
          try simp only [List.getElem_toArray, List.getElem_cons_zero, List.getElem_cons_succ, Act.put, List.setIfInBounds_toArray, List.set_cons_zero, List.set_cons_succ]
          refine wpAnyH_take (i := 13) rfl (by kernel_rfl) (by kernel_rfl) (by kernel_rfl) (fun _ _ _ h => h) (Or.inr ⟨by rfl, rfl⟩) hS0 ?_
          try simp only [List.getElem_toArray, List.getElem_cons_zero, List.getElem_cons_succ, Act.put, List.setIfInBounds_toArray, List.set_cons_zero, List.set_cons_succ]
          refine wpAnyH_take (i := 14) rfl (by kernel_rfl) (by kernel_rfl) (by kernel_rfl) (fun _ _ _ h => h) (Or.inr ⟨by rfl, rfl⟩) hS0 ?_
          try simp only [List.getElem_toArray, List.getElem_cons_zero, List.getElem_cons_succ, Act.put, List.setIfInBounds_toArray, List.set_cons_zero, List.set_cons_succ]
          refine wpAnyH_take (i := 15) rfl (by kernel_rfl) (by kernel_rfl) (by kernel_rfl) (fun _ _ _ h => h) (Or.inr ⟨by rfl, rfl⟩) hS0 ?_
          try simp only [List.getElem_toArray, List.getElem_cons_zero, List.getElem_cons_succ, Act.put, List.setIfInBounds_toArray, List.set_cons_zero, List.set_cons_succ]
          refine wpAnyH_take (i := 16) (v := .bool false) rfl (by kernel_rfl) (by kernel_rfl) (by kernel_rfl) (fun _ _ _ h => h) (Or.inl ⟨by rfl, fun z hz => ?_⟩) hS0 ?_
          · obtain z1 := hz
            go_simp
          try simp only [List.getElem_toArray, List.getElem_cons_zero, List.getElem_cons_succ, Act.put, List.setIfInBounds_toArray, List.set_cons_zero, List.set_cons_succ]
          refine wpAnyH_done (by kernel_rfl) ?_ _
          have hd := (Below.refl wr.heap.size wr).drew
          have HRV := Lib.hid (HR.out.below hd)
          have HCV := Lib.hid (HC.out.trans (Below.chg hd _))
          clear hd
          go_wp2
          go_roundw
          case rel => exact ⟨j + 1, m2, by omega, .inl (by omega), by go_num, HP.out, HSO.out, HRV.out, HCV.out⟩
          case measure => simp [intOf]; omega
    · go_wp2
      go_end0
      exact ⟨rfl, m, HP.out, (fun p q x y h1 h2 h3 => HS.out p q x y h1 h2 (by omega)), HR.out, HC.out⟩
end Go.Proofs.YtonhkglilnplbaaGreatDoor
