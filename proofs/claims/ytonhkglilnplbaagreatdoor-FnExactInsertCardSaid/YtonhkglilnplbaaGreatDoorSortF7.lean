/- Walks: symMerge with one item before, with one item behind a row in order. -/
import Derived.Deep.DeepCutAuto
import Derived.BigRegion
import Derived.IntWalk
import Derived.Test.YtonhkglilnplbaaGreatDoorSortF6
namespace Go.Proofs.YtonhkglilnplbaaGreatDoor
theorem It.lt_of_le {s t u : It} (h : s.le t) (k : P.cmp t.e.1 u.e.1 < 0) : P.cmp s.e.1 u.e.1 < 0 := by
  unfold It.le at h
  by_cases e : P.cmp s.e.1 t.e.1 = 0
  · rw [P.cmp_eq _ _ e]; exact k
  · exact P.cmp_trans _ _ _ (by omega) k
theorem SortedOn.le {a b : Nat} {l : List It} (h : SortedOn a b l) {i j : Nat} {x y : It} (h1 : a ≤ i) (h2 : i ≤ j) (h3 : j < b) (h4 : l[i]? = some x) (h5 : l[j]? = some y) : x.le y := by
  by_cases e : i = j
  · subst e; rw [h4] at h5; injection h5 with h5; subst h5; exact It.le_refl _
  · exact h i j x y h1 (by omega) h3 h4 h5
open Go Go.RowKit
set_option maxHeartbeats 4000000
set_option maxRecDepth 100000
def MergePost (its : List It) (F : Blk) (g o a b : Nat) (w : World) (e : Ending) (w' : World) : Prop :=
  e = .returned (.tuple #[]) ∧ ∃ its', PermOn a b its its' ∧ SortedOn a b its' ∧ RowI w' F g o its' ∧ Chg (fun b => b = g) w w'
/-- all of [m, i) go before t, none of [j, b) does -/
def Cut (l : List It) (m i j b : Nat) (t : It) : Prop :=
  (∀ q s, m ≤ q → q < i → l[q]? = some s → P.cmp s.e.1 t.e.1 < 0) ∧ (∀ q s, j ≤ q → q < b → l[q]? = some s → ¬ P.cmp s.e.1 t.e.1 < 0)
theorem Cut.low {l : List It} {m i j b h : Nat} {t : It} (c : Cut l m i j b t) (hs : SortedOn m b l) (h1 : m ≤ h) (h2 : h < b) (hl : h < l.length) (hc : P.cmp l[h].e.1 t.e.1 < 0) : Cut l m (h + 1) j b t :=
  ⟨fun q s q1 q2 q3 => It.lt_of_le (hs.le q1 (by omega) h2 q3 (List.getElem?_eq_getElem hl)) hc, c.2⟩
theorem Cut.high {l : List It} {m i j b h : Nat} {t : It} (c : Cut l m i j b t) (hs : SortedOn m b l) (h1 : m ≤ h) (hl : h < l.length) (hc : ¬ P.cmp l[h].e.1 t.e.1 < 0) : Cut l m i h b t :=
  ⟨c.1, fun q s q1 q2 q3 k => hc (It.lt_of_le (hs.le h1 q1 q2 (List.getElem?_eq_getElem hl) q3) k)⟩
theorem merge_up (its : List It) (F : Blk) (g o cap a m b : Nat) (w : World) (h : RowI w F g o its) (hl : its.length ≤ 2 ^ 30) (hm1 : m = a + 1) (hmb : m < b) (hb : b ≤ its.length) (hs : SortedOn m b its) :
    Calls Tryz.prog 203 #[.slice (some ⟨g, o, none⟩) its.length cap, .int .i64 a, .int .i64 m, .int .i64 b, byF] w (MergePost its F g o a b w) := by
  have HH := Lib.hid h; have HS := Lib.hid hs; clear h hs
  have hd1 : ((m : Int) - (a : Int) == 1) = true := by rw [beq_iff_eq]; omega
  have HM1 := Lib.hid hm1; clear hm1
  have hal : a < its.length := by have := HM1.out; omega
  obtain ⟨ta, hta⟩ : ∃ t, (its[a]'hal) = t := ⟨_, rfl⟩
  have HTA := Lib.hid hta; clear hta
  have HMA := Lib.hid (show a < m by have := HM1.out; omega)
  go_enter Tryz.func203, Tryz.ntmps203
  go_wp2_with fail
  go_loopw [10, 11] (fun x y wr => ∃ i j : Nat, m ≤ i ∧ i ≤ j ∧ j ≤ b ∧ x = .int .i64 i ∧ y = .int .i64 j ∧ Cut its m i j b ta ∧ RowI wr F g o its ∧ Chg (fun b => b = g) w wr) (fun x y _ => (intOf y).toNat - (intOf x).toNat)
  case atStart => exact ⟨m, b, Nat.le_refl _, by omega, Nat.le_refl _, rfl, rfl, ⟨fun q s h1 h2 => by omega, fun q s h1 h2 => by omega⟩, HH.out, Chg.refl _ _⟩
  case round =>
    obtain ⟨i, j, hi1, hij, hjb, rfl, rfl, hc, hr, hch⟩ := hrel
    have HCU := Lib.hid hc; have HR := Lib.hid hr; have HC := Lib.hid hch
    clear hc hr hch HH
    by_cases hlt : i < j
    · obtain ⟨h, hh⟩ : ∃ h : Nat, (i + j) / 2 = h := ⟨_, rfl⟩
      have hhi : ((i : Int) + (j : Int)) / 2 = (h : Int) := by omega
      have hh1 : i ≤ h := by omega
      have hh2 : h < j := by omega
      have hhl : h < its.length := by omega
      clear hh
      have h1i : (i : Int) < (j : Int) := by omega
      go_upto_region 5 with fail
      try rw [hhi]
      clear hhi
      have HLOW := Lib.hid (fun hc => HCU.out.low HS.out (by omega) (by omega) hhl hc)
      have HHIGH := Lib.hid (fun hc => HCU.out.high HS.out (by omega) hhl hc)
      obtain ⟨xd, xc, yd, yc, hx, hy, hkc⟩ := HR.out.two h a hhl hal
      rw [HTA.out] at hy hkc
      generalize (its[h]'hhl) = en at *
      obtain ⟨x, Gx, eo, et⟩ := en
      obtain ⟨y, Gy, fo, ft⟩ := ta
      simp only at hx hy hkc HLOW HHIGH
      subst hx hy
      have HK0 := Lib.hid (hkc.step (Below.refl _ _).drew); clear hkc
      have hnp : ¬ its.length ≤ h := by omega
      have hnq : ¬ its.length ≤ a := by omega
      refine wp_region_held_drew (S := KC wr.heap.size wr g (o + h * 2) (.slice xd eo.length xc) eo et (o + a * 2) (.slice yd fo.length yc) fo ft) (by kernel_rfl) HK0.out (fun hS0 => ?_)
      refine wpAnyH_take (i := 0) (v := byF) rfl (by kernel_rfl) (by kernel_rfl) (by kernel_rfl) (fun _ _ _ h => h) (Or.inl ⟨by rfl, fun z hz => ?_⟩) hS0 ?_
      · obtain ⟨z1, z2, z3, z4, z5, z6⟩ := hz
        go_simp
      try simp only [List.getElem_toArray, List.getElem_cons_zero, Act.put, List.setIfInBounds_toArray, List.set_cons_zero, List.set_cons_succ]
      refine wpAnyH_take (i := 1) (v := .slice (some ⟨g, o, none⟩) its.length cap) rfl (by kernel_rfl) (by kernel_rfl) (by kernel_rfl) (fun _ _ _ h => h) (Or.inl ⟨by rfl, fun z hz => ?_⟩) hS0 ?_
      · obtain ⟨z1, z2, z3, z4, z5, z6⟩ := hz
        go_simp
      try simp only [List.getElem_toArray, List.getElem_cons_zero, List.getElem_cons_succ, Act.put, List.setIfInBounds_toArray, List.set_cons_zero, List.set_cons_succ]
      refine wpAnyH_take (i := 2) (v := .int .i64 h) rfl (by kernel_rfl) (by kernel_rfl) (by kernel_rfl) (fun _ _ _ h => h) (Or.inl ⟨by rfl, fun z hz => ?_⟩) hS0 ?_
      · obtain ⟨z1, z2, z3, z4, z5, z6⟩ := hz
        go_simp
      try simp only [List.getElem_toArray, List.getElem_cons_zero, List.getElem_cons_succ, Act.put, List.setIfInBounds_toArray, List.set_cons_zero, List.set_cons_succ]
      refine wpAnyH_take (i := 3) (v := .pointer (some ⟨g, o + h * 2, none⟩)) rfl (by kernel_rfl) (by kernel_rfl) (by kernel_rfl) (fun _ _ _ h => h) (Or.inl ⟨by rfl, fun z hz => ?_⟩) hS0 ?_
      · obtain ⟨z1, z2, z3, z4, z5, z6⟩ := hz
        go_simp
      try simp only [List.getElem_toArray, List.getElem_cons_zero, List.getElem_cons_succ, Act.put, List.setIfInBounds_toArray, List.set_cons_zero, List.set_cons_succ]
      refine wpAnyH_take (i := 4) (v := .agg #[.slice xd eo.length xc, .string (S et)]) rfl (by kernel_rfl) (by kernel_rfl) (by kernel_rfl) (fun _ _ _ h => h) (Or.inl ⟨by rfl, fun z hz => ?_⟩) hS0 ?_
      · obtain ⟨z1, z2, z3, z4, z5, z6⟩ := hz
        go_simp
      try simp only [List.getElem_toArray, List.getElem_cons_zero, List.getElem_cons_succ, Act.put, List.setIfInBounds_toArray, List.set_cons_zero, List.set_cons_succ]
      refine wpAnyH_take (i := 5) (v := .slice (some ⟨g, o, none⟩) its.length cap) rfl (by kernel_rfl) (by kernel_rfl) (by kernel_rfl) (fun _ _ _ h => h) (Or.inl ⟨by rfl, fun z hz => ?_⟩) hS0 ?_
      · obtain ⟨z1, z2, z3, z4, z5, z6⟩ := hz
        go_simp
      try simp only [List.getElem_toArray, List.getElem_cons_zero, List.getElem_cons_succ, Act.put, List.setIfInBounds_toArray, List.set_cons_zero, List.set_cons_succ]
      refine wpAnyH_take (i := 6) (v := .int .i64 a) rfl (by kernel_rfl) (by kernel_rfl) (by kernel_rfl) (fun _ _ _ h => h) (Or.inl ⟨by rfl, fun z hz => ?_⟩) hS0 ?_
      · obtain ⟨z1, z2, z3, z4, z5, z6⟩ := hz
        go_simp
      try simp only [List.getElem_toArray, List.getElem_cons_zero, List.getElem_cons_succ, Act.put, List.setIfInBounds_toArray, List.set_cons_zero, List.set_cons_succ]
      refine wpAnyH_take (i := 7) (v := .pointer (some ⟨g, o + a * 2, none⟩)) rfl (by kernel_rfl) (by kernel_rfl) (by kernel_rfl) (fun _ _ _ h => h) (Or.inl ⟨by rfl, fun z hz => ?_⟩) hS0 ?_
      · obtain ⟨z1, z2, z3, z4, z5, z6⟩ := hz
        go_simp
      try simp only [List.getElem_toArray, List.getElem_cons_zero, List.getElem_cons_succ, Act.put, List.setIfInBounds_toArray, List.set_cons_zero, List.set_cons_succ]
      refine wpAnyH_take (i := 8) (v := .agg #[.slice yd fo.length yc, .string (S ft)]) rfl (by kernel_rfl) (by kernel_rfl) (by kernel_rfl) (fun _ _ _ h => h) (Or.inl ⟨by rfl, fun z hz => ?_⟩) hS0 ?_
      · obtain ⟨z1, z2, z3, z4, z5, z6⟩ := hz
        go_simp
      try simp only [List.getElem_toArray, List.getElem_cons_zero, List.getElem_cons_succ, Act.put, List.setIfInBounds_toArray, List.set_cons_zero, List.set_cons_succ]
      refine wpAnyH_ready (rs := [9]) (by kernel_rfl) (by simp) ?_
      refine AllReadyH.cons rfl (fun K hK => ?_) AllReadyH.nil
      have HX := Lib.hid hS0.2.2.2.2.2.1
      have HY := Lib.hid hS0.2.2.2.2.2.2.1
      have HS1 := Lib.hid hS0
      go_simp
      refine (byOutline _ _ eo fo et ft _ HX.out HY.out).mono ?_
      rintro e v ⟨rfl, hb⟩
      refine hK.out _ _ (HS1.out.step hb) (fun hS1 => ?_)
      clear hK K hb
      try simp only [List.getElem_toArray, List.getElem_cons_zero, List.getElem_cons_succ, Act.put, List.setIfInBounds_toArray, List.set_cons_zero, List.set_cons_succ]
      have HBV := Lib.hid hS1.2.2.2.2.2.2.2.2
      have HRV := Lib.hid (HR.out.below HBV.out)
      have HCV := Lib.hid (HC.out.trans (Below.chg HBV.out _))
      by_cases hcmp : P.cmp eo fo < 0
      · have HQ := Lib.hid (HLOW.out hcmp)
        refine wpAnyH_take (i := 10) (v := .bool true) rfl (by kernel_rfl) (by kernel_rfl) (by kernel_rfl) (fun _ _ _ h => h) (Or.inl ⟨by rfl, fun z hz => ?_⟩) hS1 ?_
        · obtain ⟨z1, z2, z3, z4, z5, z6⟩ := hz
          go_simp
        try simp only [List.getElem_toArray, List.getElem_cons_zero, List.getElem_cons_succ, Act.put, List.setIfInBounds_toArray, List.set_cons_zero, List.set_cons_succ]
        refine wpAnyH_done (by kernel_rfl) ?_ _
        clear hS0 HS1 hS1 HLOW HHIGH hcmp HX HY HK0 HR HC HBV hnp hnq
        go_wp2
        go_roundw
        case rel => exact ⟨h + 1, j, by omega, by omega, hjb, by go_num, rfl, HQ.out, HRV.out, HCV.out⟩
        case measure => simp [intOf]; omega
      · have HQ := Lib.hid (HHIGH.out hcmp)
        refine wpAnyH_take (i := 10) (v := .bool false) rfl (by kernel_rfl) (by kernel_rfl) (by kernel_rfl) (fun _ _ _ h => h) (Or.inl ⟨by rfl, fun z hz => ?_⟩) hS1 ?_
        · obtain ⟨z1, z2, z3, z4, z5, z6⟩ := hz
          go_simp
        try simp only [List.getElem_toArray, List.getElem_cons_zero, List.getElem_cons_succ, Act.put, List.setIfInBounds_toArray, List.set_cons_zero, List.set_cons_succ]
        refine wpAnyH_done (by kernel_rfl) ?_ _
        clear hS0 HS1 hS1 HLOW HHIGH hcmp HX HY HK0 HR HC HBV hnp hnq
        go_wp2
        go_roundw
        case rel => exact ⟨i, h, hi1, hh1, by omega, rfl, rfl, HQ.out, HRV.out, HCV.out⟩
        case measure => simp [intOf]; omega
    · have hjm : j = i := by omega
      subst hjm
      have hj1 : 1 ≤ j := by have := HMA.out; omega
      have hwi : IntKind.i64.wrap ((j : Int) - 1) = ((j - 1 : Nat) : Int) := by rw [IntWalk.i64_in _ (by omega)]; omega
      go_wp2_with fail
      go_loopw [13] (fun x wr => ∃ (k : Nat) (n : List It), a ≤ k ∧ k ≤ j - 1 ∧ x = .int .i64 k ∧ Moved its n (upIx a k) ∧ RowI wr F g o n ∧ Chg (fun b => b = g) w wr) (fun x _ => j - (intOf x).toNat)
      case atStart => exact ⟨a, its, Nat.le_refl _, by have := HMA.out; omega, rfl, (Moved.refl its).congr fun k => (upIx_zero a k).symm, HR.out, HC.out⟩
      case round =>
        obtain ⟨k, n, hk1, hk2, rfl, hm, hr, hc⟩ := hrel
        have hln : n.length = its.length := hm.len
        by_cases hlt2 : k < j - 1
        · have h1 : (k : Int) < ((j - 1 : Nat) : Int) := by omega
          have hi1' : k < n.length := by omega
          have hi2' : k + 1 < n.length := by omega
          obtain ⟨f1, f2⟩ := hr.soft k hi1'
          obtain ⟨f3, f4⟩ := hr.soft (k + 1) hi2'
          obtain ⟨xd, xc, yd, yc, hx, hy, hkc⟩ := hr.two k (k + 1) hi1' hi2'
          have HSW := Lib.hid (hr.swap k (k + 1) hi1' hi2' (by omega))
          have HMS := Lib.hid ((hm.trans (Moved.swap n k (k + 1) hi1' hi2')).congr (upIx_step hk1))
          have HC2 := Lib.hid hc
          clear hm hr hc
          generalize n[k] = en at *
          generalize n[k + 1] = fn at *
          obtain ⟨x, Gx, eo, et⟩ := en
          obtain ⟨y, Gy, fo, ft⟩ := fn
          simp only at hx hy hkc HSW
          subst hx hy
          obtain ⟨c1, c2, c3, c4, c5, _⟩ := hkc
          have hw1 : IntKind.i64.wrap ((k : Int) + 1) = ((k + 1 : Nat) : Int) := by rw [IntWalk.i64_in _ (by omega)]; omega
          have hn1 : ((k + 1 : Nat) : Int) < (its.length : Int) := by omega
          have hn2 : (k : Int) < (its.length : Int) := by omega
          clear HR HC
          generalize HVV : wr = vv at *
          go_upto_region 11 with fail
          go_region
          obtain ⟨hr3, hc3⟩ := HSW.out
          have hd := (Below.refl (swapW vv g o k (k + 1) ⟨.slice xd eo.length xc, Gx, (eo, et)⟩ ⟨.slice yd fo.length yc, Gy, (fo, ft)⟩).heap.size (swapW vv g o k (k + 1) ⟨.slice xd eo.length xc, Gx, (eo, et)⟩ ⟨.slice yd fo.length yc, Gy, (fo, ft)⟩)).drew
          have HR3 := Lib.hid (hr3.below hd)
          have HC3 := Lib.hid ((HC2.out.trans hc3).trans (Below.chg hd _))
          clear hr3 hc3 hd HSW HC2 c1 c2 c3 c4 c5 f1 f2 f3 f4
          change Exit.inBlock _ _ _ _ (swapW vv g o k (k + 1) ⟨.slice xd eo.length xc, Gx, (eo, et)⟩ ⟨.slice yd fo.length yc, Gy, (fo, ft)⟩).drew
          generalize (swapW vv g o k (k + 1) ⟨.slice xd eo.length xc, Gx, (eo, et)⟩ ⟨.slice yd fo.length yc, Gy, (fo, ft)⟩).drew = v3 at *
          generalize swapI n k (k + 1) _ _ = n3 at *
          go_wp2
          go_roundw
          case rel => exact ⟨k + 1, n3, by omega, by omega, by go_num, HMS.out, HR3.out, HC3.out⟩
          case measure => simp [intOf]; omega
        · have hk : k = j - 1 := by omega
          subst hk
          have HSO := Lib.hid (up_sorted hm (HM1.out ▸ HS.out) (by have := HM1.out; omega) hjb (fun q x y q1 q2 q3 q4 => It.le_of_lt (by
            rw [List.getElem?_eq_getElem hal, HTA.out] at q4; injection q4 with q4; subst q4
            exact HCU.out.1 q x (by have := HM1.out; omega) q2 q3)) (fun q x y q1 q2 q3 q4 => It.le_of_not (by
            rw [List.getElem?_eq_getElem hal, HTA.out] at q4; injection q4 with q4; subst q4
            exact HCU.out.2 q x q1 q2 q3)))
          have HR2 := Lib.hid hr; have HC2 := Lib.hid hc
          clear hm hr hc
          go_wp2
          first | go_end0 | (refine bodyPost_ret (results_none rfl _ _ _) rfl ?_)
          exact ⟨rfl, n, HSO.out.1, HSO.out.2, HR2.out, HC2.out⟩
end Go.Proofs.YtonhkglilnplbaaGreatDoor
