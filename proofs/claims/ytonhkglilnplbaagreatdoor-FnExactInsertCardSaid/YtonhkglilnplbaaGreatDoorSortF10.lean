/- Walks: symMerge, in full. -/
import Derived.Deep.DeepCutAuto
import Derived.BigRegion
import Derived.IntWalk
import Derived.Test.YtonhkglilnplbaaGreatDoorSortF9
namespace Go.Proofs.YtonhkglilnplbaaGreatDoor
open Go Go.RowKit
set_option maxHeartbeats 8000000
set_option maxRecDepth 100000
theorem roIx_id {s m e : Nat} (h : ¬ (s < m ∧ m < e)) (h1 : s ≤ m) (h2 : m ≤ e) (k : Nat) : roIx s m e k = k := by
  unfold roIx
  repeat' split
  all_goals omega
theorem merge_join {a b c : Nat} {l l1 l2 l3 : List It} (h1 : PermOn a b l l1) (hs : Split a c b l1) (h2 : PermOn a c l1 l2) (s2 : SortedOn a c l2) (h3 : PermOn c b l2 l3) (s3 : SortedOn c b l3) (hac : a ≤ c) (hcb : c ≤ b) : PermOn a b l l3 ∧ SortedOn a b l3 :=
  ⟨(h1.trans (h2.mono (Nat.le_refl _) hcb)).trans (h3.mono hac (Nat.le_refl _)), ((hs.left h2).right h3).sorted (s2.same h3 (.inl (Nat.le_refl _))) s3⟩
def MergeAll (n : Nat) : Prop := ∀ (its : List It) (F : Blk) (g o cap a m b : Nat) (w : World), b - a ≤ n → RowI w F g o its → its.length ≤ 2 ^ 30 → a < m → m < b → b ≤ its.length → SortedOn a m its → SortedOn m b its →
    Calls Tryz.prog 203 #[.slice (some ⟨g, o, none⟩) its.length cap, .int .i64 a, .int .i64 m, .int .i64 b, byF] w (MergePost its F g o a b w)
theorem merge_mid (n : Nat) (IH : MergeAll n) (its : List It) (F : Blk) (g o cap a m b : Nat) (w : World) (hn : b - a ≤ n + 1) (h : RowI w F g o its) (hl : its.length ≤ 2 ^ 30) (ha1 : a + 1 < m) (hb1 : m + 1 < b) (hb : b ≤ its.length) (h1 : SortedOn a m its) (h2 : SortedOn m b its) :
    Calls Tryz.prog 203 #[.slice (some ⟨g, o, none⟩) its.length cap, .int .i64 a, .int .i64 m, .int .i64 b, byF] w (MergePost its F g o a b w) := by
  have HH := Lib.hid h; have HS1 := Lib.hid h1; have HS2 := Lib.hid h2; have HI := Lib.hid IH; clear h h1 h2 IH
  have hd1 : ((m : Int) - (a : Int) == 1) = false := by rw [beq_eq_false_iff_ne]; omega
  have hd2 : ((b : Int) - (m : Int) == 1) = false := by rw [beq_eq_false_iff_ne]; omega
  obtain ⟨c, hmid⟩ : ∃ c : Nat, (a + b) / 2 = c := ⟨_, rfl⟩
  have hmi : ((a : Int) + (b : Int)) / 2 = (c : Int) := by omega
  have hmd1 : a < c := by omega
  have hmd2 : c < b := by omega
  have hmd3 : a + b ≤ 2 * c + 1 := by omega
  have hmd4 : 2 * c ≤ a + b := by omega
  clear hmid
  by_cases hmm : c < m
  · skip
    have hmm' : (c : Int) < (m : Int) := by omega
    have HZ := Lib.hid (show (c : Int) + (m : Int) - (b : Int) = ((c + m - b : Nat) : Int) by omega)
    go_enter Tryz.func203, Tryz.ntmps203
    go_wp2_with fail
    go_loopw [20, 21] (fun x y wr => ∃ j r : Nat, (c + m - b) ≤ j ∧ j ≤ r ∧ r ≤ c ∧ x = .int .i64 j ∧ y = .int .i64 r ∧ Bin its c m (c + m - b) c j r ∧ RowI wr F g o its ∧ Chg (fun b => b = g) w wr) (fun x y _ => (intOf y).toNat - (intOf x).toNat)
    case atStart => exact ⟨(c + m - b), c, Nat.le_refl _, by omega, Nat.le_refl _, by first | rfl | go_num, by first | rfl | go_num, Bin.start its c m (c + m - b) c, HH.out, Chg.refl _ _⟩
    case round =>
      obtain ⟨j, r, hj1, hjr, hr1, rfl, rfl, hbin, hr, hch⟩ := hrel
      have HBI := Lib.hid hbin; have HR := Lib.hid hr; have HC := Lib.hid hch
      clear hbin hr hch HH
      by_cases hlt : j < r
      · obtain ⟨h, hh⟩ : ∃ h : Nat, (j + r) / 2 = h := ⟨_, rfl⟩
        have hhi : ((j : Int) + (r : Int)) / 2 = (h : Int) := by omega
        have hh1 : j ≤ h := by omega
        have hh2 : h < r := by omega
        clear hh
        obtain ⟨q, hq⟩ : ∃ q : Nat, c + m - 1 - h = q := ⟨_, rfl⟩
        have hqi : (c : Int) + (m : Int) - 1 - (h : Int) = (q : Int) := by omega
        have hw1 : IntKind.i64.wrap (q : Int) = (q : Int) := IntWalk.i64_in _ (by omega)
        have hq2 : q < b := by omega
        have hhl : h < its.length := by omega
        have hql : q < its.length := by omega
        have h1i : (j : Int) < (r : Int) := by omega
        have HLOW := Lib.hid (fun (hc : ¬ P.cmp (its[c + m - 1 - h]'(by omega)).e.1 (its[h]'hhl).e.1 < 0) => HBI.out.low HS1.out HS2.out (by omega) (by omega) (by omega) (by omega) (by omega) (by omega) hhl (by omega) hc)
        have HHIGH := Lib.hid (fun (hc : P.cmp (its[c + m - 1 - h]'(by omega)).e.1 (its[h]'hhl).e.1 < 0) => HBI.out.high HS1.out HS2.out (by omega) (by omega) (by omega) (by omega) (by omega) (by omega) hhl (by omega) hc)
        subst hq
        go_upto_region 35 with fail
        try rw [hhi]
        clear hhi
        obtain ⟨xd, xc, yd, yc, hx, hy, hkc⟩ := HR.out.two (c + m - 1 - h) h hql hhl
        generalize (its[c + m - 1 - h]'hql) = en at *
        generalize (its[h]'hhl) = fn at *
        obtain ⟨q, hq⟩ : ∃ q : Nat, c + m - 1 - h = q := ⟨_, rfl⟩
        rw [hq] at hqi hw1 hq2 hql hkc
        obtain ⟨x, Gx, eo, et⟩ := en
        obtain ⟨y, Gy, fo, ft⟩ := fn
        simp only at hx hy hkc HLOW HHIGH
        subst hx hy
        have HK0 := Lib.hid (hkc.step (Below.refl _ _).drew); clear hkc
        have hnp : ¬ its.length ≤ q := by omega
        have hnq : ¬ its.length ≤ h := by omega
        refine wp_region_held_drew (S := KC wr.heap.size wr g (o + q * 2) (.slice xd eo.length xc) eo et (o + h * 2) (.slice yd fo.length yc) fo ft) (by kernel_rfl) HK0.out (fun hS0 => ?_)
        refine wpAnyH_take (i := 0) (v := byF) rfl (by kernel_rfl) (by kernel_rfl) (by kernel_rfl) (fun _ _ _ h => h) (Or.inl ⟨by rfl, fun z hz => ?_⟩) hS0 ?_
        · obtain ⟨z1, z2, z3, z4, z5, z6⟩ := hz
          go_simp
        try simp only [List.getElem_toArray, List.getElem_cons_zero, Act.put, List.setIfInBounds_toArray, List.set_cons_zero, List.set_cons_succ]
        refine wpAnyH_take (i := 1) (v := .slice (some ⟨g, o, none⟩) its.length cap) rfl (by kernel_rfl) (by kernel_rfl) (by kernel_rfl) (fun _ _ _ h => h) (Or.inl ⟨by rfl, fun z hz => ?_⟩) hS0 ?_
        · obtain ⟨z1, z2, z3, z4, z5, z6⟩ := hz
          go_simp
        try simp only [List.getElem_toArray, List.getElem_cons_zero, List.getElem_cons_succ, Act.put, List.setIfInBounds_toArray, List.set_cons_zero, List.set_cons_succ]
        refine wpAnyH_take (i := 2) (v := .int .i64 ((c : Int) + (m : Int) - 1)) rfl (by kernel_rfl) (by kernel_rfl) (by kernel_rfl) (fun _ _ _ h => h) (Or.inl ⟨by rfl, fun z hz => ?_⟩) hS0 ?_
        · obtain ⟨z1, z2, z3, z4, z5, z6⟩ := hz
          go_simp
        try simp only [List.getElem_toArray, List.getElem_cons_zero, List.getElem_cons_succ, Act.put, List.setIfInBounds_toArray, List.set_cons_zero, List.set_cons_succ]
        refine wpAnyH_take (i := 3) (v := .int .i64 h) rfl (by kernel_rfl) (by kernel_rfl) (by kernel_rfl) (fun _ _ _ h => h) (Or.inl ⟨by rfl, fun z hz => ?_⟩) hS0 ?_
        · obtain ⟨z1, z2, z3, z4, z5, z6⟩ := hz
          go_simp
        try simp only [List.getElem_toArray, List.getElem_cons_zero, List.getElem_cons_succ, Act.put, List.setIfInBounds_toArray, List.set_cons_zero, List.set_cons_succ]
        refine wpAnyH_take (i := 4) (v := .int .i64 q) rfl (by kernel_rfl) (by kernel_rfl) (by kernel_rfl) (fun _ _ _ h => h) (Or.inl ⟨by rfl, fun z hz => ?_⟩) hS0 ?_
        · obtain ⟨z1, z2, z3, z4, z5, z6⟩ := hz
          go_simp
        try simp only [List.getElem_toArray, List.getElem_cons_zero, List.getElem_cons_succ, Act.put, List.setIfInBounds_toArray, List.set_cons_zero, List.set_cons_succ]
        refine wpAnyH_take (i := 5) (v := .pointer (some ⟨g, o + q * 2, none⟩)) rfl (by kernel_rfl) (by kernel_rfl) (by kernel_rfl) (fun _ _ _ h => h) (Or.inl ⟨by rfl, fun z hz => ?_⟩) hS0 ?_
        · obtain ⟨z1, z2, z3, z4, z5, z6⟩ := hz
          go_simp
        try simp only [List.getElem_toArray, List.getElem_cons_zero, List.getElem_cons_succ, Act.put, List.setIfInBounds_toArray, List.set_cons_zero, List.set_cons_succ]
        refine wpAnyH_take (i := 6) (v := .agg #[.slice xd eo.length xc, .string (S et)]) rfl (by kernel_rfl) (by kernel_rfl) (by kernel_rfl) (fun _ _ _ h => h) (Or.inl ⟨by rfl, fun z hz => ?_⟩) hS0 ?_
        · obtain ⟨z1, z2, z3, z4, z5, z6⟩ := hz
          go_simp
        try simp only [List.getElem_toArray, List.getElem_cons_zero, List.getElem_cons_succ, Act.put, List.setIfInBounds_toArray, List.set_cons_zero, List.set_cons_succ]
        refine wpAnyH_take (i := 7) (v := .slice (some ⟨g, o, none⟩) its.length cap) rfl (by kernel_rfl) (by kernel_rfl) (by kernel_rfl) (fun _ _ _ h => h) (Or.inl ⟨by rfl, fun z hz => ?_⟩) hS0 ?_
        · obtain ⟨z1, z2, z3, z4, z5, z6⟩ := hz
          go_simp
        try simp only [List.getElem_toArray, List.getElem_cons_zero, List.getElem_cons_succ, Act.put, List.setIfInBounds_toArray, List.set_cons_zero, List.set_cons_succ]
        refine wpAnyH_take (i := 8) (v := .int .i64 h) rfl (by kernel_rfl) (by kernel_rfl) (by kernel_rfl) (fun _ _ _ h => h) (Or.inl ⟨by rfl, fun z hz => ?_⟩) hS0 ?_
        · obtain ⟨z1, z2, z3, z4, z5, z6⟩ := hz
          go_simp
        try simp only [List.getElem_toArray, List.getElem_cons_zero, List.getElem_cons_succ, Act.put, List.setIfInBounds_toArray, List.set_cons_zero, List.set_cons_succ]
        refine wpAnyH_take (i := 9) (v := .pointer (some ⟨g, o + h * 2, none⟩)) rfl (by kernel_rfl) (by kernel_rfl) (by kernel_rfl) (fun _ _ _ h => h) (Or.inl ⟨by rfl, fun z hz => ?_⟩) hS0 ?_
        · obtain ⟨z1, z2, z3, z4, z5, z6⟩ := hz
          go_simp
        try simp only [List.getElem_toArray, List.getElem_cons_zero, List.getElem_cons_succ, Act.put, List.setIfInBounds_toArray, List.set_cons_zero, List.set_cons_succ]
        refine wpAnyH_take (i := 10) (v := .agg #[.slice yd fo.length yc, .string (S ft)]) rfl (by kernel_rfl) (by kernel_rfl) (by kernel_rfl) (fun _ _ _ h => h) (Or.inl ⟨by rfl, fun z hz => ?_⟩) hS0 ?_
        · obtain ⟨z1, z2, z3, z4, z5, z6⟩ := hz
          go_simp
        try simp only [List.getElem_toArray, List.getElem_cons_zero, List.getElem_cons_succ, Act.put, List.setIfInBounds_toArray, List.set_cons_zero, List.set_cons_succ]
        refine wpAnyH_ready (rs := [11]) (by kernel_rfl) (by simp) ?_
        refine AllReadyH.cons rfl (fun K hK => ?_) AllReadyH.nil
        have HX := Lib.hid hS0.2.2.2.2.2.1
        have HY := Lib.hid hS0.2.2.2.2.2.2.1
        have HSK := Lib.hid hS0
        go_simp
        refine (byOutline _ _ eo fo et ft _ HX.out HY.out).mono ?_
        rintro e v ⟨rfl, hb⟩
        refine hK.out _ _ (HSK.out.step hb) (fun hS1 => ?_)
        clear hK K hb
        try simp only [List.getElem_toArray, List.getElem_cons_zero, List.getElem_cons_succ, Act.put, List.setIfInBounds_toArray, List.set_cons_zero, List.set_cons_succ]
        have HBV := Lib.hid hS1.2.2.2.2.2.2.2.2
        have HRV := Lib.hid (HR.out.below HBV.out)
        have HCV := Lib.hid (HC.out.trans (Below.chg HBV.out _))
        by_cases hcmp : P.cmp eo fo < 0
        · have HQ := Lib.hid (HHIGH.out hcmp)
          refine wpAnyH_take (i := 12) (v := .bool true) rfl (by kernel_rfl) (by kernel_rfl) (by kernel_rfl) (fun _ _ _ h => h) (Or.inl ⟨by rfl, fun z hz => ?_⟩) hS1 ?_
          · obtain ⟨z1, z2, z3, z4, z5, z6⟩ := hz
            go_simp
          try simp only [List.getElem_toArray, List.getElem_cons_zero, List.getElem_cons_succ, Act.put, List.setIfInBounds_toArray, List.set_cons_zero, List.set_cons_succ]
          refine wpAnyH_take (i := 13) (v := .bool false) rfl (by kernel_rfl) (by kernel_rfl) (by kernel_rfl) (fun _ _ _ h => h) (Or.inl ⟨by rfl, fun z hz => ?_⟩) hS1 ?_
          · obtain ⟨z1, z2, z3, z4, z5, z6⟩ := hz
            go_simp
          try simp only [List.getElem_toArray, List.getElem_cons_zero, List.getElem_cons_succ, Act.put, List.setIfInBounds_toArray, List.set_cons_zero, List.set_cons_succ]
          refine wpAnyH_done (by kernel_rfl) ?_ _
          clear hS0 HSK hS1 HLOW HHIGH hcmp HX HY HK0 HR HC HBV hnp hnq hw1 hqi
          go_wp2
          go_roundw
          case rel => exact ⟨j, h, hj1, hh1, by omega, rfl, rfl, HQ.out, HRV.out, HCV.out⟩
          case measure => simp [intOf]; omega
        · have HQ := Lib.hid (HLOW.out hcmp)
          refine wpAnyH_take (i := 12) (v := .bool false) rfl (by kernel_rfl) (by kernel_rfl) (by kernel_rfl) (fun _ _ _ h => h) (Or.inl ⟨by rfl, fun z hz => ?_⟩) hS1 ?_
          · obtain ⟨z1, z2, z3, z4, z5, z6⟩ := hz
            go_simp
          try simp only [List.getElem_toArray, List.getElem_cons_zero, List.getElem_cons_succ, Act.put, List.setIfInBounds_toArray, List.set_cons_zero, List.set_cons_succ]
          refine wpAnyH_take (i := 13) (v := .bool true) rfl (by kernel_rfl) (by kernel_rfl) (by kernel_rfl) (fun _ _ _ h => h) (Or.inl ⟨by rfl, fun z hz => ?_⟩) hS1 ?_
          · obtain ⟨z1, z2, z3, z4, z5, z6⟩ := hz
            go_simp
          try simp only [List.getElem_toArray, List.getElem_cons_zero, List.getElem_cons_succ, Act.put, List.setIfInBounds_toArray, List.set_cons_zero, List.set_cons_succ]
          refine wpAnyH_done (by kernel_rfl) ?_ _
          clear hS0 HSK hS1 HLOW HHIGH hcmp HX HY HK0 HR HC HBV hnp hnq hw1 hqi
          go_wp2
          go_roundw
          case rel => exact ⟨h + 1, r, by omega, by omega, hr1, by go_num, rfl, HQ.out, HRV.out, HCV.out⟩
          case measure => simp [intOf]; omega
      · have hjm : r = j := by omega
        subst hjm
        obtain ⟨en, hen⟩ : ∃ en : Nat, c + m - r = en := ⟨_, rfl⟩
        have hrng : en ≤ b ∧ m ≤ en ∧ r ≤ m ∧ r ≤ c ∧ a ≤ r ∧ c ≤ en := by omega
        obtain ⟨hr2, hr3, hr4, hr5, hr6, hr7⟩ := hrng
        have hei : (c : Int) + (m : Int) - (r : Int) = (en : Int) := by omega
        have hwe : IntKind.i64.wrap (en : Int) = (en : Int) := IntWalk.i64_in _ (by omega)
        have HDONE := Lib.hid (show ∀ l', Moved its l' (roIx r m en) → PermOn a b its l' ∧ Split a c b l' ∧ SortedOn a r l' ∧ SortedOn r c l' ∧ SortedOn c en l' ∧ SortedOn en b l' from fun l' hm => by rw [← hen] at hm ⊢; exact HBI.out.done HS1.out HS2.out hb (by omega) (by left; exact ⟨by omega, rfl, rfl⟩) (by omega) hmd2 hmd3 hmd4 hj1 hr1 hm)
        have HBL := Lib.hid (show c - a ≤ n ∧ b - c ≤ n by omega)
        clear hen HBI HS1 HS2
        by_cases u1 : r < m
        · by_cases u2 : m < en
          · skip
            have ua : (r : Int) < (m : Int) := by omega
            have ub : (m : Int) < (en : Int) := by omega
            by_cases v1 : a < r
            · by_cases v2 : r < c
              · skip
                have va : (a : Int) < (r : Int) := by omega
                have vb : (r : Int) < (c : Int) := by omega
                by_cases x1 : c < en
                · by_cases x2 : en < b
                  · skip
                    have xa : (c : Int) < (en : Int) := by omega
                    have xb : (en : Int) < (b : Int) := by omega
                    have HCALL := Lib.hid (rotate_full its F g o cap r m en wr HR.out hl u1 u2 (by omega))
                    go_wp2_with fail
                    refine HCALL.out.mono ?_
                    rintro e w1 ⟨rfl, n1, hm1, hrr, hcc⟩
                    have HR1 := Lib.hid hrr; have HC1 := Lib.hid (HC.out.trans hcc); have HM1 := Lib.hid hm1
                    clear hrr hcc HCALL
                    have hln1 : n1.length = its.length := hm1.len
                    clear hm1
                    obtain ⟨hp1, hsp, hsa, hsb, hsc, hsd⟩ := HDONE.out _ HM1.out
                    have HP1 := Lib.hid hp1; have HSP := Lib.hid hsp; have HSA := Lib.hid hsa; have HSB := Lib.hid hsb; have HSC := Lib.hid hsc; have HSD := Lib.hid hsd
                    clear hp1 hsp hsa hsb hsc hsd
                    have hcall := HI.out n1 F g o cap a r c w1 HBL.out.1 HR1.out (by omega) v1 v2 (by omega) HSA.out HSB.out
                    rw [hln1] at hcall
                    have HCALL2 := Lib.hid hcall; clear hcall
                    go_wp2_with fail
                    refine HCALL2.out.mono ?_
                    rintro e w2 ⟨rfl, n2, hp2, hs2, hrr, hcc⟩
                    have HR2 := Lib.hid hrr; have HC2 := Lib.hid (HC1.out.trans hcc); have HP2 := Lib.hid hp2; have HT2 := Lib.hid hs2; have hln2 : n2.length = its.length := hp2.len.trans hln1
                    clear hrr hcc hp2 hs2 HCALL2
                    have hcall := HI.out n2 F g o cap c en b w2 HBL.out.2 HR2.out (by omega) x1 x2 (by omega) (HSC.out.same HP2.out (.inr (Nat.le_refl _))) (HSD.out.same HP2.out (.inr (by omega)))
                    rw [hln2] at hcall
                    have HCALL3 := Lib.hid hcall; clear hcall
                    go_wp2_with fail
                    refine HCALL3.out.mono ?_
                    rintro e w3 ⟨rfl, n3, hp3, hs3, hrr, hcc⟩
                    have HR3 := Lib.hid hrr; have HC3 := Lib.hid (HC2.out.trans hcc); have HP3 := Lib.hid hp3; have HT3 := Lib.hid hs3
                    clear hrr hcc hp3 hs3 HCALL3
                    have HJ := Lib.hid (merge_join HP1.out HSP.out HP2.out HT2.out HP3.out HT3.out (Nat.le_of_lt hmd1) (Nat.le_of_lt hmd2))
                    go_wp2
                    first | go_end0 | (refine bodyPost_ret (results_none rfl _ _ _) rfl ?_)
                    exact ⟨rfl, n3, HJ.out.1, HJ.out.2, HR3.out, HC3.out⟩
                  · skip
                    have xa : (c : Int) < (en : Int) := by omega
                    have xb : ¬ (en : Int) < (b : Int) := by omega
                    have HCALL := Lib.hid (rotate_full its F g o cap r m en wr HR.out hl u1 u2 (by omega))
                    go_wp2_with fail
                    refine HCALL.out.mono ?_
                    rintro e w1 ⟨rfl, n1, hm1, hrr, hcc⟩
                    have HR1 := Lib.hid hrr; have HC1 := Lib.hid (HC.out.trans hcc); have HM1 := Lib.hid hm1
                    clear hrr hcc HCALL
                    have hln1 : n1.length = its.length := hm1.len
                    clear hm1
                    obtain ⟨hp1, hsp, hsa, hsb, hsc, hsd⟩ := HDONE.out _ HM1.out
                    have HP1 := Lib.hid hp1; have HSP := Lib.hid hsp; have HSA := Lib.hid hsa; have HSB := Lib.hid hsb; have HSC := Lib.hid hsc; have HSD := Lib.hid hsd
                    clear hp1 hsp hsa hsb hsc hsd
                    have hcall := HI.out n1 F g o cap a r c w1 HBL.out.1 HR1.out (by omega) v1 v2 (by omega) HSA.out HSB.out
                    rw [hln1] at hcall
                    have HCALL2 := Lib.hid hcall; clear hcall
                    go_wp2_with fail
                    refine HCALL2.out.mono ?_
                    rintro e w2 ⟨rfl, n2, hp2, hs2, hrr, hcc⟩
                    have HR2 := Lib.hid hrr; have HC2 := Lib.hid (HC1.out.trans hcc); have HP2 := Lib.hid hp2; have HT2 := Lib.hid hs2; have hln2 : n2.length = its.length := hp2.len.trans hln1
                    clear hrr hcc hp2 hs2 HCALL2
                    have HP3 := Lib.hid (PermOn.refl c b n2)
                    have HT3 := Lib.hid (show SortedOn c b n2 from by
                      have e1 : en = b := by omega
                      have k := HSC.out.same HP2.out (.inr (Nat.le_refl _)); rw [e1] at k; exact k)
                    have HR3 := Lib.hid HR2.out; have HC3 := Lib.hid HC2.out
                    have HJ := Lib.hid (merge_join HP1.out HSP.out HP2.out HT2.out HP3.out HT3.out (Nat.le_of_lt hmd1) (Nat.le_of_lt hmd2))
                    go_wp2
                    first | go_end0 | (refine bodyPost_ret (results_none rfl _ _ _) rfl ?_)
                    exact ⟨rfl, n2, HJ.out.1, HJ.out.2, HR3.out, HC3.out⟩
                · skip
                  have xa : ¬ (c : Int) < (en : Int) := by omega
                  have HCALL := Lib.hid (rotate_full its F g o cap r m en wr HR.out hl u1 u2 (by omega))
                  go_wp2_with fail
                  refine HCALL.out.mono ?_
                  rintro e w1 ⟨rfl, n1, hm1, hrr, hcc⟩
                  have HR1 := Lib.hid hrr; have HC1 := Lib.hid (HC.out.trans hcc); have HM1 := Lib.hid hm1
                  clear hrr hcc HCALL
                  have hln1 : n1.length = its.length := hm1.len
                  clear hm1
                  obtain ⟨hp1, hsp, hsa, hsb, hsc, hsd⟩ := HDONE.out _ HM1.out
                  have HP1 := Lib.hid hp1; have HSP := Lib.hid hsp; have HSA := Lib.hid hsa; have HSB := Lib.hid hsb; have HSC := Lib.hid hsc; have HSD := Lib.hid hsd
                  clear hp1 hsp hsa hsb hsc hsd
                  have hcall := HI.out n1 F g o cap a r c w1 HBL.out.1 HR1.out (by omega) v1 v2 (by omega) HSA.out HSB.out
                  rw [hln1] at hcall
                  have HCALL2 := Lib.hid hcall; clear hcall
                  go_wp2_with fail
                  refine HCALL2.out.mono ?_
                  rintro e w2 ⟨rfl, n2, hp2, hs2, hrr, hcc⟩
                  have HR2 := Lib.hid hrr; have HC2 := Lib.hid (HC1.out.trans hcc); have HP2 := Lib.hid hp2; have HT2 := Lib.hid hs2; have hln2 : n2.length = its.length := hp2.len.trans hln1
                  clear hrr hcc hp2 hs2 HCALL2
                  have HP3 := Lib.hid (PermOn.refl c b n2)
                  have HT3 := Lib.hid (show SortedOn c b n2 from by
                    have e1 : en = c := by omega
                    have k := HSD.out.same HP2.out (.inr (by omega)); rw [e1] at k; exact k)
                  have HR3 := Lib.hid HR2.out; have HC3 := Lib.hid HC2.out
                  have HJ := Lib.hid (merge_join HP1.out HSP.out HP2.out HT2.out HP3.out HT3.out (Nat.le_of_lt hmd1) (Nat.le_of_lt hmd2))
                  go_wp2
                  first | go_end0 | (refine bodyPost_ret (results_none rfl _ _ _) rfl ?_)
                  exact ⟨rfl, n2, HJ.out.1, HJ.out.2, HR3.out, HC3.out⟩
              · skip
                have va : (a : Int) < (r : Int) := by omega
                have vb : ¬ (r : Int) < (c : Int) := by omega
                by_cases x1 : c < en
                · by_cases x2 : en < b
                  · skip
                    have xa : (c : Int) < (en : Int) := by omega
                    have xb : (en : Int) < (b : Int) := by omega
                    have HCALL := Lib.hid (rotate_full its F g o cap r m en wr HR.out hl u1 u2 (by omega))
                    go_wp2_with fail
                    refine HCALL.out.mono ?_
                    rintro e w1 ⟨rfl, n1, hm1, hrr, hcc⟩
                    have HR1 := Lib.hid hrr; have HC1 := Lib.hid (HC.out.trans hcc); have HM1 := Lib.hid hm1
                    clear hrr hcc HCALL
                    have hln1 : n1.length = its.length := hm1.len
                    clear hm1
                    obtain ⟨hp1, hsp, hsa, hsb, hsc, hsd⟩ := HDONE.out _ HM1.out
                    have HP1 := Lib.hid hp1; have HSP := Lib.hid hsp; have HSA := Lib.hid hsa; have HSB := Lib.hid hsb; have HSC := Lib.hid hsc; have HSD := Lib.hid hsd
                    clear hp1 hsp hsa hsb hsc hsd
                    have HP2 := Lib.hid (PermOn.refl a c n1)
                    have HT2 := Lib.hid (show SortedOn a c n1 from by
                      have e1 : r = c := by omega
                      rw [e1] at HSA; exact HSA.out)
                    have HR2 := Lib.hid HR1.out; have HC2 := Lib.hid HC1.out
                    have hln2 : n1.length = its.length := hln1
                    have hcall := HI.out n1 F g o cap c en b w1 HBL.out.2 HR2.out (by omega) x1 x2 (by omega) (HSC.out.same HP2.out (.inr (Nat.le_refl _))) (HSD.out.same HP2.out (.inr (by omega)))
                    rw [hln2] at hcall
                    have HCALL3 := Lib.hid hcall; clear hcall
                    go_wp2_with fail
                    refine HCALL3.out.mono ?_
                    rintro e w3 ⟨rfl, n3, hp3, hs3, hrr, hcc⟩
                    have HR3 := Lib.hid hrr; have HC3 := Lib.hid (HC2.out.trans hcc); have HP3 := Lib.hid hp3; have HT3 := Lib.hid hs3
                    clear hrr hcc hp3 hs3 HCALL3
                    have HJ := Lib.hid (merge_join HP1.out HSP.out HP2.out HT2.out HP3.out HT3.out (Nat.le_of_lt hmd1) (Nat.le_of_lt hmd2))
                    go_wp2
                    first | go_end0 | (refine bodyPost_ret (results_none rfl _ _ _) rfl ?_)
                    exact ⟨rfl, n3, HJ.out.1, HJ.out.2, HR3.out, HC3.out⟩
                  · skip
                    have xa : (c : Int) < (en : Int) := by omega
                    have xb : ¬ (en : Int) < (b : Int) := by omega
                    have HCALL := Lib.hid (rotate_full its F g o cap r m en wr HR.out hl u1 u2 (by omega))
                    go_wp2_with fail
                    refine HCALL.out.mono ?_
                    rintro e w1 ⟨rfl, n1, hm1, hrr, hcc⟩
                    have HR1 := Lib.hid hrr; have HC1 := Lib.hid (HC.out.trans hcc); have HM1 := Lib.hid hm1
                    clear hrr hcc HCALL
                    have hln1 : n1.length = its.length := hm1.len
                    clear hm1
                    obtain ⟨hp1, hsp, hsa, hsb, hsc, hsd⟩ := HDONE.out _ HM1.out
                    have HP1 := Lib.hid hp1; have HSP := Lib.hid hsp; have HSA := Lib.hid hsa; have HSB := Lib.hid hsb; have HSC := Lib.hid hsc; have HSD := Lib.hid hsd
                    clear hp1 hsp hsa hsb hsc hsd
                    have HP2 := Lib.hid (PermOn.refl a c n1)
                    have HT2 := Lib.hid (show SortedOn a c n1 from by
                      have e1 : r = c := by omega
                      rw [e1] at HSA; exact HSA.out)
                    have HR2 := Lib.hid HR1.out; have HC2 := Lib.hid HC1.out
                    have hln2 : n1.length = its.length := hln1
                    have HP3 := Lib.hid (PermOn.refl c b n1)
                    have HT3 := Lib.hid (show SortedOn c b n1 from by
                      have e1 : en = b := by omega
                      have k := HSC.out.same HP2.out (.inr (Nat.le_refl _)); rw [e1] at k; exact k)
                    have HR3 := Lib.hid HR2.out; have HC3 := Lib.hid HC2.out
                    have HJ := Lib.hid (merge_join HP1.out HSP.out HP2.out HT2.out HP3.out HT3.out (Nat.le_of_lt hmd1) (Nat.le_of_lt hmd2))
                    go_wp2
                    first | go_end0 | (refine bodyPost_ret (results_none rfl _ _ _) rfl ?_)
                    exact ⟨rfl, n1, HJ.out.1, HJ.out.2, HR3.out, HC3.out⟩
                · skip
                  have xa : ¬ (c : Int) < (en : Int) := by omega
                  have HCALL := Lib.hid (rotate_full its F g o cap r m en wr HR.out hl u1 u2 (by omega))
                  go_wp2_with fail
                  refine HCALL.out.mono ?_
                  rintro e w1 ⟨rfl, n1, hm1, hrr, hcc⟩
                  have HR1 := Lib.hid hrr; have HC1 := Lib.hid (HC.out.trans hcc); have HM1 := Lib.hid hm1
                  clear hrr hcc HCALL
                  have hln1 : n1.length = its.length := hm1.len
                  clear hm1
                  obtain ⟨hp1, hsp, hsa, hsb, hsc, hsd⟩ := HDONE.out _ HM1.out
                  have HP1 := Lib.hid hp1; have HSP := Lib.hid hsp; have HSA := Lib.hid hsa; have HSB := Lib.hid hsb; have HSC := Lib.hid hsc; have HSD := Lib.hid hsd
                  clear hp1 hsp hsa hsb hsc hsd
                  have HP2 := Lib.hid (PermOn.refl a c n1)
                  have HT2 := Lib.hid (show SortedOn a c n1 from by
                    have e1 : r = c := by omega
                    rw [e1] at HSA; exact HSA.out)
                  have HR2 := Lib.hid HR1.out; have HC2 := Lib.hid HC1.out
                  have hln2 : n1.length = its.length := hln1
                  have HP3 := Lib.hid (PermOn.refl c b n1)
                  have HT3 := Lib.hid (show SortedOn c b n1 from by
                    have e1 : en = c := by omega
                    have k := HSD.out.same HP2.out (.inr (by omega)); rw [e1] at k; exact k)
                  have HR3 := Lib.hid HR2.out; have HC3 := Lib.hid HC2.out
                  have HJ := Lib.hid (merge_join HP1.out HSP.out HP2.out HT2.out HP3.out HT3.out (Nat.le_of_lt hmd1) (Nat.le_of_lt hmd2))
                  go_wp2
                  first | go_end0 | (refine bodyPost_ret (results_none rfl _ _ _) rfl ?_)
                  exact ⟨rfl, n1, HJ.out.1, HJ.out.2, HR3.out, HC3.out⟩
            · skip
              have va : ¬ (a : Int) < (r : Int) := by omega
              by_cases x1 : c < en
              · by_cases x2 : en < b
                · skip
                  have xa : (c : Int) < (en : Int) := by omega
                  have xb : (en : Int) < (b : Int) := by omega
                  have HCALL := Lib.hid (rotate_full its F g o cap r m en wr HR.out hl u1 u2 (by omega))
                  go_wp2_with fail
                  refine HCALL.out.mono ?_
                  rintro e w1 ⟨rfl, n1, hm1, hrr, hcc⟩
                  have HR1 := Lib.hid hrr; have HC1 := Lib.hid (HC.out.trans hcc); have HM1 := Lib.hid hm1
                  clear hrr hcc HCALL
                  have hln1 : n1.length = its.length := hm1.len
                  clear hm1
                  obtain ⟨hp1, hsp, hsa, hsb, hsc, hsd⟩ := HDONE.out _ HM1.out
                  have HP1 := Lib.hid hp1; have HSP := Lib.hid hsp; have HSA := Lib.hid hsa; have HSB := Lib.hid hsb; have HSC := Lib.hid hsc; have HSD := Lib.hid hsd
                  clear hp1 hsp hsa hsb hsc hsd
                  have HP2 := Lib.hid (PermOn.refl a c n1)
                  have HT2 := Lib.hid (show SortedOn a c n1 from by
                    have e1 : r = a := by omega
                    rw [e1] at HSB; exact HSB.out)
                  have HR2 := Lib.hid HR1.out; have HC2 := Lib.hid HC1.out
                  have hln2 : n1.length = its.length := hln1
                  have hcall := HI.out n1 F g o cap c en b w1 HBL.out.2 HR2.out (by omega) x1 x2 (by omega) (HSC.out.same HP2.out (.inr (Nat.le_refl _))) (HSD.out.same HP2.out (.inr (by omega)))
                  rw [hln2] at hcall
                  have HCALL3 := Lib.hid hcall; clear hcall
                  go_wp2_with fail
                  refine HCALL3.out.mono ?_
                  rintro e w3 ⟨rfl, n3, hp3, hs3, hrr, hcc⟩
                  have HR3 := Lib.hid hrr; have HC3 := Lib.hid (HC2.out.trans hcc); have HP3 := Lib.hid hp3; have HT3 := Lib.hid hs3
                  clear hrr hcc hp3 hs3 HCALL3
                  have HJ := Lib.hid (merge_join HP1.out HSP.out HP2.out HT2.out HP3.out HT3.out (Nat.le_of_lt hmd1) (Nat.le_of_lt hmd2))
                  go_wp2
                  first | go_end0 | (refine bodyPost_ret (results_none rfl _ _ _) rfl ?_)
                  exact ⟨rfl, n3, HJ.out.1, HJ.out.2, HR3.out, HC3.out⟩
                · skip
                  have xa : (c : Int) < (en : Int) := by omega
                  have xb : ¬ (en : Int) < (b : Int) := by omega
                  have HCALL := Lib.hid (rotate_full its F g o cap r m en wr HR.out hl u1 u2 (by omega))
                  go_wp2_with fail
                  refine HCALL.out.mono ?_
                  rintro e w1 ⟨rfl, n1, hm1, hrr, hcc⟩
                  have HR1 := Lib.hid hrr; have HC1 := Lib.hid (HC.out.trans hcc); have HM1 := Lib.hid hm1
                  clear hrr hcc HCALL
                  have hln1 : n1.length = its.length := hm1.len
                  clear hm1
                  obtain ⟨hp1, hsp, hsa, hsb, hsc, hsd⟩ := HDONE.out _ HM1.out
                  have HP1 := Lib.hid hp1; have HSP := Lib.hid hsp; have HSA := Lib.hid hsa; have HSB := Lib.hid hsb; have HSC := Lib.hid hsc; have HSD := Lib.hid hsd
                  clear hp1 hsp hsa hsb hsc hsd
                  have HP2 := Lib.hid (PermOn.refl a c n1)
                  have HT2 := Lib.hid (show SortedOn a c n1 from by
                    have e1 : r = a := by omega
                    rw [e1] at HSB; exact HSB.out)
                  have HR2 := Lib.hid HR1.out; have HC2 := Lib.hid HC1.out
                  have hln2 : n1.length = its.length := hln1
                  have HP3 := Lib.hid (PermOn.refl c b n1)
                  have HT3 := Lib.hid (show SortedOn c b n1 from by
                    have e1 : en = b := by omega
                    have k := HSC.out.same HP2.out (.inr (Nat.le_refl _)); rw [e1] at k; exact k)
                  have HR3 := Lib.hid HR2.out; have HC3 := Lib.hid HC2.out
                  have HJ := Lib.hid (merge_join HP1.out HSP.out HP2.out HT2.out HP3.out HT3.out (Nat.le_of_lt hmd1) (Nat.le_of_lt hmd2))
                  go_wp2
                  first | go_end0 | (refine bodyPost_ret (results_none rfl _ _ _) rfl ?_)
                  exact ⟨rfl, n1, HJ.out.1, HJ.out.2, HR3.out, HC3.out⟩
              · skip
                have xa : ¬ (c : Int) < (en : Int) := by omega
                have HCALL := Lib.hid (rotate_full its F g o cap r m en wr HR.out hl u1 u2 (by omega))
                go_wp2_with fail
                refine HCALL.out.mono ?_
                rintro e w1 ⟨rfl, n1, hm1, hrr, hcc⟩
                have HR1 := Lib.hid hrr; have HC1 := Lib.hid (HC.out.trans hcc); have HM1 := Lib.hid hm1
                clear hrr hcc HCALL
                have hln1 : n1.length = its.length := hm1.len
                clear hm1
                obtain ⟨hp1, hsp, hsa, hsb, hsc, hsd⟩ := HDONE.out _ HM1.out
                have HP1 := Lib.hid hp1; have HSP := Lib.hid hsp; have HSA := Lib.hid hsa; have HSB := Lib.hid hsb; have HSC := Lib.hid hsc; have HSD := Lib.hid hsd
                clear hp1 hsp hsa hsb hsc hsd
                have HP2 := Lib.hid (PermOn.refl a c n1)
                have HT2 := Lib.hid (show SortedOn a c n1 from by
                  have e1 : r = a := by omega
                  rw [e1] at HSB; exact HSB.out)
                have HR2 := Lib.hid HR1.out; have HC2 := Lib.hid HC1.out
                have hln2 : n1.length = its.length := hln1
                have HP3 := Lib.hid (PermOn.refl c b n1)
                have HT3 := Lib.hid (show SortedOn c b n1 from by
                  have e1 : en = c := by omega
                  have k := HSD.out.same HP2.out (.inr (by omega)); rw [e1] at k; exact k)
                have HR3 := Lib.hid HR2.out; have HC3 := Lib.hid HC2.out
                have HJ := Lib.hid (merge_join HP1.out HSP.out HP2.out HT2.out HP3.out HT3.out (Nat.le_of_lt hmd1) (Nat.le_of_lt hmd2))
                go_wp2
                first | go_end0 | (refine bodyPost_ret (results_none rfl _ _ _) rfl ?_)
                exact ⟨rfl, n1, HJ.out.1, HJ.out.2, HR3.out, HC3.out⟩
          · skip
            have ua : (r : Int) < (m : Int) := by omega
            have ub : ¬ (m : Int) < (en : Int) := by omega
            by_cases v1 : a < r
            · by_cases v2 : r < c
              · skip
                have va : (a : Int) < (r : Int) := by omega
                have vb : (r : Int) < (c : Int) := by omega
                by_cases x1 : c < en
                · by_cases x2 : en < b
                  · skip
                    have xa : (c : Int) < (en : Int) := by omega
                    have xb : (en : Int) < (b : Int) := by omega
                    have HM1 := Lib.hid ((Moved.refl its).congr (h := roIx r m en) fun k => (roIx_id (by omega) hr4 hr3 k).symm)
                    have HR1 := Lib.hid HR.out; have HC1 := Lib.hid HC.out
                    obtain ⟨hp1, hsp, hsa, hsb, hsc, hsd⟩ := HDONE.out _ HM1.out
                    have HP1 := Lib.hid hp1; have HSP := Lib.hid hsp; have HSA := Lib.hid hsa; have HSB := Lib.hid hsb; have HSC := Lib.hid hsc; have HSD := Lib.hid hsd
                    clear hp1 hsp hsa hsb hsc hsd
                    have hcall := HI.out its F g o cap a r c wr HBL.out.1 HR1.out (by omega) v1 v2 (by omega) HSA.out HSB.out
                    have HCALL2 := Lib.hid hcall; clear hcall
                    go_wp2_with fail
                    refine HCALL2.out.mono ?_
                    rintro e w2 ⟨rfl, n2, hp2, hs2, hrr, hcc⟩
                    have HR2 := Lib.hid hrr; have HC2 := Lib.hid (HC1.out.trans hcc); have HP2 := Lib.hid hp2; have HT2 := Lib.hid hs2; have hln2 : n2.length = its.length := hp2.len
                    clear hrr hcc hp2 hs2 HCALL2
                    have hcall := HI.out n2 F g o cap c en b w2 HBL.out.2 HR2.out (by omega) x1 x2 (by omega) (HSC.out.same HP2.out (.inr (Nat.le_refl _))) (HSD.out.same HP2.out (.inr (by omega)))
                    rw [hln2] at hcall
                    have HCALL3 := Lib.hid hcall; clear hcall
                    go_wp2_with fail
                    refine HCALL3.out.mono ?_
                    rintro e w3 ⟨rfl, n3, hp3, hs3, hrr, hcc⟩
                    have HR3 := Lib.hid hrr; have HC3 := Lib.hid (HC2.out.trans hcc); have HP3 := Lib.hid hp3; have HT3 := Lib.hid hs3
                    clear hrr hcc hp3 hs3 HCALL3
                    have HJ := Lib.hid (merge_join HP1.out HSP.out HP2.out HT2.out HP3.out HT3.out (Nat.le_of_lt hmd1) (Nat.le_of_lt hmd2))
                    go_wp2
                    first | go_end0 | (refine bodyPost_ret (results_none rfl _ _ _) rfl ?_)
                    exact ⟨rfl, n3, HJ.out.1, HJ.out.2, HR3.out, HC3.out⟩
                  · skip
                    have xa : (c : Int) < (en : Int) := by omega
                    have xb : ¬ (en : Int) < (b : Int) := by omega
                    have HM1 := Lib.hid ((Moved.refl its).congr (h := roIx r m en) fun k => (roIx_id (by omega) hr4 hr3 k).symm)
                    have HR1 := Lib.hid HR.out; have HC1 := Lib.hid HC.out
                    obtain ⟨hp1, hsp, hsa, hsb, hsc, hsd⟩ := HDONE.out _ HM1.out
                    have HP1 := Lib.hid hp1; have HSP := Lib.hid hsp; have HSA := Lib.hid hsa; have HSB := Lib.hid hsb; have HSC := Lib.hid hsc; have HSD := Lib.hid hsd
                    clear hp1 hsp hsa hsb hsc hsd
                    have hcall := HI.out its F g o cap a r c wr HBL.out.1 HR1.out (by omega) v1 v2 (by omega) HSA.out HSB.out
                    have HCALL2 := Lib.hid hcall; clear hcall
                    go_wp2_with fail
                    refine HCALL2.out.mono ?_
                    rintro e w2 ⟨rfl, n2, hp2, hs2, hrr, hcc⟩
                    have HR2 := Lib.hid hrr; have HC2 := Lib.hid (HC1.out.trans hcc); have HP2 := Lib.hid hp2; have HT2 := Lib.hid hs2; have hln2 : n2.length = its.length := hp2.len
                    clear hrr hcc hp2 hs2 HCALL2
                    have HP3 := Lib.hid (PermOn.refl c b n2)
                    have HT3 := Lib.hid (show SortedOn c b n2 from by
                      have e1 : en = b := by omega
                      have k := HSC.out.same HP2.out (.inr (Nat.le_refl _)); rw [e1] at k; exact k)
                    have HR3 := Lib.hid HR2.out; have HC3 := Lib.hid HC2.out
                    have HJ := Lib.hid (merge_join HP1.out HSP.out HP2.out HT2.out HP3.out HT3.out (Nat.le_of_lt hmd1) (Nat.le_of_lt hmd2))
                    go_wp2
                    first | go_end0 | (refine bodyPost_ret (results_none rfl _ _ _) rfl ?_)
                    exact ⟨rfl, n2, HJ.out.1, HJ.out.2, HR3.out, HC3.out⟩
                · skip
                  have xa : ¬ (c : Int) < (en : Int) := by omega
                  have HM1 := Lib.hid ((Moved.refl its).congr (h := roIx r m en) fun k => (roIx_id (by omega) hr4 hr3 k).symm)
                  have HR1 := Lib.hid HR.out; have HC1 := Lib.hid HC.out
                  obtain ⟨hp1, hsp, hsa, hsb, hsc, hsd⟩ := HDONE.out _ HM1.out
                  have HP1 := Lib.hid hp1; have HSP := Lib.hid hsp; have HSA := Lib.hid hsa; have HSB := Lib.hid hsb; have HSC := Lib.hid hsc; have HSD := Lib.hid hsd
                  clear hp1 hsp hsa hsb hsc hsd
                  have hcall := HI.out its F g o cap a r c wr HBL.out.1 HR1.out (by omega) v1 v2 (by omega) HSA.out HSB.out
                  have HCALL2 := Lib.hid hcall; clear hcall
                  go_wp2_with fail
                  refine HCALL2.out.mono ?_
                  rintro e w2 ⟨rfl, n2, hp2, hs2, hrr, hcc⟩
                  have HR2 := Lib.hid hrr; have HC2 := Lib.hid (HC1.out.trans hcc); have HP2 := Lib.hid hp2; have HT2 := Lib.hid hs2; have hln2 : n2.length = its.length := hp2.len
                  clear hrr hcc hp2 hs2 HCALL2
                  have HP3 := Lib.hid (PermOn.refl c b n2)
                  have HT3 := Lib.hid (show SortedOn c b n2 from by
                    have e1 : en = c := by omega
                    have k := HSD.out.same HP2.out (.inr (by omega)); rw [e1] at k; exact k)
                  have HR3 := Lib.hid HR2.out; have HC3 := Lib.hid HC2.out
                  have HJ := Lib.hid (merge_join HP1.out HSP.out HP2.out HT2.out HP3.out HT3.out (Nat.le_of_lt hmd1) (Nat.le_of_lt hmd2))
                  go_wp2
                  first | go_end0 | (refine bodyPost_ret (results_none rfl _ _ _) rfl ?_)
                  exact ⟨rfl, n2, HJ.out.1, HJ.out.2, HR3.out, HC3.out⟩
              · skip
                have va : (a : Int) < (r : Int) := by omega
                have vb : ¬ (r : Int) < (c : Int) := by omega
                by_cases x1 : c < en
                · by_cases x2 : en < b
                  · skip
                    have xa : (c : Int) < (en : Int) := by omega
                    have xb : (en : Int) < (b : Int) := by omega
                    have HM1 := Lib.hid ((Moved.refl its).congr (h := roIx r m en) fun k => (roIx_id (by omega) hr4 hr3 k).symm)
                    have HR1 := Lib.hid HR.out; have HC1 := Lib.hid HC.out
                    obtain ⟨hp1, hsp, hsa, hsb, hsc, hsd⟩ := HDONE.out _ HM1.out
                    have HP1 := Lib.hid hp1; have HSP := Lib.hid hsp; have HSA := Lib.hid hsa; have HSB := Lib.hid hsb; have HSC := Lib.hid hsc; have HSD := Lib.hid hsd
                    clear hp1 hsp hsa hsb hsc hsd
                    have HP2 := Lib.hid (PermOn.refl a c its)
                    have HT2 := Lib.hid (show SortedOn a c its from by
                      have e1 : r = c := by omega
                      rw [e1] at HSA; exact HSA.out)
                    have HR2 := Lib.hid HR1.out; have HC2 := Lib.hid HC1.out
                    have hcall := HI.out its F g o cap c en b wr HBL.out.2 HR2.out (by omega) x1 x2 (by omega) (HSC.out.same HP2.out (.inr (Nat.le_refl _))) (HSD.out.same HP2.out (.inr (by omega)))
                    have HCALL3 := Lib.hid hcall; clear hcall
                    go_wp2_with fail
                    refine HCALL3.out.mono ?_
                    rintro e w3 ⟨rfl, n3, hp3, hs3, hrr, hcc⟩
                    have HR3 := Lib.hid hrr; have HC3 := Lib.hid (HC2.out.trans hcc); have HP3 := Lib.hid hp3; have HT3 := Lib.hid hs3
                    clear hrr hcc hp3 hs3 HCALL3
                    have HJ := Lib.hid (merge_join HP1.out HSP.out HP2.out HT2.out HP3.out HT3.out (Nat.le_of_lt hmd1) (Nat.le_of_lt hmd2))
                    go_wp2
                    first | go_end0 | (refine bodyPost_ret (results_none rfl _ _ _) rfl ?_)
                    exact ⟨rfl, n3, HJ.out.1, HJ.out.2, HR3.out, HC3.out⟩
                  · skip
                    have xa : (c : Int) < (en : Int) := by omega
                    have xb : ¬ (en : Int) < (b : Int) := by omega
                    have HM1 := Lib.hid ((Moved.refl its).congr (h := roIx r m en) fun k => (roIx_id (by omega) hr4 hr3 k).symm)
                    have HR1 := Lib.hid HR.out; have HC1 := Lib.hid HC.out
                    obtain ⟨hp1, hsp, hsa, hsb, hsc, hsd⟩ := HDONE.out _ HM1.out
                    have HP1 := Lib.hid hp1; have HSP := Lib.hid hsp; have HSA := Lib.hid hsa; have HSB := Lib.hid hsb; have HSC := Lib.hid hsc; have HSD := Lib.hid hsd
                    clear hp1 hsp hsa hsb hsc hsd
                    have HP2 := Lib.hid (PermOn.refl a c its)
                    have HT2 := Lib.hid (show SortedOn a c its from by
                      have e1 : r = c := by omega
                      rw [e1] at HSA; exact HSA.out)
                    have HR2 := Lib.hid HR1.out; have HC2 := Lib.hid HC1.out
                    have HP3 := Lib.hid (PermOn.refl c b its)
                    have HT3 := Lib.hid (show SortedOn c b its from by
                      have e1 : en = b := by omega
                      have k := HSC.out.same HP2.out (.inr (Nat.le_refl _)); rw [e1] at k; exact k)
                    have HR3 := Lib.hid HR2.out; have HC3 := Lib.hid HC2.out
                    have HJ := Lib.hid (merge_join HP1.out HSP.out HP2.out HT2.out HP3.out HT3.out (Nat.le_of_lt hmd1) (Nat.le_of_lt hmd2))
                    go_wp2
                    first | go_end0 | (refine bodyPost_ret (results_none rfl _ _ _) rfl ?_)
                    exact ⟨rfl, its, HJ.out.1, HJ.out.2, HR3.out, HC3.out⟩
                · skip
                  have xa : ¬ (c : Int) < (en : Int) := by omega
                  have HM1 := Lib.hid ((Moved.refl its).congr (h := roIx r m en) fun k => (roIx_id (by omega) hr4 hr3 k).symm)
                  have HR1 := Lib.hid HR.out; have HC1 := Lib.hid HC.out
                  obtain ⟨hp1, hsp, hsa, hsb, hsc, hsd⟩ := HDONE.out _ HM1.out
                  have HP1 := Lib.hid hp1; have HSP := Lib.hid hsp; have HSA := Lib.hid hsa; have HSB := Lib.hid hsb; have HSC := Lib.hid hsc; have HSD := Lib.hid hsd
                  clear hp1 hsp hsa hsb hsc hsd
                  have HP2 := Lib.hid (PermOn.refl a c its)
                  have HT2 := Lib.hid (show SortedOn a c its from by
                    have e1 : r = c := by omega
                    rw [e1] at HSA; exact HSA.out)
                  have HR2 := Lib.hid HR1.out; have HC2 := Lib.hid HC1.out
                  have HP3 := Lib.hid (PermOn.refl c b its)
                  have HT3 := Lib.hid (show SortedOn c b its from by
                    have e1 : en = c := by omega
                    have k := HSD.out.same HP2.out (.inr (by omega)); rw [e1] at k; exact k)
                  have HR3 := Lib.hid HR2.out; have HC3 := Lib.hid HC2.out
                  have HJ := Lib.hid (merge_join HP1.out HSP.out HP2.out HT2.out HP3.out HT3.out (Nat.le_of_lt hmd1) (Nat.le_of_lt hmd2))
                  go_wp2
                  first | go_end0 | (refine bodyPost_ret (results_none rfl _ _ _) rfl ?_)
                  exact ⟨rfl, its, HJ.out.1, HJ.out.2, HR3.out, HC3.out⟩
            · skip
              have va : ¬ (a : Int) < (r : Int) := by omega
              by_cases x1 : c < en
              · by_cases x2 : en < b
                · skip
                  have xa : (c : Int) < (en : Int) := by omega
                  have xb : (en : Int) < (b : Int) := by omega
                  have HM1 := Lib.hid ((Moved.refl its).congr (h := roIx r m en) fun k => (roIx_id (by omega) hr4 hr3 k).symm)
                  have HR1 := Lib.hid HR.out; have HC1 := Lib.hid HC.out
                  obtain ⟨hp1, hsp, hsa, hsb, hsc, hsd⟩ := HDONE.out _ HM1.out
                  have HP1 := Lib.hid hp1; have HSP := Lib.hid hsp; have HSA := Lib.hid hsa; have HSB := Lib.hid hsb; have HSC := Lib.hid hsc; have HSD := Lib.hid hsd
                  clear hp1 hsp hsa hsb hsc hsd
                  have HP2 := Lib.hid (PermOn.refl a c its)
                  have HT2 := Lib.hid (show SortedOn a c its from by
                    have e1 : r = a := by omega
                    rw [e1] at HSB; exact HSB.out)
                  have HR2 := Lib.hid HR1.out; have HC2 := Lib.hid HC1.out
                  have hcall := HI.out its F g o cap c en b wr HBL.out.2 HR2.out (by omega) x1 x2 (by omega) (HSC.out.same HP2.out (.inr (Nat.le_refl _))) (HSD.out.same HP2.out (.inr (by omega)))
                  have HCALL3 := Lib.hid hcall; clear hcall
                  go_wp2_with fail
                  refine HCALL3.out.mono ?_
                  rintro e w3 ⟨rfl, n3, hp3, hs3, hrr, hcc⟩
                  have HR3 := Lib.hid hrr; have HC3 := Lib.hid (HC2.out.trans hcc); have HP3 := Lib.hid hp3; have HT3 := Lib.hid hs3
                  clear hrr hcc hp3 hs3 HCALL3
                  have HJ := Lib.hid (merge_join HP1.out HSP.out HP2.out HT2.out HP3.out HT3.out (Nat.le_of_lt hmd1) (Nat.le_of_lt hmd2))
                  go_wp2
                  first | go_end0 | (refine bodyPost_ret (results_none rfl _ _ _) rfl ?_)
                  exact ⟨rfl, n3, HJ.out.1, HJ.out.2, HR3.out, HC3.out⟩
                · skip
                  have xa : (c : Int) < (en : Int) := by omega
                  have xb : ¬ (en : Int) < (b : Int) := by omega
                  have HM1 := Lib.hid ((Moved.refl its).congr (h := roIx r m en) fun k => (roIx_id (by omega) hr4 hr3 k).symm)
                  have HR1 := Lib.hid HR.out; have HC1 := Lib.hid HC.out
                  obtain ⟨hp1, hsp, hsa, hsb, hsc, hsd⟩ := HDONE.out _ HM1.out
                  have HP1 := Lib.hid hp1; have HSP := Lib.hid hsp; have HSA := Lib.hid hsa; have HSB := Lib.hid hsb; have HSC := Lib.hid hsc; have HSD := Lib.hid hsd
                  clear hp1 hsp hsa hsb hsc hsd
                  have HP2 := Lib.hid (PermOn.refl a c its)
                  have HT2 := Lib.hid (show SortedOn a c its from by
                    have e1 : r = a := by omega
                    rw [e1] at HSB; exact HSB.out)
                  have HR2 := Lib.hid HR1.out; have HC2 := Lib.hid HC1.out
                  have HP3 := Lib.hid (PermOn.refl c b its)
                  have HT3 := Lib.hid (show SortedOn c b its from by
                    have e1 : en = b := by omega
                    have k := HSC.out.same HP2.out (.inr (Nat.le_refl _)); rw [e1] at k; exact k)
                  have HR3 := Lib.hid HR2.out; have HC3 := Lib.hid HC2.out
                  have HJ := Lib.hid (merge_join HP1.out HSP.out HP2.out HT2.out HP3.out HT3.out (Nat.le_of_lt hmd1) (Nat.le_of_lt hmd2))
                  go_wp2
                  first | go_end0 | (refine bodyPost_ret (results_none rfl _ _ _) rfl ?_)
                  exact ⟨rfl, its, HJ.out.1, HJ.out.2, HR3.out, HC3.out⟩
              · skip
                have xa : ¬ (c : Int) < (en : Int) := by omega
                have HM1 := Lib.hid ((Moved.refl its).congr (h := roIx r m en) fun k => (roIx_id (by omega) hr4 hr3 k).symm)
                have HR1 := Lib.hid HR.out; have HC1 := Lib.hid HC.out
                obtain ⟨hp1, hsp, hsa, hsb, hsc, hsd⟩ := HDONE.out _ HM1.out
                have HP1 := Lib.hid hp1; have HSP := Lib.hid hsp; have HSA := Lib.hid hsa; have HSB := Lib.hid hsb; have HSC := Lib.hid hsc; have HSD := Lib.hid hsd
                clear hp1 hsp hsa hsb hsc hsd
                have HP2 := Lib.hid (PermOn.refl a c its)
                have HT2 := Lib.hid (show SortedOn a c its from by
                  have e1 : r = a := by omega
                  rw [e1] at HSB; exact HSB.out)
                have HR2 := Lib.hid HR1.out; have HC2 := Lib.hid HC1.out
                have HP3 := Lib.hid (PermOn.refl c b its)
                have HT3 := Lib.hid (show SortedOn c b its from by
                  have e1 : en = c := by omega
                  have k := HSD.out.same HP2.out (.inr (by omega)); rw [e1] at k; exact k)
                have HR3 := Lib.hid HR2.out; have HC3 := Lib.hid HC2.out
                have HJ := Lib.hid (merge_join HP1.out HSP.out HP2.out HT2.out HP3.out HT3.out (Nat.le_of_lt hmd1) (Nat.le_of_lt hmd2))
                go_wp2
                first | go_end0 | (refine bodyPost_ret (results_none rfl _ _ _) rfl ?_)
                exact ⟨rfl, its, HJ.out.1, HJ.out.2, HR3.out, HC3.out⟩
        · skip
          have ua : ¬ (r : Int) < (m : Int) := by omega
          by_cases v1 : a < r
          · by_cases v2 : r < c
            · skip
              have va : (a : Int) < (r : Int) := by omega
              have vb : (r : Int) < (c : Int) := by omega
              by_cases x1 : c < en
              · by_cases x2 : en < b
                · skip
                  have xa : (c : Int) < (en : Int) := by omega
                  have xb : (en : Int) < (b : Int) := by omega
                  have HM1 := Lib.hid ((Moved.refl its).congr (h := roIx r m en) fun k => (roIx_id (by omega) hr4 hr3 k).symm)
                  have HR1 := Lib.hid HR.out; have HC1 := Lib.hid HC.out
                  obtain ⟨hp1, hsp, hsa, hsb, hsc, hsd⟩ := HDONE.out _ HM1.out
                  have HP1 := Lib.hid hp1; have HSP := Lib.hid hsp; have HSA := Lib.hid hsa; have HSB := Lib.hid hsb; have HSC := Lib.hid hsc; have HSD := Lib.hid hsd
                  clear hp1 hsp hsa hsb hsc hsd
                  have hcall := HI.out its F g o cap a r c wr HBL.out.1 HR1.out (by omega) v1 v2 (by omega) HSA.out HSB.out
                  have HCALL2 := Lib.hid hcall; clear hcall
                  go_wp2_with fail
                  refine HCALL2.out.mono ?_
                  rintro e w2 ⟨rfl, n2, hp2, hs2, hrr, hcc⟩
                  have HR2 := Lib.hid hrr; have HC2 := Lib.hid (HC1.out.trans hcc); have HP2 := Lib.hid hp2; have HT2 := Lib.hid hs2; have hln2 : n2.length = its.length := hp2.len
                  clear hrr hcc hp2 hs2 HCALL2
                  have hcall := HI.out n2 F g o cap c en b w2 HBL.out.2 HR2.out (by omega) x1 x2 (by omega) (HSC.out.same HP2.out (.inr (Nat.le_refl _))) (HSD.out.same HP2.out (.inr (by omega)))
                  rw [hln2] at hcall
                  have HCALL3 := Lib.hid hcall; clear hcall
                  go_wp2_with fail
                  refine HCALL3.out.mono ?_
                  rintro e w3 ⟨rfl, n3, hp3, hs3, hrr, hcc⟩
                  have HR3 := Lib.hid hrr; have HC3 := Lib.hid (HC2.out.trans hcc); have HP3 := Lib.hid hp3; have HT3 := Lib.hid hs3
                  clear hrr hcc hp3 hs3 HCALL3
                  have HJ := Lib.hid (merge_join HP1.out HSP.out HP2.out HT2.out HP3.out HT3.out (Nat.le_of_lt hmd1) (Nat.le_of_lt hmd2))
                  go_wp2
                  first | go_end0 | (refine bodyPost_ret (results_none rfl _ _ _) rfl ?_)
                  exact ⟨rfl, n3, HJ.out.1, HJ.out.2, HR3.out, HC3.out⟩
                · skip
                  have xa : (c : Int) < (en : Int) := by omega
                  have xb : ¬ (en : Int) < (b : Int) := by omega
                  have HM1 := Lib.hid ((Moved.refl its).congr (h := roIx r m en) fun k => (roIx_id (by omega) hr4 hr3 k).symm)
                  have HR1 := Lib.hid HR.out; have HC1 := Lib.hid HC.out
                  obtain ⟨hp1, hsp, hsa, hsb, hsc, hsd⟩ := HDONE.out _ HM1.out
                  have HP1 := Lib.hid hp1; have HSP := Lib.hid hsp; have HSA := Lib.hid hsa; have HSB := Lib.hid hsb; have HSC := Lib.hid hsc; have HSD := Lib.hid hsd
                  clear hp1 hsp hsa hsb hsc hsd
                  have hcall := HI.out its F g o cap a r c wr HBL.out.1 HR1.out (by omega) v1 v2 (by omega) HSA.out HSB.out
                  have HCALL2 := Lib.hid hcall; clear hcall
                  go_wp2_with fail
                  refine HCALL2.out.mono ?_
                  rintro e w2 ⟨rfl, n2, hp2, hs2, hrr, hcc⟩
                  have HR2 := Lib.hid hrr; have HC2 := Lib.hid (HC1.out.trans hcc); have HP2 := Lib.hid hp2; have HT2 := Lib.hid hs2; have hln2 : n2.length = its.length := hp2.len
                  clear hrr hcc hp2 hs2 HCALL2
                  have HP3 := Lib.hid (PermOn.refl c b n2)
                  have HT3 := Lib.hid (show SortedOn c b n2 from by
                    have e1 : en = b := by omega
                    have k := HSC.out.same HP2.out (.inr (Nat.le_refl _)); rw [e1] at k; exact k)
                  have HR3 := Lib.hid HR2.out; have HC3 := Lib.hid HC2.out
                  have HJ := Lib.hid (merge_join HP1.out HSP.out HP2.out HT2.out HP3.out HT3.out (Nat.le_of_lt hmd1) (Nat.le_of_lt hmd2))
                  go_wp2
                  first | go_end0 | (refine bodyPost_ret (results_none rfl _ _ _) rfl ?_)
                  exact ⟨rfl, n2, HJ.out.1, HJ.out.2, HR3.out, HC3.out⟩
              · skip
                have xa : ¬ (c : Int) < (en : Int) := by omega
                have HM1 := Lib.hid ((Moved.refl its).congr (h := roIx r m en) fun k => (roIx_id (by omega) hr4 hr3 k).symm)
                have HR1 := Lib.hid HR.out; have HC1 := Lib.hid HC.out
                obtain ⟨hp1, hsp, hsa, hsb, hsc, hsd⟩ := HDONE.out _ HM1.out
                have HP1 := Lib.hid hp1; have HSP := Lib.hid hsp; have HSA := Lib.hid hsa; have HSB := Lib.hid hsb; have HSC := Lib.hid hsc; have HSD := Lib.hid hsd
                clear hp1 hsp hsa hsb hsc hsd
                have hcall := HI.out its F g o cap a r c wr HBL.out.1 HR1.out (by omega) v1 v2 (by omega) HSA.out HSB.out
                have HCALL2 := Lib.hid hcall; clear hcall
                go_wp2_with fail
                refine HCALL2.out.mono ?_
                rintro e w2 ⟨rfl, n2, hp2, hs2, hrr, hcc⟩
                have HR2 := Lib.hid hrr; have HC2 := Lib.hid (HC1.out.trans hcc); have HP2 := Lib.hid hp2; have HT2 := Lib.hid hs2; have hln2 : n2.length = its.length := hp2.len
                clear hrr hcc hp2 hs2 HCALL2
                have HP3 := Lib.hid (PermOn.refl c b n2)
                have HT3 := Lib.hid (show SortedOn c b n2 from by
                  have e1 : en = c := by omega
                  have k := HSD.out.same HP2.out (.inr (by omega)); rw [e1] at k; exact k)
                have HR3 := Lib.hid HR2.out; have HC3 := Lib.hid HC2.out
                have HJ := Lib.hid (merge_join HP1.out HSP.out HP2.out HT2.out HP3.out HT3.out (Nat.le_of_lt hmd1) (Nat.le_of_lt hmd2))
                go_wp2
                first | go_end0 | (refine bodyPost_ret (results_none rfl _ _ _) rfl ?_)
                exact ⟨rfl, n2, HJ.out.1, HJ.out.2, HR3.out, HC3.out⟩
            · skip
              have va : (a : Int) < (r : Int) := by omega
              have vb : ¬ (r : Int) < (c : Int) := by omega
              by_cases x1 : c < en
              · by_cases x2 : en < b
                · skip
                  have xa : (c : Int) < (en : Int) := by omega
                  have xb : (en : Int) < (b : Int) := by omega
                  have HM1 := Lib.hid ((Moved.refl its).congr (h := roIx r m en) fun k => (roIx_id (by omega) hr4 hr3 k).symm)
                  have HR1 := Lib.hid HR.out; have HC1 := Lib.hid HC.out
                  obtain ⟨hp1, hsp, hsa, hsb, hsc, hsd⟩ := HDONE.out _ HM1.out
                  have HP1 := Lib.hid hp1; have HSP := Lib.hid hsp; have HSA := Lib.hid hsa; have HSB := Lib.hid hsb; have HSC := Lib.hid hsc; have HSD := Lib.hid hsd
                  clear hp1 hsp hsa hsb hsc hsd
                  have HP2 := Lib.hid (PermOn.refl a c its)
                  have HT2 := Lib.hid (show SortedOn a c its from by
                    have e1 : r = c := by omega
                    rw [e1] at HSA; exact HSA.out)
                  have HR2 := Lib.hid HR1.out; have HC2 := Lib.hid HC1.out
                  have hcall := HI.out its F g o cap c en b wr HBL.out.2 HR2.out (by omega) x1 x2 (by omega) (HSC.out.same HP2.out (.inr (Nat.le_refl _))) (HSD.out.same HP2.out (.inr (by omega)))
                  have HCALL3 := Lib.hid hcall; clear hcall
                  go_wp2_with fail
                  refine HCALL3.out.mono ?_
                  rintro e w3 ⟨rfl, n3, hp3, hs3, hrr, hcc⟩
                  have HR3 := Lib.hid hrr; have HC3 := Lib.hid (HC2.out.trans hcc); have HP3 := Lib.hid hp3; have HT3 := Lib.hid hs3
                  clear hrr hcc hp3 hs3 HCALL3
                  have HJ := Lib.hid (merge_join HP1.out HSP.out HP2.out HT2.out HP3.out HT3.out (Nat.le_of_lt hmd1) (Nat.le_of_lt hmd2))
                  go_wp2
                  first | go_end0 | (refine bodyPost_ret (results_none rfl _ _ _) rfl ?_)
                  exact ⟨rfl, n3, HJ.out.1, HJ.out.2, HR3.out, HC3.out⟩
                · skip
                  have xa : (c : Int) < (en : Int) := by omega
                  have xb : ¬ (en : Int) < (b : Int) := by omega
                  have HM1 := Lib.hid ((Moved.refl its).congr (h := roIx r m en) fun k => (roIx_id (by omega) hr4 hr3 k).symm)
                  have HR1 := Lib.hid HR.out; have HC1 := Lib.hid HC.out
                  obtain ⟨hp1, hsp, hsa, hsb, hsc, hsd⟩ := HDONE.out _ HM1.out
                  have HP1 := Lib.hid hp1; have HSP := Lib.hid hsp; have HSA := Lib.hid hsa; have HSB := Lib.hid hsb; have HSC := Lib.hid hsc; have HSD := Lib.hid hsd
                  clear hp1 hsp hsa hsb hsc hsd
                  have HP2 := Lib.hid (PermOn.refl a c its)
                  have HT2 := Lib.hid (show SortedOn a c its from by
                    have e1 : r = c := by omega
                    rw [e1] at HSA; exact HSA.out)
                  have HR2 := Lib.hid HR1.out; have HC2 := Lib.hid HC1.out
                  have HP3 := Lib.hid (PermOn.refl c b its)
                  have HT3 := Lib.hid (show SortedOn c b its from by
                    have e1 : en = b := by omega
                    have k := HSC.out.same HP2.out (.inr (Nat.le_refl _)); rw [e1] at k; exact k)
                  have HR3 := Lib.hid HR2.out; have HC3 := Lib.hid HC2.out
                  have HJ := Lib.hid (merge_join HP1.out HSP.out HP2.out HT2.out HP3.out HT3.out (Nat.le_of_lt hmd1) (Nat.le_of_lt hmd2))
                  go_wp2
                  first | go_end0 | (refine bodyPost_ret (results_none rfl _ _ _) rfl ?_)
                  exact ⟨rfl, its, HJ.out.1, HJ.out.2, HR3.out, HC3.out⟩
              · skip
                have xa : ¬ (c : Int) < (en : Int) := by omega
                have HM1 := Lib.hid ((Moved.refl its).congr (h := roIx r m en) fun k => (roIx_id (by omega) hr4 hr3 k).symm)
                have HR1 := Lib.hid HR.out; have HC1 := Lib.hid HC.out
                obtain ⟨hp1, hsp, hsa, hsb, hsc, hsd⟩ := HDONE.out _ HM1.out
                have HP1 := Lib.hid hp1; have HSP := Lib.hid hsp; have HSA := Lib.hid hsa; have HSB := Lib.hid hsb; have HSC := Lib.hid hsc; have HSD := Lib.hid hsd
                clear hp1 hsp hsa hsb hsc hsd
                have HP2 := Lib.hid (PermOn.refl a c its)
                have HT2 := Lib.hid (show SortedOn a c its from by
                  have e1 : r = c := by omega
                  rw [e1] at HSA; exact HSA.out)
                have HR2 := Lib.hid HR1.out; have HC2 := Lib.hid HC1.out
                have HP3 := Lib.hid (PermOn.refl c b its)
                have HT3 := Lib.hid (show SortedOn c b its from by
                  have e1 : en = c := by omega
                  have k := HSD.out.same HP2.out (.inr (by omega)); rw [e1] at k; exact k)
                have HR3 := Lib.hid HR2.out; have HC3 := Lib.hid HC2.out
                have HJ := Lib.hid (merge_join HP1.out HSP.out HP2.out HT2.out HP3.out HT3.out (Nat.le_of_lt hmd1) (Nat.le_of_lt hmd2))
                go_wp2
                first | go_end0 | (refine bodyPost_ret (results_none rfl _ _ _) rfl ?_)
                exact ⟨rfl, its, HJ.out.1, HJ.out.2, HR3.out, HC3.out⟩
          · skip
            have va : ¬ (a : Int) < (r : Int) := by omega
            by_cases x1 : c < en
            · by_cases x2 : en < b
              · skip
                have xa : (c : Int) < (en : Int) := by omega
                have xb : (en : Int) < (b : Int) := by omega
                have HM1 := Lib.hid ((Moved.refl its).congr (h := roIx r m en) fun k => (roIx_id (by omega) hr4 hr3 k).symm)
                have HR1 := Lib.hid HR.out; have HC1 := Lib.hid HC.out
                obtain ⟨hp1, hsp, hsa, hsb, hsc, hsd⟩ := HDONE.out _ HM1.out
                have HP1 := Lib.hid hp1; have HSP := Lib.hid hsp; have HSA := Lib.hid hsa; have HSB := Lib.hid hsb; have HSC := Lib.hid hsc; have HSD := Lib.hid hsd
                clear hp1 hsp hsa hsb hsc hsd
                have HP2 := Lib.hid (PermOn.refl a c its)
                have HT2 := Lib.hid (show SortedOn a c its from by
                  have e1 : r = a := by omega
                  rw [e1] at HSB; exact HSB.out)
                have HR2 := Lib.hid HR1.out; have HC2 := Lib.hid HC1.out
                have hcall := HI.out its F g o cap c en b wr HBL.out.2 HR2.out (by omega) x1 x2 (by omega) (HSC.out.same HP2.out (.inr (Nat.le_refl _))) (HSD.out.same HP2.out (.inr (by omega)))
                have HCALL3 := Lib.hid hcall; clear hcall
                go_wp2_with fail
                refine HCALL3.out.mono ?_
                rintro e w3 ⟨rfl, n3, hp3, hs3, hrr, hcc⟩
                have HR3 := Lib.hid hrr; have HC3 := Lib.hid (HC2.out.trans hcc); have HP3 := Lib.hid hp3; have HT3 := Lib.hid hs3
                clear hrr hcc hp3 hs3 HCALL3
                have HJ := Lib.hid (merge_join HP1.out HSP.out HP2.out HT2.out HP3.out HT3.out (Nat.le_of_lt hmd1) (Nat.le_of_lt hmd2))
                go_wp2
                first | go_end0 | (refine bodyPost_ret (results_none rfl _ _ _) rfl ?_)
                exact ⟨rfl, n3, HJ.out.1, HJ.out.2, HR3.out, HC3.out⟩
              · skip
                have xa : (c : Int) < (en : Int) := by omega
                have xb : ¬ (en : Int) < (b : Int) := by omega
                have HM1 := Lib.hid ((Moved.refl its).congr (h := roIx r m en) fun k => (roIx_id (by omega) hr4 hr3 k).symm)
                have HR1 := Lib.hid HR.out; have HC1 := Lib.hid HC.out
                obtain ⟨hp1, hsp, hsa, hsb, hsc, hsd⟩ := HDONE.out _ HM1.out
                have HP1 := Lib.hid hp1; have HSP := Lib.hid hsp; have HSA := Lib.hid hsa; have HSB := Lib.hid hsb; have HSC := Lib.hid hsc; have HSD := Lib.hid hsd
                clear hp1 hsp hsa hsb hsc hsd
                have HP2 := Lib.hid (PermOn.refl a c its)
                have HT2 := Lib.hid (show SortedOn a c its from by
                  have e1 : r = a := by omega
                  rw [e1] at HSB; exact HSB.out)
                have HR2 := Lib.hid HR1.out; have HC2 := Lib.hid HC1.out
                have HP3 := Lib.hid (PermOn.refl c b its)
                have HT3 := Lib.hid (show SortedOn c b its from by
                  have e1 : en = b := by omega
                  have k := HSC.out.same HP2.out (.inr (Nat.le_refl _)); rw [e1] at k; exact k)
                have HR3 := Lib.hid HR2.out; have HC3 := Lib.hid HC2.out
                have HJ := Lib.hid (merge_join HP1.out HSP.out HP2.out HT2.out HP3.out HT3.out (Nat.le_of_lt hmd1) (Nat.le_of_lt hmd2))
                go_wp2
                first | go_end0 | (refine bodyPost_ret (results_none rfl _ _ _) rfl ?_)
                exact ⟨rfl, its, HJ.out.1, HJ.out.2, HR3.out, HC3.out⟩
            · skip
              have xa : ¬ (c : Int) < (en : Int) := by omega
              have HM1 := Lib.hid ((Moved.refl its).congr (h := roIx r m en) fun k => (roIx_id (by omega) hr4 hr3 k).symm)
              have HR1 := Lib.hid HR.out; have HC1 := Lib.hid HC.out
              obtain ⟨hp1, hsp, hsa, hsb, hsc, hsd⟩ := HDONE.out _ HM1.out
              have HP1 := Lib.hid hp1; have HSP := Lib.hid hsp; have HSA := Lib.hid hsa; have HSB := Lib.hid hsb; have HSC := Lib.hid hsc; have HSD := Lib.hid hsd
              clear hp1 hsp hsa hsb hsc hsd
              have HP2 := Lib.hid (PermOn.refl a c its)
              have HT2 := Lib.hid (show SortedOn a c its from by
                have e1 : r = a := by omega
                rw [e1] at HSB; exact HSB.out)
              have HR2 := Lib.hid HR1.out; have HC2 := Lib.hid HC1.out
              have HP3 := Lib.hid (PermOn.refl c b its)
              have HT3 := Lib.hid (show SortedOn c b its from by
                have e1 : en = c := by omega
                have k := HSD.out.same HP2.out (.inr (by omega)); rw [e1] at k; exact k)
              have HR3 := Lib.hid HR2.out; have HC3 := Lib.hid HC2.out
              have HJ := Lib.hid (merge_join HP1.out HSP.out HP2.out HT2.out HP3.out HT3.out (Nat.le_of_lt hmd1) (Nat.le_of_lt hmd2))
              go_wp2
              first | go_end0 | (refine bodyPost_ret (results_none rfl _ _ _) rfl ?_)
              exact ⟨rfl, its, HJ.out.1, HJ.out.2, HR3.out, HC3.out⟩
  · skip
    have hmm' : ¬ (c : Int) < (m : Int) := by omega
    go_enter Tryz.func203, Tryz.ntmps203
    go_wp2_with fail
    go_loopw [20, 21] (fun x y wr => ∃ j r : Nat, a ≤ j ∧ j ≤ r ∧ r ≤ m ∧ x = .int .i64 j ∧ y = .int .i64 r ∧ Bin its c m a m j r ∧ RowI wr F g o its ∧ Chg (fun b => b = g) w wr) (fun x y _ => (intOf y).toNat - (intOf x).toNat)
    case atStart => exact ⟨a, m, Nat.le_refl _, by omega, Nat.le_refl _, by first | rfl | go_num, by first | rfl | go_num, Bin.start its c m a m, HH.out, Chg.refl _ _⟩
    case round =>
      obtain ⟨j, r, hj1, hjr, hr1, rfl, rfl, hbin, hr, hch⟩ := hrel
      have HBI := Lib.hid hbin; have HR := Lib.hid hr; have HC := Lib.hid hch
      clear hbin hr hch HH
      by_cases hlt : j < r
      · obtain ⟨h, hh⟩ : ∃ h : Nat, (j + r) / 2 = h := ⟨_, rfl⟩
        have hhi : ((j : Int) + (r : Int)) / 2 = (h : Int) := by omega
        have hh1 : j ≤ h := by omega
        have hh2 : h < r := by omega
        clear hh
        obtain ⟨q, hq⟩ : ∃ q : Nat, c + m - 1 - h = q := ⟨_, rfl⟩
        have hqi : (c : Int) + (m : Int) - 1 - (h : Int) = (q : Int) := by omega
        have hw1 : IntKind.i64.wrap (q : Int) = (q : Int) := IntWalk.i64_in _ (by omega)
        have hq2 : q < b := by omega
        have hhl : h < its.length := by omega
        have hql : q < its.length := by omega
        have h1i : (j : Int) < (r : Int) := by omega
        have HLOW := Lib.hid (fun (hc : ¬ P.cmp (its[c + m - 1 - h]'(by omega)).e.1 (its[h]'hhl).e.1 < 0) => HBI.out.low HS1.out HS2.out (by omega) (by omega) (by omega) (by omega) (by omega) (by omega) hhl (by omega) hc)
        have HHIGH := Lib.hid (fun (hc : P.cmp (its[c + m - 1 - h]'(by omega)).e.1 (its[h]'hhl).e.1 < 0) => HBI.out.high HS1.out HS2.out (by omega) (by omega) (by omega) (by omega) (by omega) (by omega) hhl (by omega) hc)
        subst hq
        go_upto_region 35 with fail
        try rw [hhi]
        clear hhi
        obtain ⟨xd, xc, yd, yc, hx, hy, hkc⟩ := HR.out.two (c + m - 1 - h) h hql hhl
        generalize (its[c + m - 1 - h]'hql) = en at *
        generalize (its[h]'hhl) = fn at *
        obtain ⟨q, hq⟩ : ∃ q : Nat, c + m - 1 - h = q := ⟨_, rfl⟩
        rw [hq] at hqi hw1 hq2 hql hkc
        obtain ⟨x, Gx, eo, et⟩ := en
        obtain ⟨y, Gy, fo, ft⟩ := fn
        simp only at hx hy hkc HLOW HHIGH
        subst hx hy
        have HK0 := Lib.hid (hkc.step (Below.refl _ _).drew); clear hkc
        have hnp : ¬ its.length ≤ q := by omega
        have hnq : ¬ its.length ≤ h := by omega
        refine wp_region_held_drew (S := KC wr.heap.size wr g (o + q * 2) (.slice xd eo.length xc) eo et (o + h * 2) (.slice yd fo.length yc) fo ft) (by kernel_rfl) HK0.out (fun hS0 => ?_)
        refine wpAnyH_take (i := 0) (v := byF) rfl (by kernel_rfl) (by kernel_rfl) (by kernel_rfl) (fun _ _ _ h => h) (Or.inl ⟨by rfl, fun z hz => ?_⟩) hS0 ?_
        · obtain ⟨z1, z2, z3, z4, z5, z6⟩ := hz
          go_simp
        try simp only [List.getElem_toArray, List.getElem_cons_zero, Act.put, List.setIfInBounds_toArray, List.set_cons_zero, List.set_cons_succ]
        refine wpAnyH_take (i := 1) (v := .slice (some ⟨g, o, none⟩) its.length cap) rfl (by kernel_rfl) (by kernel_rfl) (by kernel_rfl) (fun _ _ _ h => h) (Or.inl ⟨by rfl, fun z hz => ?_⟩) hS0 ?_
        · obtain ⟨z1, z2, z3, z4, z5, z6⟩ := hz
          go_simp
        try simp only [List.getElem_toArray, List.getElem_cons_zero, List.getElem_cons_succ, Act.put, List.setIfInBounds_toArray, List.set_cons_zero, List.set_cons_succ]
        refine wpAnyH_take (i := 2) (v := .int .i64 ((c : Int) + (m : Int) - 1)) rfl (by kernel_rfl) (by kernel_rfl) (by kernel_rfl) (fun _ _ _ h => h) (Or.inl ⟨by rfl, fun z hz => ?_⟩) hS0 ?_
        · obtain ⟨z1, z2, z3, z4, z5, z6⟩ := hz
          go_simp
        try simp only [List.getElem_toArray, List.getElem_cons_zero, List.getElem_cons_succ, Act.put, List.setIfInBounds_toArray, List.set_cons_zero, List.set_cons_succ]
        refine wpAnyH_take (i := 3) (v := .int .i64 h) rfl (by kernel_rfl) (by kernel_rfl) (by kernel_rfl) (fun _ _ _ h => h) (Or.inl ⟨by rfl, fun z hz => ?_⟩) hS0 ?_
        · obtain ⟨z1, z2, z3, z4, z5, z6⟩ := hz
          go_simp
        try simp only [List.getElem_toArray, List.getElem_cons_zero, List.getElem_cons_succ, Act.put, List.setIfInBounds_toArray, List.set_cons_zero, List.set_cons_succ]
        refine wpAnyH_take (i := 4) (v := .int .i64 q) rfl (by kernel_rfl) (by kernel_rfl) (by kernel_rfl) (fun _ _ _ h => h) (Or.inl ⟨by rfl, fun z hz => ?_⟩) hS0 ?_
        · obtain ⟨z1, z2, z3, z4, z5, z6⟩ := hz
          go_simp
        try simp only [List.getElem_toArray, List.getElem_cons_zero, List.getElem_cons_succ, Act.put, List.setIfInBounds_toArray, List.set_cons_zero, List.set_cons_succ]
        refine wpAnyH_take (i := 5) (v := .pointer (some ⟨g, o + q * 2, none⟩)) rfl (by kernel_rfl) (by kernel_rfl) (by kernel_rfl) (fun _ _ _ h => h) (Or.inl ⟨by rfl, fun z hz => ?_⟩) hS0 ?_
        · obtain ⟨z1, z2, z3, z4, z5, z6⟩ := hz
          go_simp
        try simp only [List.getElem_toArray, List.getElem_cons_zero, List.getElem_cons_succ, Act.put, List.setIfInBounds_toArray, List.set_cons_zero, List.set_cons_succ]
        refine wpAnyH_take (i := 6) (v := .agg #[.slice xd eo.length xc, .string (S et)]) rfl (by kernel_rfl) (by kernel_rfl) (by kernel_rfl) (fun _ _ _ h => h) (Or.inl ⟨by rfl, fun z hz => ?_⟩) hS0 ?_
        · obtain ⟨z1, z2, z3, z4, z5, z6⟩ := hz
          go_simp
        try simp only [List.getElem_toArray, List.getElem_cons_zero, List.getElem_cons_succ, Act.put, List.setIfInBounds_toArray, List.set_cons_zero, List.set_cons_succ]
        refine wpAnyH_take (i := 7) (v := .slice (some ⟨g, o, none⟩) its.length cap) rfl (by kernel_rfl) (by kernel_rfl) (by kernel_rfl) (fun _ _ _ h => h) (Or.inl ⟨by rfl, fun z hz => ?_⟩) hS0 ?_
        · obtain ⟨z1, z2, z3, z4, z5, z6⟩ := hz
          go_simp
        try simp only [List.getElem_toArray, List.getElem_cons_zero, List.getElem_cons_succ, Act.put, List.setIfInBounds_toArray, List.set_cons_zero, List.set_cons_succ]
        refine wpAnyH_take (i := 8) (v := .int .i64 h) rfl (by kernel_rfl) (by kernel_rfl) (by kernel_rfl) (fun _ _ _ h => h) (Or.inl ⟨by rfl, fun z hz => ?_⟩) hS0 ?_
        · obtain ⟨z1, z2, z3, z4, z5, z6⟩ := hz
          go_simp
        try simp only [List.getElem_toArray, List.getElem_cons_zero, List.getElem_cons_succ, Act.put, List.setIfInBounds_toArray, List.set_cons_zero, List.set_cons_succ]
        refine wpAnyH_take (i := 9) (v := .pointer (some ⟨g, o + h * 2, none⟩)) rfl (by kernel_rfl) (by kernel_rfl) (by kernel_rfl) (fun _ _ _ h => h) (Or.inl ⟨by rfl, fun z hz => ?_⟩) hS0 ?_
        · obtain ⟨z1, z2, z3, z4, z5, z6⟩ := hz
          go_simp
        try simp only [List.getElem_toArray, List.getElem_cons_zero, List.getElem_cons_succ, Act.put, List.setIfInBounds_toArray, List.set_cons_zero, List.set_cons_succ]
        refine wpAnyH_take (i := 10) (v := .agg #[.slice yd fo.length yc, .string (S ft)]) rfl (by kernel_rfl) (by kernel_rfl) (by kernel_rfl) (fun _ _ _ h => h) (Or.inl ⟨by rfl, fun z hz => ?_⟩) hS0 ?_
        · obtain ⟨z1, z2, z3, z4, z5, z6⟩ := hz
          go_simp
        try simp only [List.getElem_toArray, List.getElem_cons_zero, List.getElem_cons_succ, Act.put, List.setIfInBounds_toArray, List.set_cons_zero, List.set_cons_succ]
        refine wpAnyH_ready (rs := [11]) (by kernel_rfl) (by simp) ?_
        refine AllReadyH.cons rfl (fun K hK => ?_) AllReadyH.nil
        have HX := Lib.hid hS0.2.2.2.2.2.1
        have HY := Lib.hid hS0.2.2.2.2.2.2.1
        have HSK := Lib.hid hS0
        go_simp
        refine (byOutline _ _ eo fo et ft _ HX.out HY.out).mono ?_
        rintro e v ⟨rfl, hb⟩
        refine hK.out _ _ (HSK.out.step hb) (fun hS1 => ?_)
        clear hK K hb
        try simp only [List.getElem_toArray, List.getElem_cons_zero, List.getElem_cons_succ, Act.put, List.setIfInBounds_toArray, List.set_cons_zero, List.set_cons_succ]
        have HBV := Lib.hid hS1.2.2.2.2.2.2.2.2
        have HRV := Lib.hid (HR.out.below HBV.out)
        have HCV := Lib.hid (HC.out.trans (Below.chg HBV.out _))
        by_cases hcmp : P.cmp eo fo < 0
        · have HQ := Lib.hid (HHIGH.out hcmp)
          refine wpAnyH_take (i := 12) (v := .bool true) rfl (by kernel_rfl) (by kernel_rfl) (by kernel_rfl) (fun _ _ _ h => h) (Or.inl ⟨by rfl, fun z hz => ?_⟩) hS1 ?_
          · obtain ⟨z1, z2, z3, z4, z5, z6⟩ := hz
            go_simp
          try simp only [List.getElem_toArray, List.getElem_cons_zero, List.getElem_cons_succ, Act.put, List.setIfInBounds_toArray, List.set_cons_zero, List.set_cons_succ]
          refine wpAnyH_take (i := 13) (v := .bool false) rfl (by kernel_rfl) (by kernel_rfl) (by kernel_rfl) (fun _ _ _ h => h) (Or.inl ⟨by rfl, fun z hz => ?_⟩) hS1 ?_
          · obtain ⟨z1, z2, z3, z4, z5, z6⟩ := hz
            go_simp
          try simp only [List.getElem_toArray, List.getElem_cons_zero, List.getElem_cons_succ, Act.put, List.setIfInBounds_toArray, List.set_cons_zero, List.set_cons_succ]
          refine wpAnyH_done (by kernel_rfl) ?_ _
          clear hS0 HSK hS1 HLOW HHIGH hcmp HX HY HK0 HR HC HBV hnp hnq hw1 hqi
          go_wp2
          go_roundw
          case rel => exact ⟨j, h, hj1, hh1, by omega, rfl, rfl, HQ.out, HRV.out, HCV.out⟩
          case measure => simp [intOf]; omega
        · have HQ := Lib.hid (HLOW.out hcmp)
          refine wpAnyH_take (i := 12) (v := .bool false) rfl (by kernel_rfl) (by kernel_rfl) (by kernel_rfl) (fun _ _ _ h => h) (Or.inl ⟨by rfl, fun z hz => ?_⟩) hS1 ?_
          · obtain ⟨z1, z2, z3, z4, z5, z6⟩ := hz
            go_simp
          try simp only [List.getElem_toArray, List.getElem_cons_zero, List.getElem_cons_succ, Act.put, List.setIfInBounds_toArray, List.set_cons_zero, List.set_cons_succ]
          refine wpAnyH_take (i := 13) (v := .bool true) rfl (by kernel_rfl) (by kernel_rfl) (by kernel_rfl) (fun _ _ _ h => h) (Or.inl ⟨by rfl, fun z hz => ?_⟩) hS1 ?_
          · obtain ⟨z1, z2, z3, z4, z5, z6⟩ := hz
            go_simp
          try simp only [List.getElem_toArray, List.getElem_cons_zero, List.getElem_cons_succ, Act.put, List.setIfInBounds_toArray, List.set_cons_zero, List.set_cons_succ]
          refine wpAnyH_done (by kernel_rfl) ?_ _
          clear hS0 HSK hS1 HLOW HHIGH hcmp HX HY HK0 HR HC HBV hnp hnq hw1 hqi
          go_wp2
          go_roundw
          case rel => exact ⟨h + 1, r, by omega, by omega, hr1, by go_num, rfl, HQ.out, HRV.out, HCV.out⟩
          case measure => simp [intOf]; omega
      · have hjm : r = j := by omega
        subst hjm
        obtain ⟨en, hen⟩ : ∃ en : Nat, c + m - r = en := ⟨_, rfl⟩
        have hrng : en ≤ b ∧ m ≤ en ∧ r ≤ m ∧ r ≤ c ∧ a ≤ r ∧ c ≤ en := by omega
        obtain ⟨hr2, hr3, hr4, hr5, hr6, hr7⟩ := hrng
        have hei : (c : Int) + (m : Int) - (r : Int) = (en : Int) := by omega
        have hwe : IntKind.i64.wrap (en : Int) = (en : Int) := IntWalk.i64_in _ (by omega)
        have HDONE := Lib.hid (show ∀ l', Moved its l' (roIx r m en) → PermOn a b its l' ∧ Split a c b l' ∧ SortedOn a r l' ∧ SortedOn r c l' ∧ SortedOn c en l' ∧ SortedOn en b l' from fun l' hm => by rw [← hen] at hm ⊢; exact HBI.out.done HS1.out HS2.out hb (by omega) (by right; exact ⟨by omega, rfl, rfl⟩) (by omega) hmd2 hmd3 hmd4 hj1 hr1 hm)
        have HBL := Lib.hid (show c - a ≤ n ∧ b - c ≤ n by omega)
        clear hen HBI HS1 HS2
        by_cases u1 : r < m
        · by_cases u2 : m < en
          · skip
            have ua : (r : Int) < (m : Int) := by omega
            have ub : (m : Int) < (en : Int) := by omega
            by_cases v1 : a < r
            · by_cases v2 : r < c
              · skip
                have va : (a : Int) < (r : Int) := by omega
                have vb : (r : Int) < (c : Int) := by omega
                by_cases x1 : c < en
                · by_cases x2 : en < b
                  · skip
                    have xa : (c : Int) < (en : Int) := by omega
                    have xb : (en : Int) < (b : Int) := by omega
                    have HCALL := Lib.hid (rotate_full its F g o cap r m en wr HR.out hl u1 u2 (by omega))
                    go_wp2_with fail
                    refine HCALL.out.mono ?_
                    rintro e w1 ⟨rfl, n1, hm1, hrr, hcc⟩
                    have HR1 := Lib.hid hrr; have HC1 := Lib.hid (HC.out.trans hcc); have HM1 := Lib.hid hm1
                    clear hrr hcc HCALL
                    have hln1 : n1.length = its.length := hm1.len
                    clear hm1
                    obtain ⟨hp1, hsp, hsa, hsb, hsc, hsd⟩ := HDONE.out _ HM1.out
                    have HP1 := Lib.hid hp1; have HSP := Lib.hid hsp; have HSA := Lib.hid hsa; have HSB := Lib.hid hsb; have HSC := Lib.hid hsc; have HSD := Lib.hid hsd
                    clear hp1 hsp hsa hsb hsc hsd
                    have hcall := HI.out n1 F g o cap a r c w1 HBL.out.1 HR1.out (by omega) v1 v2 (by omega) HSA.out HSB.out
                    rw [hln1] at hcall
                    have HCALL2 := Lib.hid hcall; clear hcall
                    go_wp2_with fail
                    refine HCALL2.out.mono ?_
                    rintro e w2 ⟨rfl, n2, hp2, hs2, hrr, hcc⟩
                    have HR2 := Lib.hid hrr; have HC2 := Lib.hid (HC1.out.trans hcc); have HP2 := Lib.hid hp2; have HT2 := Lib.hid hs2; have hln2 : n2.length = its.length := hp2.len.trans hln1
                    clear hrr hcc hp2 hs2 HCALL2
                    have hcall := HI.out n2 F g o cap c en b w2 HBL.out.2 HR2.out (by omega) x1 x2 (by omega) (HSC.out.same HP2.out (.inr (Nat.le_refl _))) (HSD.out.same HP2.out (.inr (by omega)))
                    rw [hln2] at hcall
                    have HCALL3 := Lib.hid hcall; clear hcall
                    go_wp2_with fail
                    refine HCALL3.out.mono ?_
                    rintro e w3 ⟨rfl, n3, hp3, hs3, hrr, hcc⟩
                    have HR3 := Lib.hid hrr; have HC3 := Lib.hid (HC2.out.trans hcc); have HP3 := Lib.hid hp3; have HT3 := Lib.hid hs3
                    clear hrr hcc hp3 hs3 HCALL3
                    have HJ := Lib.hid (merge_join HP1.out HSP.out HP2.out HT2.out HP3.out HT3.out (Nat.le_of_lt hmd1) (Nat.le_of_lt hmd2))
                    go_wp2
                    first | go_end0 | (refine bodyPost_ret (results_none rfl _ _ _) rfl ?_)
                    exact ⟨rfl, n3, HJ.out.1, HJ.out.2, HR3.out, HC3.out⟩
                  · skip
                    have xa : (c : Int) < (en : Int) := by omega
                    have xb : ¬ (en : Int) < (b : Int) := by omega
                    have HCALL := Lib.hid (rotate_full its F g o cap r m en wr HR.out hl u1 u2 (by omega))
                    go_wp2_with fail
                    refine HCALL.out.mono ?_
                    rintro e w1 ⟨rfl, n1, hm1, hrr, hcc⟩
                    have HR1 := Lib.hid hrr; have HC1 := Lib.hid (HC.out.trans hcc); have HM1 := Lib.hid hm1
                    clear hrr hcc HCALL
                    have hln1 : n1.length = its.length := hm1.len
                    clear hm1
                    obtain ⟨hp1, hsp, hsa, hsb, hsc, hsd⟩ := HDONE.out _ HM1.out
                    have HP1 := Lib.hid hp1; have HSP := Lib.hid hsp; have HSA := Lib.hid hsa; have HSB := Lib.hid hsb; have HSC := Lib.hid hsc; have HSD := Lib.hid hsd
                    clear hp1 hsp hsa hsb hsc hsd
                    have hcall := HI.out n1 F g o cap a r c w1 HBL.out.1 HR1.out (by omega) v1 v2 (by omega) HSA.out HSB.out
                    rw [hln1] at hcall
                    have HCALL2 := Lib.hid hcall; clear hcall
                    go_wp2_with fail
                    refine HCALL2.out.mono ?_
                    rintro e w2 ⟨rfl, n2, hp2, hs2, hrr, hcc⟩
                    have HR2 := Lib.hid hrr; have HC2 := Lib.hid (HC1.out.trans hcc); have HP2 := Lib.hid hp2; have HT2 := Lib.hid hs2; have hln2 : n2.length = its.length := hp2.len.trans hln1
                    clear hrr hcc hp2 hs2 HCALL2
                    have HP3 := Lib.hid (PermOn.refl c b n2)
                    have HT3 := Lib.hid (show SortedOn c b n2 from by
                      have e1 : en = b := by omega
                      have k := HSC.out.same HP2.out (.inr (Nat.le_refl _)); rw [e1] at k; exact k)
                    have HR3 := Lib.hid HR2.out; have HC3 := Lib.hid HC2.out
                    have HJ := Lib.hid (merge_join HP1.out HSP.out HP2.out HT2.out HP3.out HT3.out (Nat.le_of_lt hmd1) (Nat.le_of_lt hmd2))
                    go_wp2
                    first | go_end0 | (refine bodyPost_ret (results_none rfl _ _ _) rfl ?_)
                    exact ⟨rfl, n2, HJ.out.1, HJ.out.2, HR3.out, HC3.out⟩
                · skip
                  have xa : ¬ (c : Int) < (en : Int) := by omega
                  have HCALL := Lib.hid (rotate_full its F g o cap r m en wr HR.out hl u1 u2 (by omega))
                  go_wp2_with fail
                  refine HCALL.out.mono ?_
                  rintro e w1 ⟨rfl, n1, hm1, hrr, hcc⟩
                  have HR1 := Lib.hid hrr; have HC1 := Lib.hid (HC.out.trans hcc); have HM1 := Lib.hid hm1
                  clear hrr hcc HCALL
                  have hln1 : n1.length = its.length := hm1.len
                  clear hm1
                  obtain ⟨hp1, hsp, hsa, hsb, hsc, hsd⟩ := HDONE.out _ HM1.out
                  have HP1 := Lib.hid hp1; have HSP := Lib.hid hsp; have HSA := Lib.hid hsa; have HSB := Lib.hid hsb; have HSC := Lib.hid hsc; have HSD := Lib.hid hsd
                  clear hp1 hsp hsa hsb hsc hsd
                  have hcall := HI.out n1 F g o cap a r c w1 HBL.out.1 HR1.out (by omega) v1 v2 (by omega) HSA.out HSB.out
                  rw [hln1] at hcall
                  have HCALL2 := Lib.hid hcall; clear hcall
                  go_wp2_with fail
                  refine HCALL2.out.mono ?_
                  rintro e w2 ⟨rfl, n2, hp2, hs2, hrr, hcc⟩
                  have HR2 := Lib.hid hrr; have HC2 := Lib.hid (HC1.out.trans hcc); have HP2 := Lib.hid hp2; have HT2 := Lib.hid hs2; have hln2 : n2.length = its.length := hp2.len.trans hln1
                  clear hrr hcc hp2 hs2 HCALL2
                  have HP3 := Lib.hid (PermOn.refl c b n2)
                  have HT3 := Lib.hid (show SortedOn c b n2 from by
                    have e1 : en = c := by omega
                    have k := HSD.out.same HP2.out (.inr (by omega)); rw [e1] at k; exact k)
                  have HR3 := Lib.hid HR2.out; have HC3 := Lib.hid HC2.out
                  have HJ := Lib.hid (merge_join HP1.out HSP.out HP2.out HT2.out HP3.out HT3.out (Nat.le_of_lt hmd1) (Nat.le_of_lt hmd2))
                  go_wp2
                  first | go_end0 | (refine bodyPost_ret (results_none rfl _ _ _) rfl ?_)
                  exact ⟨rfl, n2, HJ.out.1, HJ.out.2, HR3.out, HC3.out⟩
              · skip
                have va : (a : Int) < (r : Int) := by omega
                have vb : ¬ (r : Int) < (c : Int) := by omega
                by_cases x1 : c < en
                · by_cases x2 : en < b
                  · skip
                    have xa : (c : Int) < (en : Int) := by omega
                    have xb : (en : Int) < (b : Int) := by omega
                    have HCALL := Lib.hid (rotate_full its F g o cap r m en wr HR.out hl u1 u2 (by omega))
                    go_wp2_with fail
                    refine HCALL.out.mono ?_
                    rintro e w1 ⟨rfl, n1, hm1, hrr, hcc⟩
                    have HR1 := Lib.hid hrr; have HC1 := Lib.hid (HC.out.trans hcc); have HM1 := Lib.hid hm1
                    clear hrr hcc HCALL
                    have hln1 : n1.length = its.length := hm1.len
                    clear hm1
                    obtain ⟨hp1, hsp, hsa, hsb, hsc, hsd⟩ := HDONE.out _ HM1.out
                    have HP1 := Lib.hid hp1; have HSP := Lib.hid hsp; have HSA := Lib.hid hsa; have HSB := Lib.hid hsb; have HSC := Lib.hid hsc; have HSD := Lib.hid hsd
                    clear hp1 hsp hsa hsb hsc hsd
                    have HP2 := Lib.hid (PermOn.refl a c n1)
                    have HT2 := Lib.hid (show SortedOn a c n1 from by
                      have e1 : r = c := by omega
                      rw [e1] at HSA; exact HSA.out)
                    have HR2 := Lib.hid HR1.out; have HC2 := Lib.hid HC1.out
                    have hln2 : n1.length = its.length := hln1
                    have hcall := HI.out n1 F g o cap c en b w1 HBL.out.2 HR2.out (by omega) x1 x2 (by omega) (HSC.out.same HP2.out (.inr (Nat.le_refl _))) (HSD.out.same HP2.out (.inr (by omega)))
                    rw [hln2] at hcall
                    have HCALL3 := Lib.hid hcall; clear hcall
                    go_wp2_with fail
                    refine HCALL3.out.mono ?_
                    rintro e w3 ⟨rfl, n3, hp3, hs3, hrr, hcc⟩
                    have HR3 := Lib.hid hrr; have HC3 := Lib.hid (HC2.out.trans hcc); have HP3 := Lib.hid hp3; have HT3 := Lib.hid hs3
                    clear hrr hcc hp3 hs3 HCALL3
                    have HJ := Lib.hid (merge_join HP1.out HSP.out HP2.out HT2.out HP3.out HT3.out (Nat.le_of_lt hmd1) (Nat.le_of_lt hmd2))
                    go_wp2
                    first | go_end0 | (refine bodyPost_ret (results_none rfl _ _ _) rfl ?_)
                    exact ⟨rfl, n3, HJ.out.1, HJ.out.2, HR3.out, HC3.out⟩
                  · skip
                    have xa : (c : Int) < (en : Int) := by omega
                    have xb : ¬ (en : Int) < (b : Int) := by omega
                    have HCALL := Lib.hid (rotate_full its F g o cap r m en wr HR.out hl u1 u2 (by omega))
                    go_wp2_with fail
                    refine HCALL.out.mono ?_
                    rintro e w1 ⟨rfl, n1, hm1, hrr, hcc⟩
                    have HR1 := Lib.hid hrr; have HC1 := Lib.hid (HC.out.trans hcc); have HM1 := Lib.hid hm1
                    clear hrr hcc HCALL
                    have hln1 : n1.length = its.length := hm1.len
                    clear hm1
                    obtain ⟨hp1, hsp, hsa, hsb, hsc, hsd⟩ := HDONE.out _ HM1.out
                    have HP1 := Lib.hid hp1; have HSP := Lib.hid hsp; have HSA := Lib.hid hsa; have HSB := Lib.hid hsb; have HSC := Lib.hid hsc; have HSD := Lib.hid hsd
                    clear hp1 hsp hsa hsb hsc hsd
                    have HP2 := Lib.hid (PermOn.refl a c n1)
                    have HT2 := Lib.hid (show SortedOn a c n1 from by
                      have e1 : r = c := by omega
                      rw [e1] at HSA; exact HSA.out)
                    have HR2 := Lib.hid HR1.out; have HC2 := Lib.hid HC1.out
                    have hln2 : n1.length = its.length := hln1
                    have HP3 := Lib.hid (PermOn.refl c b n1)
                    have HT3 := Lib.hid (show SortedOn c b n1 from by
                      have e1 : en = b := by omega
                      have k := HSC.out.same HP2.out (.inr (Nat.le_refl _)); rw [e1] at k; exact k)
                    have HR3 := Lib.hid HR2.out; have HC3 := Lib.hid HC2.out
                    have HJ := Lib.hid (merge_join HP1.out HSP.out HP2.out HT2.out HP3.out HT3.out (Nat.le_of_lt hmd1) (Nat.le_of_lt hmd2))
                    go_wp2
                    first | go_end0 | (refine bodyPost_ret (results_none rfl _ _ _) rfl ?_)
                    exact ⟨rfl, n1, HJ.out.1, HJ.out.2, HR3.out, HC3.out⟩
                · skip
                  have xa : ¬ (c : Int) < (en : Int) := by omega
                  have HCALL := Lib.hid (rotate_full its F g o cap r m en wr HR.out hl u1 u2 (by omega))
                  go_wp2_with fail
                  refine HCALL.out.mono ?_
                  rintro e w1 ⟨rfl, n1, hm1, hrr, hcc⟩
                  have HR1 := Lib.hid hrr; have HC1 := Lib.hid (HC.out.trans hcc); have HM1 := Lib.hid hm1
                  clear hrr hcc HCALL
                  have hln1 : n1.length = its.length := hm1.len
                  clear hm1
                  obtain ⟨hp1, hsp, hsa, hsb, hsc, hsd⟩ := HDONE.out _ HM1.out
                  have HP1 := Lib.hid hp1; have HSP := Lib.hid hsp; have HSA := Lib.hid hsa; have HSB := Lib.hid hsb; have HSC := Lib.hid hsc; have HSD := Lib.hid hsd
                  clear hp1 hsp hsa hsb hsc hsd
                  have HP2 := Lib.hid (PermOn.refl a c n1)
                  have HT2 := Lib.hid (show SortedOn a c n1 from by
                    have e1 : r = c := by omega
                    rw [e1] at HSA; exact HSA.out)
                  have HR2 := Lib.hid HR1.out; have HC2 := Lib.hid HC1.out
                  have hln2 : n1.length = its.length := hln1
                  have HP3 := Lib.hid (PermOn.refl c b n1)
                  have HT3 := Lib.hid (show SortedOn c b n1 from by
                    have e1 : en = c := by omega
                    have k := HSD.out.same HP2.out (.inr (by omega)); rw [e1] at k; exact k)
                  have HR3 := Lib.hid HR2.out; have HC3 := Lib.hid HC2.out
                  have HJ := Lib.hid (merge_join HP1.out HSP.out HP2.out HT2.out HP3.out HT3.out (Nat.le_of_lt hmd1) (Nat.le_of_lt hmd2))
                  go_wp2
                  first | go_end0 | (refine bodyPost_ret (results_none rfl _ _ _) rfl ?_)
                  exact ⟨rfl, n1, HJ.out.1, HJ.out.2, HR3.out, HC3.out⟩
            · skip
              have va : ¬ (a : Int) < (r : Int) := by omega
              by_cases x1 : c < en
              · by_cases x2 : en < b
                · skip
                  have xa : (c : Int) < (en : Int) := by omega
                  have xb : (en : Int) < (b : Int) := by omega
                  have HCALL := Lib.hid (rotate_full its F g o cap r m en wr HR.out hl u1 u2 (by omega))
                  go_wp2_with fail
                  refine HCALL.out.mono ?_
                  rintro e w1 ⟨rfl, n1, hm1, hrr, hcc⟩
                  have HR1 := Lib.hid hrr; have HC1 := Lib.hid (HC.out.trans hcc); have HM1 := Lib.hid hm1
                  clear hrr hcc HCALL
                  have hln1 : n1.length = its.length := hm1.len
                  clear hm1
                  obtain ⟨hp1, hsp, hsa, hsb, hsc, hsd⟩ := HDONE.out _ HM1.out
                  have HP1 := Lib.hid hp1; have HSP := Lib.hid hsp; have HSA := Lib.hid hsa; have HSB := Lib.hid hsb; have HSC := Lib.hid hsc; have HSD := Lib.hid hsd
                  clear hp1 hsp hsa hsb hsc hsd
                  have HP2 := Lib.hid (PermOn.refl a c n1)
                  have HT2 := Lib.hid (show SortedOn a c n1 from by
                    have e1 : r = a := by omega
                    rw [e1] at HSB; exact HSB.out)
                  have HR2 := Lib.hid HR1.out; have HC2 := Lib.hid HC1.out
                  have hln2 : n1.length = its.length := hln1
                  have hcall := HI.out n1 F g o cap c en b w1 HBL.out.2 HR2.out (by omega) x1 x2 (by omega) (HSC.out.same HP2.out (.inr (Nat.le_refl _))) (HSD.out.same HP2.out (.inr (by omega)))
                  rw [hln2] at hcall
                  have HCALL3 := Lib.hid hcall; clear hcall
                  go_wp2_with fail
                  refine HCALL3.out.mono ?_
                  rintro e w3 ⟨rfl, n3, hp3, hs3, hrr, hcc⟩
                  have HR3 := Lib.hid hrr; have HC3 := Lib.hid (HC2.out.trans hcc); have HP3 := Lib.hid hp3; have HT3 := Lib.hid hs3
                  clear hrr hcc hp3 hs3 HCALL3
                  have HJ := Lib.hid (merge_join HP1.out HSP.out HP2.out HT2.out HP3.out HT3.out (Nat.le_of_lt hmd1) (Nat.le_of_lt hmd2))
                  go_wp2
                  first | go_end0 | (refine bodyPost_ret (results_none rfl _ _ _) rfl ?_)
                  exact ⟨rfl, n3, HJ.out.1, HJ.out.2, HR3.out, HC3.out⟩
                · skip
                  have xa : (c : Int) < (en : Int) := by omega
                  have xb : ¬ (en : Int) < (b : Int) := by omega
                  have HCALL := Lib.hid (rotate_full its F g o cap r m en wr HR.out hl u1 u2 (by omega))
                  go_wp2_with fail
                  refine HCALL.out.mono ?_
                  rintro e w1 ⟨rfl, n1, hm1, hrr, hcc⟩
                  have HR1 := Lib.hid hrr; have HC1 := Lib.hid (HC.out.trans hcc); have HM1 := Lib.hid hm1
                  clear hrr hcc HCALL
                  have hln1 : n1.length = its.length := hm1.len
                  clear hm1
                  obtain ⟨hp1, hsp, hsa, hsb, hsc, hsd⟩ := HDONE.out _ HM1.out
                  have HP1 := Lib.hid hp1; have HSP := Lib.hid hsp; have HSA := Lib.hid hsa; have HSB := Lib.hid hsb; have HSC := Lib.hid hsc; have HSD := Lib.hid hsd
                  clear hp1 hsp hsa hsb hsc hsd
                  have HP2 := Lib.hid (PermOn.refl a c n1)
                  have HT2 := Lib.hid (show SortedOn a c n1 from by
                    have e1 : r = a := by omega
                    rw [e1] at HSB; exact HSB.out)
                  have HR2 := Lib.hid HR1.out; have HC2 := Lib.hid HC1.out
                  have hln2 : n1.length = its.length := hln1
                  have HP3 := Lib.hid (PermOn.refl c b n1)
                  have HT3 := Lib.hid (show SortedOn c b n1 from by
                    have e1 : en = b := by omega
                    have k := HSC.out.same HP2.out (.inr (Nat.le_refl _)); rw [e1] at k; exact k)
                  have HR3 := Lib.hid HR2.out; have HC3 := Lib.hid HC2.out
                  have HJ := Lib.hid (merge_join HP1.out HSP.out HP2.out HT2.out HP3.out HT3.out (Nat.le_of_lt hmd1) (Nat.le_of_lt hmd2))
                  go_wp2
                  first | go_end0 | (refine bodyPost_ret (results_none rfl _ _ _) rfl ?_)
                  exact ⟨rfl, n1, HJ.out.1, HJ.out.2, HR3.out, HC3.out⟩
              · skip
                have xa : ¬ (c : Int) < (en : Int) := by omega
                have HCALL := Lib.hid (rotate_full its F g o cap r m en wr HR.out hl u1 u2 (by omega))
                go_wp2_with fail
                refine HCALL.out.mono ?_
                rintro e w1 ⟨rfl, n1, hm1, hrr, hcc⟩
                have HR1 := Lib.hid hrr; have HC1 := Lib.hid (HC.out.trans hcc); have HM1 := Lib.hid hm1
                clear hrr hcc HCALL
                have hln1 : n1.length = its.length := hm1.len
                clear hm1
                obtain ⟨hp1, hsp, hsa, hsb, hsc, hsd⟩ := HDONE.out _ HM1.out
                have HP1 := Lib.hid hp1; have HSP := Lib.hid hsp; have HSA := Lib.hid hsa; have HSB := Lib.hid hsb; have HSC := Lib.hid hsc; have HSD := Lib.hid hsd
                clear hp1 hsp hsa hsb hsc hsd
                have HP2 := Lib.hid (PermOn.refl a c n1)
                have HT2 := Lib.hid (show SortedOn a c n1 from by
                  have e1 : r = a := by omega
                  rw [e1] at HSB; exact HSB.out)
                have HR2 := Lib.hid HR1.out; have HC2 := Lib.hid HC1.out
                have hln2 : n1.length = its.length := hln1
                have HP3 := Lib.hid (PermOn.refl c b n1)
                have HT3 := Lib.hid (show SortedOn c b n1 from by
                  have e1 : en = c := by omega
                  have k := HSD.out.same HP2.out (.inr (by omega)); rw [e1] at k; exact k)
                have HR3 := Lib.hid HR2.out; have HC3 := Lib.hid HC2.out
                have HJ := Lib.hid (merge_join HP1.out HSP.out HP2.out HT2.out HP3.out HT3.out (Nat.le_of_lt hmd1) (Nat.le_of_lt hmd2))
                go_wp2
                first | go_end0 | (refine bodyPost_ret (results_none rfl _ _ _) rfl ?_)
                exact ⟨rfl, n1, HJ.out.1, HJ.out.2, HR3.out, HC3.out⟩
          · skip
            have ua : (r : Int) < (m : Int) := by omega
            have ub : ¬ (m : Int) < (en : Int) := by omega
            by_cases v1 : a < r
            · by_cases v2 : r < c
              · skip
                have va : (a : Int) < (r : Int) := by omega
                have vb : (r : Int) < (c : Int) := by omega
                by_cases x1 : c < en
                · by_cases x2 : en < b
                  · skip
                    have xa : (c : Int) < (en : Int) := by omega
                    have xb : (en : Int) < (b : Int) := by omega
                    have HM1 := Lib.hid ((Moved.refl its).congr (h := roIx r m en) fun k => (roIx_id (by omega) hr4 hr3 k).symm)
                    have HR1 := Lib.hid HR.out; have HC1 := Lib.hid HC.out
                    obtain ⟨hp1, hsp, hsa, hsb, hsc, hsd⟩ := HDONE.out _ HM1.out
                    have HP1 := Lib.hid hp1; have HSP := Lib.hid hsp; have HSA := Lib.hid hsa; have HSB := Lib.hid hsb; have HSC := Lib.hid hsc; have HSD := Lib.hid hsd
                    clear hp1 hsp hsa hsb hsc hsd
                    have hcall := HI.out its F g o cap a r c wr HBL.out.1 HR1.out (by omega) v1 v2 (by omega) HSA.out HSB.out
                    have HCALL2 := Lib.hid hcall; clear hcall
                    go_wp2_with fail
                    refine HCALL2.out.mono ?_
                    rintro e w2 ⟨rfl, n2, hp2, hs2, hrr, hcc⟩
                    have HR2 := Lib.hid hrr; have HC2 := Lib.hid (HC1.out.trans hcc); have HP2 := Lib.hid hp2; have HT2 := Lib.hid hs2; have hln2 : n2.length = its.length := hp2.len
                    clear hrr hcc hp2 hs2 HCALL2
                    have hcall := HI.out n2 F g o cap c en b w2 HBL.out.2 HR2.out (by omega) x1 x2 (by omega) (HSC.out.same HP2.out (.inr (Nat.le_refl _))) (HSD.out.same HP2.out (.inr (by omega)))
                    rw [hln2] at hcall
                    have HCALL3 := Lib.hid hcall; clear hcall
                    go_wp2_with fail
                    refine HCALL3.out.mono ?_
                    rintro e w3 ⟨rfl, n3, hp3, hs3, hrr, hcc⟩
                    have HR3 := Lib.hid hrr; have HC3 := Lib.hid (HC2.out.trans hcc); have HP3 := Lib.hid hp3; have HT3 := Lib.hid hs3
                    clear hrr hcc hp3 hs3 HCALL3
                    have HJ := Lib.hid (merge_join HP1.out HSP.out HP2.out HT2.out HP3.out HT3.out (Nat.le_of_lt hmd1) (Nat.le_of_lt hmd2))
                    go_wp2
                    first | go_end0 | (refine bodyPost_ret (results_none rfl _ _ _) rfl ?_)
                    exact ⟨rfl, n3, HJ.out.1, HJ.out.2, HR3.out, HC3.out⟩
                  · skip
                    have xa : (c : Int) < (en : Int) := by omega
                    have xb : ¬ (en : Int) < (b : Int) := by omega
                    have HM1 := Lib.hid ((Moved.refl its).congr (h := roIx r m en) fun k => (roIx_id (by omega) hr4 hr3 k).symm)
                    have HR1 := Lib.hid HR.out; have HC1 := Lib.hid HC.out
                    obtain ⟨hp1, hsp, hsa, hsb, hsc, hsd⟩ := HDONE.out _ HM1.out
                    have HP1 := Lib.hid hp1; have HSP := Lib.hid hsp; have HSA := Lib.hid hsa; have HSB := Lib.hid hsb; have HSC := Lib.hid hsc; have HSD := Lib.hid hsd
                    clear hp1 hsp hsa hsb hsc hsd
                    have hcall := HI.out its F g o cap a r c wr HBL.out.1 HR1.out (by omega) v1 v2 (by omega) HSA.out HSB.out
                    have HCALL2 := Lib.hid hcall; clear hcall
                    go_wp2_with fail
                    refine HCALL2.out.mono ?_
                    rintro e w2 ⟨rfl, n2, hp2, hs2, hrr, hcc⟩
                    have HR2 := Lib.hid hrr; have HC2 := Lib.hid (HC1.out.trans hcc); have HP2 := Lib.hid hp2; have HT2 := Lib.hid hs2; have hln2 : n2.length = its.length := hp2.len
                    clear hrr hcc hp2 hs2 HCALL2
                    have HP3 := Lib.hid (PermOn.refl c b n2)
                    have HT3 := Lib.hid (show SortedOn c b n2 from by
                      have e1 : en = b := by omega
                      have k := HSC.out.same HP2.out (.inr (Nat.le_refl _)); rw [e1] at k; exact k)
                    have HR3 := Lib.hid HR2.out; have HC3 := Lib.hid HC2.out
                    have HJ := Lib.hid (merge_join HP1.out HSP.out HP2.out HT2.out HP3.out HT3.out (Nat.le_of_lt hmd1) (Nat.le_of_lt hmd2))
                    go_wp2
                    first | go_end0 | (refine bodyPost_ret (results_none rfl _ _ _) rfl ?_)
                    exact ⟨rfl, n2, HJ.out.1, HJ.out.2, HR3.out, HC3.out⟩
                · skip
                  have xa : ¬ (c : Int) < (en : Int) := by omega
                  have HM1 := Lib.hid ((Moved.refl its).congr (h := roIx r m en) fun k => (roIx_id (by omega) hr4 hr3 k).symm)
                  have HR1 := Lib.hid HR.out; have HC1 := Lib.hid HC.out
                  obtain ⟨hp1, hsp, hsa, hsb, hsc, hsd⟩ := HDONE.out _ HM1.out
                  have HP1 := Lib.hid hp1; have HSP := Lib.hid hsp; have HSA := Lib.hid hsa; have HSB := Lib.hid hsb; have HSC := Lib.hid hsc; have HSD := Lib.hid hsd
                  clear hp1 hsp hsa hsb hsc hsd
                  have hcall := HI.out its F g o cap a r c wr HBL.out.1 HR1.out (by omega) v1 v2 (by omega) HSA.out HSB.out
                  have HCALL2 := Lib.hid hcall; clear hcall
                  go_wp2_with fail
                  refine HCALL2.out.mono ?_
                  rintro e w2 ⟨rfl, n2, hp2, hs2, hrr, hcc⟩
                  have HR2 := Lib.hid hrr; have HC2 := Lib.hid (HC1.out.trans hcc); have HP2 := Lib.hid hp2; have HT2 := Lib.hid hs2; have hln2 : n2.length = its.length := hp2.len
                  clear hrr hcc hp2 hs2 HCALL2
                  have HP3 := Lib.hid (PermOn.refl c b n2)
                  have HT3 := Lib.hid (show SortedOn c b n2 from by
                    have e1 : en = c := by omega
                    have k := HSD.out.same HP2.out (.inr (by omega)); rw [e1] at k; exact k)
                  have HR3 := Lib.hid HR2.out; have HC3 := Lib.hid HC2.out
                  have HJ := Lib.hid (merge_join HP1.out HSP.out HP2.out HT2.out HP3.out HT3.out (Nat.le_of_lt hmd1) (Nat.le_of_lt hmd2))
                  go_wp2
                  first | go_end0 | (refine bodyPost_ret (results_none rfl _ _ _) rfl ?_)
                  exact ⟨rfl, n2, HJ.out.1, HJ.out.2, HR3.out, HC3.out⟩
              · skip
                have va : (a : Int) < (r : Int) := by omega
                have vb : ¬ (r : Int) < (c : Int) := by omega
                by_cases x1 : c < en
                · by_cases x2 : en < b
                  · skip
                    have xa : (c : Int) < (en : Int) := by omega
                    have xb : (en : Int) < (b : Int) := by omega
                    have HM1 := Lib.hid ((Moved.refl its).congr (h := roIx r m en) fun k => (roIx_id (by omega) hr4 hr3 k).symm)
                    have HR1 := Lib.hid HR.out; have HC1 := Lib.hid HC.out
                    obtain ⟨hp1, hsp, hsa, hsb, hsc, hsd⟩ := HDONE.out _ HM1.out
                    have HP1 := Lib.hid hp1; have HSP := Lib.hid hsp; have HSA := Lib.hid hsa; have HSB := Lib.hid hsb; have HSC := Lib.hid hsc; have HSD := Lib.hid hsd
                    clear hp1 hsp hsa hsb hsc hsd
                    have HP2 := Lib.hid (PermOn.refl a c its)
                    have HT2 := Lib.hid (show SortedOn a c its from by
                      have e1 : r = c := by omega
                      rw [e1] at HSA; exact HSA.out)
                    have HR2 := Lib.hid HR1.out; have HC2 := Lib.hid HC1.out
                    have hcall := HI.out its F g o cap c en b wr HBL.out.2 HR2.out (by omega) x1 x2 (by omega) (HSC.out.same HP2.out (.inr (Nat.le_refl _))) (HSD.out.same HP2.out (.inr (by omega)))
                    have HCALL3 := Lib.hid hcall; clear hcall
                    go_wp2_with fail
                    refine HCALL3.out.mono ?_
                    rintro e w3 ⟨rfl, n3, hp3, hs3, hrr, hcc⟩
                    have HR3 := Lib.hid hrr; have HC3 := Lib.hid (HC2.out.trans hcc); have HP3 := Lib.hid hp3; have HT3 := Lib.hid hs3
                    clear hrr hcc hp3 hs3 HCALL3
                    have HJ := Lib.hid (merge_join HP1.out HSP.out HP2.out HT2.out HP3.out HT3.out (Nat.le_of_lt hmd1) (Nat.le_of_lt hmd2))
                    go_wp2
                    first | go_end0 | (refine bodyPost_ret (results_none rfl _ _ _) rfl ?_)
                    exact ⟨rfl, n3, HJ.out.1, HJ.out.2, HR3.out, HC3.out⟩
                  · skip
                    have xa : (c : Int) < (en : Int) := by omega
                    have xb : ¬ (en : Int) < (b : Int) := by omega
                    have HM1 := Lib.hid ((Moved.refl its).congr (h := roIx r m en) fun k => (roIx_id (by omega) hr4 hr3 k).symm)
                    have HR1 := Lib.hid HR.out; have HC1 := Lib.hid HC.out
                    obtain ⟨hp1, hsp, hsa, hsb, hsc, hsd⟩ := HDONE.out _ HM1.out
                    have HP1 := Lib.hid hp1; have HSP := Lib.hid hsp; have HSA := Lib.hid hsa; have HSB := Lib.hid hsb; have HSC := Lib.hid hsc; have HSD := Lib.hid hsd
                    clear hp1 hsp hsa hsb hsc hsd
                    have HP2 := Lib.hid (PermOn.refl a c its)
                    have HT2 := Lib.hid (show SortedOn a c its from by
                      have e1 : r = c := by omega
                      rw [e1] at HSA; exact HSA.out)
                    have HR2 := Lib.hid HR1.out; have HC2 := Lib.hid HC1.out
                    have HP3 := Lib.hid (PermOn.refl c b its)
                    have HT3 := Lib.hid (show SortedOn c b its from by
                      have e1 : en = b := by omega
                      have k := HSC.out.same HP2.out (.inr (Nat.le_refl _)); rw [e1] at k; exact k)
                    have HR3 := Lib.hid HR2.out; have HC3 := Lib.hid HC2.out
                    have HJ := Lib.hid (merge_join HP1.out HSP.out HP2.out HT2.out HP3.out HT3.out (Nat.le_of_lt hmd1) (Nat.le_of_lt hmd2))
                    go_wp2
                    first | go_end0 | (refine bodyPost_ret (results_none rfl _ _ _) rfl ?_)
                    exact ⟨rfl, its, HJ.out.1, HJ.out.2, HR3.out, HC3.out⟩
                · skip
                  have xa : ¬ (c : Int) < (en : Int) := by omega
                  have HM1 := Lib.hid ((Moved.refl its).congr (h := roIx r m en) fun k => (roIx_id (by omega) hr4 hr3 k).symm)
                  have HR1 := Lib.hid HR.out; have HC1 := Lib.hid HC.out
                  obtain ⟨hp1, hsp, hsa, hsb, hsc, hsd⟩ := HDONE.out _ HM1.out
                  have HP1 := Lib.hid hp1; have HSP := Lib.hid hsp; have HSA := Lib.hid hsa; have HSB := Lib.hid hsb; have HSC := Lib.hid hsc; have HSD := Lib.hid hsd
                  clear hp1 hsp hsa hsb hsc hsd
                  have HP2 := Lib.hid (PermOn.refl a c its)
                  have HT2 := Lib.hid (show SortedOn a c its from by
                    have e1 : r = c := by omega
                    rw [e1] at HSA; exact HSA.out)
                  have HR2 := Lib.hid HR1.out; have HC2 := Lib.hid HC1.out
                  have HP3 := Lib.hid (PermOn.refl c b its)
                  have HT3 := Lib.hid (show SortedOn c b its from by
                    have e1 : en = c := by omega
                    have k := HSD.out.same HP2.out (.inr (by omega)); rw [e1] at k; exact k)
                  have HR3 := Lib.hid HR2.out; have HC3 := Lib.hid HC2.out
                  have HJ := Lib.hid (merge_join HP1.out HSP.out HP2.out HT2.out HP3.out HT3.out (Nat.le_of_lt hmd1) (Nat.le_of_lt hmd2))
                  go_wp2
                  first | go_end0 | (refine bodyPost_ret (results_none rfl _ _ _) rfl ?_)
                  exact ⟨rfl, its, HJ.out.1, HJ.out.2, HR3.out, HC3.out⟩
            · skip
              have va : ¬ (a : Int) < (r : Int) := by omega
              by_cases x1 : c < en
              · by_cases x2 : en < b
                · skip
                  have xa : (c : Int) < (en : Int) := by omega
                  have xb : (en : Int) < (b : Int) := by omega
                  have HM1 := Lib.hid ((Moved.refl its).congr (h := roIx r m en) fun k => (roIx_id (by omega) hr4 hr3 k).symm)
                  have HR1 := Lib.hid HR.out; have HC1 := Lib.hid HC.out
                  obtain ⟨hp1, hsp, hsa, hsb, hsc, hsd⟩ := HDONE.out _ HM1.out
                  have HP1 := Lib.hid hp1; have HSP := Lib.hid hsp; have HSA := Lib.hid hsa; have HSB := Lib.hid hsb; have HSC := Lib.hid hsc; have HSD := Lib.hid hsd
                  clear hp1 hsp hsa hsb hsc hsd
                  have HP2 := Lib.hid (PermOn.refl a c its)
                  have HT2 := Lib.hid (show SortedOn a c its from by
                    have e1 : r = a := by omega
                    rw [e1] at HSB; exact HSB.out)
                  have HR2 := Lib.hid HR1.out; have HC2 := Lib.hid HC1.out
                  have hcall := HI.out its F g o cap c en b wr HBL.out.2 HR2.out (by omega) x1 x2 (by omega) (HSC.out.same HP2.out (.inr (Nat.le_refl _))) (HSD.out.same HP2.out (.inr (by omega)))
                  have HCALL3 := Lib.hid hcall; clear hcall
                  go_wp2_with fail
                  refine HCALL3.out.mono ?_
                  rintro e w3 ⟨rfl, n3, hp3, hs3, hrr, hcc⟩
                  have HR3 := Lib.hid hrr; have HC3 := Lib.hid (HC2.out.trans hcc); have HP3 := Lib.hid hp3; have HT3 := Lib.hid hs3
                  clear hrr hcc hp3 hs3 HCALL3
                  have HJ := Lib.hid (merge_join HP1.out HSP.out HP2.out HT2.out HP3.out HT3.out (Nat.le_of_lt hmd1) (Nat.le_of_lt hmd2))
                  go_wp2
                  first | go_end0 | (refine bodyPost_ret (results_none rfl _ _ _) rfl ?_)
                  exact ⟨rfl, n3, HJ.out.1, HJ.out.2, HR3.out, HC3.out⟩
                · skip
                  have xa : (c : Int) < (en : Int) := by omega
                  have xb : ¬ (en : Int) < (b : Int) := by omega
                  have HM1 := Lib.hid ((Moved.refl its).congr (h := roIx r m en) fun k => (roIx_id (by omega) hr4 hr3 k).symm)
                  have HR1 := Lib.hid HR.out; have HC1 := Lib.hid HC.out
                  obtain ⟨hp1, hsp, hsa, hsb, hsc, hsd⟩ := HDONE.out _ HM1.out
                  have HP1 := Lib.hid hp1; have HSP := Lib.hid hsp; have HSA := Lib.hid hsa; have HSB := Lib.hid hsb; have HSC := Lib.hid hsc; have HSD := Lib.hid hsd
                  clear hp1 hsp hsa hsb hsc hsd
                  have HP2 := Lib.hid (PermOn.refl a c its)
                  have HT2 := Lib.hid (show SortedOn a c its from by
                    have e1 : r = a := by omega
                    rw [e1] at HSB; exact HSB.out)
                  have HR2 := Lib.hid HR1.out; have HC2 := Lib.hid HC1.out
                  have HP3 := Lib.hid (PermOn.refl c b its)
                  have HT3 := Lib.hid (show SortedOn c b its from by
                    have e1 : en = b := by omega
                    have k := HSC.out.same HP2.out (.inr (Nat.le_refl _)); rw [e1] at k; exact k)
                  have HR3 := Lib.hid HR2.out; have HC3 := Lib.hid HC2.out
                  have HJ := Lib.hid (merge_join HP1.out HSP.out HP2.out HT2.out HP3.out HT3.out (Nat.le_of_lt hmd1) (Nat.le_of_lt hmd2))
                  go_wp2
                  first | go_end0 | (refine bodyPost_ret (results_none rfl _ _ _) rfl ?_)
                  exact ⟨rfl, its, HJ.out.1, HJ.out.2, HR3.out, HC3.out⟩
              · skip
                have xa : ¬ (c : Int) < (en : Int) := by omega
                have HM1 := Lib.hid ((Moved.refl its).congr (h := roIx r m en) fun k => (roIx_id (by omega) hr4 hr3 k).symm)
                have HR1 := Lib.hid HR.out; have HC1 := Lib.hid HC.out
                obtain ⟨hp1, hsp, hsa, hsb, hsc, hsd⟩ := HDONE.out _ HM1.out
                have HP1 := Lib.hid hp1; have HSP := Lib.hid hsp; have HSA := Lib.hid hsa; have HSB := Lib.hid hsb; have HSC := Lib.hid hsc; have HSD := Lib.hid hsd
                clear hp1 hsp hsa hsb hsc hsd
                have HP2 := Lib.hid (PermOn.refl a c its)
                have HT2 := Lib.hid (show SortedOn a c its from by
                  have e1 : r = a := by omega
                  rw [e1] at HSB; exact HSB.out)
                have HR2 := Lib.hid HR1.out; have HC2 := Lib.hid HC1.out
                have HP3 := Lib.hid (PermOn.refl c b its)
                have HT3 := Lib.hid (show SortedOn c b its from by
                  have e1 : en = c := by omega
                  have k := HSD.out.same HP2.out (.inr (by omega)); rw [e1] at k; exact k)
                have HR3 := Lib.hid HR2.out; have HC3 := Lib.hid HC2.out
                have HJ := Lib.hid (merge_join HP1.out HSP.out HP2.out HT2.out HP3.out HT3.out (Nat.le_of_lt hmd1) (Nat.le_of_lt hmd2))
                go_wp2
                first | go_end0 | (refine bodyPost_ret (results_none rfl _ _ _) rfl ?_)
                exact ⟨rfl, its, HJ.out.1, HJ.out.2, HR3.out, HC3.out⟩
        · skip
          have ua : ¬ (r : Int) < (m : Int) := by omega
          by_cases v1 : a < r
          · by_cases v2 : r < c
            · skip
              have va : (a : Int) < (r : Int) := by omega
              have vb : (r : Int) < (c : Int) := by omega
              by_cases x1 : c < en
              · by_cases x2 : en < b
                · skip
                  have xa : (c : Int) < (en : Int) := by omega
                  have xb : (en : Int) < (b : Int) := by omega
                  have HM1 := Lib.hid ((Moved.refl its).congr (h := roIx r m en) fun k => (roIx_id (by omega) hr4 hr3 k).symm)
                  have HR1 := Lib.hid HR.out; have HC1 := Lib.hid HC.out
                  obtain ⟨hp1, hsp, hsa, hsb, hsc, hsd⟩ := HDONE.out _ HM1.out
                  have HP1 := Lib.hid hp1; have HSP := Lib.hid hsp; have HSA := Lib.hid hsa; have HSB := Lib.hid hsb; have HSC := Lib.hid hsc; have HSD := Lib.hid hsd
                  clear hp1 hsp hsa hsb hsc hsd
                  have hcall := HI.out its F g o cap a r c wr HBL.out.1 HR1.out (by omega) v1 v2 (by omega) HSA.out HSB.out
                  have HCALL2 := Lib.hid hcall; clear hcall
                  go_wp2_with fail
                  refine HCALL2.out.mono ?_
                  rintro e w2 ⟨rfl, n2, hp2, hs2, hrr, hcc⟩
                  have HR2 := Lib.hid hrr; have HC2 := Lib.hid (HC1.out.trans hcc); have HP2 := Lib.hid hp2; have HT2 := Lib.hid hs2; have hln2 : n2.length = its.length := hp2.len
                  clear hrr hcc hp2 hs2 HCALL2
                  have hcall := HI.out n2 F g o cap c en b w2 HBL.out.2 HR2.out (by omega) x1 x2 (by omega) (HSC.out.same HP2.out (.inr (Nat.le_refl _))) (HSD.out.same HP2.out (.inr (by omega)))
                  rw [hln2] at hcall
                  have HCALL3 := Lib.hid hcall; clear hcall
                  go_wp2_with fail
                  refine HCALL3.out.mono ?_
                  rintro e w3 ⟨rfl, n3, hp3, hs3, hrr, hcc⟩
                  have HR3 := Lib.hid hrr; have HC3 := Lib.hid (HC2.out.trans hcc); have HP3 := Lib.hid hp3; have HT3 := Lib.hid hs3
                  clear hrr hcc hp3 hs3 HCALL3
                  have HJ := Lib.hid (merge_join HP1.out HSP.out HP2.out HT2.out HP3.out HT3.out (Nat.le_of_lt hmd1) (Nat.le_of_lt hmd2))
                  go_wp2
                  first | go_end0 | (refine bodyPost_ret (results_none rfl _ _ _) rfl ?_)
                  exact ⟨rfl, n3, HJ.out.1, HJ.out.2, HR3.out, HC3.out⟩
                · skip
                  have xa : (c : Int) < (en : Int) := by omega
                  have xb : ¬ (en : Int) < (b : Int) := by omega
                  have HM1 := Lib.hid ((Moved.refl its).congr (h := roIx r m en) fun k => (roIx_id (by omega) hr4 hr3 k).symm)
                  have HR1 := Lib.hid HR.out; have HC1 := Lib.hid HC.out
                  obtain ⟨hp1, hsp, hsa, hsb, hsc, hsd⟩ := HDONE.out _ HM1.out
                  have HP1 := Lib.hid hp1; have HSP := Lib.hid hsp; have HSA := Lib.hid hsa; have HSB := Lib.hid hsb; have HSC := Lib.hid hsc; have HSD := Lib.hid hsd
                  clear hp1 hsp hsa hsb hsc hsd
                  have hcall := HI.out its F g o cap a r c wr HBL.out.1 HR1.out (by omega) v1 v2 (by omega) HSA.out HSB.out
                  have HCALL2 := Lib.hid hcall; clear hcall
                  go_wp2_with fail
                  refine HCALL2.out.mono ?_
                  rintro e w2 ⟨rfl, n2, hp2, hs2, hrr, hcc⟩
                  have HR2 := Lib.hid hrr; have HC2 := Lib.hid (HC1.out.trans hcc); have HP2 := Lib.hid hp2; have HT2 := Lib.hid hs2; have hln2 : n2.length = its.length := hp2.len
                  clear hrr hcc hp2 hs2 HCALL2
                  have HP3 := Lib.hid (PermOn.refl c b n2)
                  have HT3 := Lib.hid (show SortedOn c b n2 from by
                    have e1 : en = b := by omega
                    have k := HSC.out.same HP2.out (.inr (Nat.le_refl _)); rw [e1] at k; exact k)
                  have HR3 := Lib.hid HR2.out; have HC3 := Lib.hid HC2.out
                  have HJ := Lib.hid (merge_join HP1.out HSP.out HP2.out HT2.out HP3.out HT3.out (Nat.le_of_lt hmd1) (Nat.le_of_lt hmd2))
                  go_wp2
                  first | go_end0 | (refine bodyPost_ret (results_none rfl _ _ _) rfl ?_)
                  exact ⟨rfl, n2, HJ.out.1, HJ.out.2, HR3.out, HC3.out⟩
              · skip
                have xa : ¬ (c : Int) < (en : Int) := by omega
                have HM1 := Lib.hid ((Moved.refl its).congr (h := roIx r m en) fun k => (roIx_id (by omega) hr4 hr3 k).symm)
                have HR1 := Lib.hid HR.out; have HC1 := Lib.hid HC.out
                obtain ⟨hp1, hsp, hsa, hsb, hsc, hsd⟩ := HDONE.out _ HM1.out
                have HP1 := Lib.hid hp1; have HSP := Lib.hid hsp; have HSA := Lib.hid hsa; have HSB := Lib.hid hsb; have HSC := Lib.hid hsc; have HSD := Lib.hid hsd
                clear hp1 hsp hsa hsb hsc hsd
                have hcall := HI.out its F g o cap a r c wr HBL.out.1 HR1.out (by omega) v1 v2 (by omega) HSA.out HSB.out
                have HCALL2 := Lib.hid hcall; clear hcall
                go_wp2_with fail
                refine HCALL2.out.mono ?_
                rintro e w2 ⟨rfl, n2, hp2, hs2, hrr, hcc⟩
                have HR2 := Lib.hid hrr; have HC2 := Lib.hid (HC1.out.trans hcc); have HP2 := Lib.hid hp2; have HT2 := Lib.hid hs2; have hln2 : n2.length = its.length := hp2.len
                clear hrr hcc hp2 hs2 HCALL2
                have HP3 := Lib.hid (PermOn.refl c b n2)
                have HT3 := Lib.hid (show SortedOn c b n2 from by
                  have e1 : en = c := by omega
                  have k := HSD.out.same HP2.out (.inr (by omega)); rw [e1] at k; exact k)
                have HR3 := Lib.hid HR2.out; have HC3 := Lib.hid HC2.out
                have HJ := Lib.hid (merge_join HP1.out HSP.out HP2.out HT2.out HP3.out HT3.out (Nat.le_of_lt hmd1) (Nat.le_of_lt hmd2))
                go_wp2
                first | go_end0 | (refine bodyPost_ret (results_none rfl _ _ _) rfl ?_)
                exact ⟨rfl, n2, HJ.out.1, HJ.out.2, HR3.out, HC3.out⟩
            · skip
              have va : (a : Int) < (r : Int) := by omega
              have vb : ¬ (r : Int) < (c : Int) := by omega
              by_cases x1 : c < en
              · by_cases x2 : en < b
                · skip
                  have xa : (c : Int) < (en : Int) := by omega
                  have xb : (en : Int) < (b : Int) := by omega
                  have HM1 := Lib.hid ((Moved.refl its).congr (h := roIx r m en) fun k => (roIx_id (by omega) hr4 hr3 k).symm)
                  have HR1 := Lib.hid HR.out; have HC1 := Lib.hid HC.out
                  obtain ⟨hp1, hsp, hsa, hsb, hsc, hsd⟩ := HDONE.out _ HM1.out
                  have HP1 := Lib.hid hp1; have HSP := Lib.hid hsp; have HSA := Lib.hid hsa; have HSB := Lib.hid hsb; have HSC := Lib.hid hsc; have HSD := Lib.hid hsd
                  clear hp1 hsp hsa hsb hsc hsd
                  have HP2 := Lib.hid (PermOn.refl a c its)
                  have HT2 := Lib.hid (show SortedOn a c its from by
                    have e1 : r = c := by omega
                    rw [e1] at HSA; exact HSA.out)
                  have HR2 := Lib.hid HR1.out; have HC2 := Lib.hid HC1.out
                  have hcall := HI.out its F g o cap c en b wr HBL.out.2 HR2.out (by omega) x1 x2 (by omega) (HSC.out.same HP2.out (.inr (Nat.le_refl _))) (HSD.out.same HP2.out (.inr (by omega)))
                  have HCALL3 := Lib.hid hcall; clear hcall
                  go_wp2_with fail
                  refine HCALL3.out.mono ?_
                  rintro e w3 ⟨rfl, n3, hp3, hs3, hrr, hcc⟩
                  have HR3 := Lib.hid hrr; have HC3 := Lib.hid (HC2.out.trans hcc); have HP3 := Lib.hid hp3; have HT3 := Lib.hid hs3
                  clear hrr hcc hp3 hs3 HCALL3
                  have HJ := Lib.hid (merge_join HP1.out HSP.out HP2.out HT2.out HP3.out HT3.out (Nat.le_of_lt hmd1) (Nat.le_of_lt hmd2))
                  go_wp2
                  first | go_end0 | (refine bodyPost_ret (results_none rfl _ _ _) rfl ?_)
                  exact ⟨rfl, n3, HJ.out.1, HJ.out.2, HR3.out, HC3.out⟩
                · skip
                  have xa : (c : Int) < (en : Int) := by omega
                  have xb : ¬ (en : Int) < (b : Int) := by omega
                  have HM1 := Lib.hid ((Moved.refl its).congr (h := roIx r m en) fun k => (roIx_id (by omega) hr4 hr3 k).symm)
                  have HR1 := Lib.hid HR.out; have HC1 := Lib.hid HC.out
                  obtain ⟨hp1, hsp, hsa, hsb, hsc, hsd⟩ := HDONE.out _ HM1.out
                  have HP1 := Lib.hid hp1; have HSP := Lib.hid hsp; have HSA := Lib.hid hsa; have HSB := Lib.hid hsb; have HSC := Lib.hid hsc; have HSD := Lib.hid hsd
                  clear hp1 hsp hsa hsb hsc hsd
                  have HP2 := Lib.hid (PermOn.refl a c its)
                  have HT2 := Lib.hid (show SortedOn a c its from by
                    have e1 : r = c := by omega
                    rw [e1] at HSA; exact HSA.out)
                  have HR2 := Lib.hid HR1.out; have HC2 := Lib.hid HC1.out
                  have HP3 := Lib.hid (PermOn.refl c b its)
                  have HT3 := Lib.hid (show SortedOn c b its from by
                    have e1 : en = b := by omega
                    have k := HSC.out.same HP2.out (.inr (Nat.le_refl _)); rw [e1] at k; exact k)
                  have HR3 := Lib.hid HR2.out; have HC3 := Lib.hid HC2.out
                  have HJ := Lib.hid (merge_join HP1.out HSP.out HP2.out HT2.out HP3.out HT3.out (Nat.le_of_lt hmd1) (Nat.le_of_lt hmd2))
                  go_wp2
                  first | go_end0 | (refine bodyPost_ret (results_none rfl _ _ _) rfl ?_)
                  exact ⟨rfl, its, HJ.out.1, HJ.out.2, HR3.out, HC3.out⟩
              · skip
                have xa : ¬ (c : Int) < (en : Int) := by omega
                have HM1 := Lib.hid ((Moved.refl its).congr (h := roIx r m en) fun k => (roIx_id (by omega) hr4 hr3 k).symm)
                have HR1 := Lib.hid HR.out; have HC1 := Lib.hid HC.out
                obtain ⟨hp1, hsp, hsa, hsb, hsc, hsd⟩ := HDONE.out _ HM1.out
                have HP1 := Lib.hid hp1; have HSP := Lib.hid hsp; have HSA := Lib.hid hsa; have HSB := Lib.hid hsb; have HSC := Lib.hid hsc; have HSD := Lib.hid hsd
                clear hp1 hsp hsa hsb hsc hsd
                have HP2 := Lib.hid (PermOn.refl a c its)
                have HT2 := Lib.hid (show SortedOn a c its from by
                  have e1 : r = c := by omega
                  rw [e1] at HSA; exact HSA.out)
                have HR2 := Lib.hid HR1.out; have HC2 := Lib.hid HC1.out
                have HP3 := Lib.hid (PermOn.refl c b its)
                have HT3 := Lib.hid (show SortedOn c b its from by
                  have e1 : en = c := by omega
                  have k := HSD.out.same HP2.out (.inr (by omega)); rw [e1] at k; exact k)
                have HR3 := Lib.hid HR2.out; have HC3 := Lib.hid HC2.out
                have HJ := Lib.hid (merge_join HP1.out HSP.out HP2.out HT2.out HP3.out HT3.out (Nat.le_of_lt hmd1) (Nat.le_of_lt hmd2))
                go_wp2
                first | go_end0 | (refine bodyPost_ret (results_none rfl _ _ _) rfl ?_)
                exact ⟨rfl, its, HJ.out.1, HJ.out.2, HR3.out, HC3.out⟩
          · skip
            have va : ¬ (a : Int) < (r : Int) := by omega
            by_cases x1 : c < en
            · by_cases x2 : en < b
              · skip
                have xa : (c : Int) < (en : Int) := by omega
                have xb : (en : Int) < (b : Int) := by omega
                have HM1 := Lib.hid ((Moved.refl its).congr (h := roIx r m en) fun k => (roIx_id (by omega) hr4 hr3 k).symm)
                have HR1 := Lib.hid HR.out; have HC1 := Lib.hid HC.out
                obtain ⟨hp1, hsp, hsa, hsb, hsc, hsd⟩ := HDONE.out _ HM1.out
                have HP1 := Lib.hid hp1; have HSP := Lib.hid hsp; have HSA := Lib.hid hsa; have HSB := Lib.hid hsb; have HSC := Lib.hid hsc; have HSD := Lib.hid hsd
                clear hp1 hsp hsa hsb hsc hsd
                have HP2 := Lib.hid (PermOn.refl a c its)
                have HT2 := Lib.hid (show SortedOn a c its from by
                  have e1 : r = a := by omega
                  rw [e1] at HSB; exact HSB.out)
                have HR2 := Lib.hid HR1.out; have HC2 := Lib.hid HC1.out
                have hcall := HI.out its F g o cap c en b wr HBL.out.2 HR2.out (by omega) x1 x2 (by omega) (HSC.out.same HP2.out (.inr (Nat.le_refl _))) (HSD.out.same HP2.out (.inr (by omega)))
                have HCALL3 := Lib.hid hcall; clear hcall
                go_wp2_with fail
                refine HCALL3.out.mono ?_
                rintro e w3 ⟨rfl, n3, hp3, hs3, hrr, hcc⟩
                have HR3 := Lib.hid hrr; have HC3 := Lib.hid (HC2.out.trans hcc); have HP3 := Lib.hid hp3; have HT3 := Lib.hid hs3
                clear hrr hcc hp3 hs3 HCALL3
                have HJ := Lib.hid (merge_join HP1.out HSP.out HP2.out HT2.out HP3.out HT3.out (Nat.le_of_lt hmd1) (Nat.le_of_lt hmd2))
                go_wp2
                first | go_end0 | (refine bodyPost_ret (results_none rfl _ _ _) rfl ?_)
                exact ⟨rfl, n3, HJ.out.1, HJ.out.2, HR3.out, HC3.out⟩
              · skip
                have xa : (c : Int) < (en : Int) := by omega
                have xb : ¬ (en : Int) < (b : Int) := by omega
                have HM1 := Lib.hid ((Moved.refl its).congr (h := roIx r m en) fun k => (roIx_id (by omega) hr4 hr3 k).symm)
                have HR1 := Lib.hid HR.out; have HC1 := Lib.hid HC.out
                obtain ⟨hp1, hsp, hsa, hsb, hsc, hsd⟩ := HDONE.out _ HM1.out
                have HP1 := Lib.hid hp1; have HSP := Lib.hid hsp; have HSA := Lib.hid hsa; have HSB := Lib.hid hsb; have HSC := Lib.hid hsc; have HSD := Lib.hid hsd
                clear hp1 hsp hsa hsb hsc hsd
                have HP2 := Lib.hid (PermOn.refl a c its)
                have HT2 := Lib.hid (show SortedOn a c its from by
                  have e1 : r = a := by omega
                  rw [e1] at HSB; exact HSB.out)
                have HR2 := Lib.hid HR1.out; have HC2 := Lib.hid HC1.out
                have HP3 := Lib.hid (PermOn.refl c b its)
                have HT3 := Lib.hid (show SortedOn c b its from by
                  have e1 : en = b := by omega
                  have k := HSC.out.same HP2.out (.inr (Nat.le_refl _)); rw [e1] at k; exact k)
                have HR3 := Lib.hid HR2.out; have HC3 := Lib.hid HC2.out
                have HJ := Lib.hid (merge_join HP1.out HSP.out HP2.out HT2.out HP3.out HT3.out (Nat.le_of_lt hmd1) (Nat.le_of_lt hmd2))
                go_wp2
                first | go_end0 | (refine bodyPost_ret (results_none rfl _ _ _) rfl ?_)
                exact ⟨rfl, its, HJ.out.1, HJ.out.2, HR3.out, HC3.out⟩
            · skip
              have xa : ¬ (c : Int) < (en : Int) := by omega
              have HM1 := Lib.hid ((Moved.refl its).congr (h := roIx r m en) fun k => (roIx_id (by omega) hr4 hr3 k).symm)
              have HR1 := Lib.hid HR.out; have HC1 := Lib.hid HC.out
              obtain ⟨hp1, hsp, hsa, hsb, hsc, hsd⟩ := HDONE.out _ HM1.out
              have HP1 := Lib.hid hp1; have HSP := Lib.hid hsp; have HSA := Lib.hid hsa; have HSB := Lib.hid hsb; have HSC := Lib.hid hsc; have HSD := Lib.hid hsd
              clear hp1 hsp hsa hsb hsc hsd
              have HP2 := Lib.hid (PermOn.refl a c its)
              have HT2 := Lib.hid (show SortedOn a c its from by
                have e1 : r = a := by omega
                rw [e1] at HSB; exact HSB.out)
              have HR2 := Lib.hid HR1.out; have HC2 := Lib.hid HC1.out
              have HP3 := Lib.hid (PermOn.refl c b its)
              have HT3 := Lib.hid (show SortedOn c b its from by
                have e1 : en = c := by omega
                have k := HSD.out.same HP2.out (.inr (by omega)); rw [e1] at k; exact k)
              have HR3 := Lib.hid HR2.out; have HC3 := Lib.hid HC2.out
              have HJ := Lib.hid (merge_join HP1.out HSP.out HP2.out HT2.out HP3.out HT3.out (Nat.le_of_lt hmd1) (Nat.le_of_lt hmd2))
              go_wp2
              first | go_end0 | (refine bodyPost_ret (results_none rfl _ _ _) rfl ?_)
              exact ⟨rfl, its, HJ.out.1, HJ.out.2, HR3.out, HC3.out⟩
end Go.Proofs.YtonhkglilnplbaaGreatDoor
