/- Walks: symMerge, in full. Walks: symMerge on any row: two parts in order become one. Walks: the library's stable sort, on any row of entries. Walks: the program's dictionary of entries that stand in any order. -/
import Derived.Deep.DeepCutAuto
import Derived.BigRegion
import Derived.IntWalk
import Derived.Test.YtonhkglilnplbaaGreatDoorSortG
import Derived.Test.YtonhkglilnplbaaGreatDoorMemF
set_option linter.all false
namespace Go.Proofs.YtonhkglilnplbaaGreatDoor
section
open Go Go.RowKit
set_option maxHeartbeats 8000000
set_option maxRecDepth 100000
theorem roIx_id {s m e : Nat} (h : ¬ (s < m ∧ m < e)) (h1 : s ≤ m) (h2 : m ≤ e) (k : Nat) : roIx s m e k = k := by
  unfold roIx
  repeat' split
  all_goals omega
theorem merge_join {a b c : Nat} {l l1 l2 l3 : List It} (h1 : PermOn a b l l1) (hs : Split a c b l1) (h2 : PermOn a c l1 l2) (s2 : SortedOn a c l2) (h3 : PermOn c b l2 l3) (s3 : SortedOn c b l3) (hac : a ≤ c) (hcb : c ≤ b) : PermOn a b l l3 ∧ SortedOn a b l3 :=
  ⟨(h1.trans (h2.mono (Nat.le_refl _) hcb)).trans (h3.mono hac (Nat.le_refl _)), ((hs.left h2).right h3).sorted (s2.same h3 (.inl (Nat.le_refl _))) s3⟩
def MergeAll (n : Nat) : Prop := ∀ (its : List It) (F : Blk) (g o cap a m b : Nat) (w : World), b - a ≤ n → RowI w F g o its → its.length ≤ 2 ^ 30 → a < m → m < b → b ≤ its.length → SortedOn a m its → SortedOn m b its →
    Calls Tryz.prog 203 #[.slice (some ⟨g, o, none⟩) its.length cap, .int .i64 a, .int .i64 m, .int .i64 b, byF] w (MergePost its F g o a b w)
theorem merge_mid (n : Nat) (IH : MergeAll n) (its : List It) (F : Blk) (g o cap a m b : Nat) (w : World) (hn : b - a ≤ n + 1) (h : RowI w F g o its) (hl : its.length ≤ 2 ^ 30) (ha1 : a + 1 < m) (hb1 : m + 1 < b) (hb : b ≤ its.length) (h1 : SortedOn a m its) (h2 : SortedOn m b its) :
    Calls Tryz.prog 203 #[.slice (some ⟨g, o, none⟩) its.length cap, .int .i64 a, .int .i64 m, .int .i64 b, byF] w (MergePost its F g o a b w) := by
  have HH := Lib.hid h; have HS1 := Lib.hid h1; have HS2 := Lib.hid h2; have HI := Lib.hid IH; clear h h1 h2 IH
  have hd1 : ((m : Int) - (a : Int) == 1) = false := by rw [beq_eq_false_iff_ne]; omega
  have hd2 : ((b : Int) - (m : Int) == 1) = false := by rw [beq_eq_false_iff_ne]; omega
  obtain ⟨c, hmid⟩ : ∃ c : Nat, (a + b) / 2 = c := ⟨_, rfl⟩
  have hmi : ((a : Int) + (b : Int)) / 2 = (c : Int) := by omega
  have hmd1 : a < c := by omega
  have hmd2 : c < b := by omega
  have hmd3 : a + b ≤ 2 * c + 1 := by omega
  have hmd4 : 2 * c ≤ a + b := by omega
  clear hmid
  by_cases hmm : c < m
  · skip
    have hmm' : (c : Int) < (m : Int) := by omega
    have HZ := Lib.hid (show (c : Int) + (m : Int) - (b : Int) = ((c + m - b : Nat) : Int) by omega)
    go_enter Tryz.func203, Tryz.ntmps203
    go_wp2_with fail
    go_loopw [20, 21] (fun x y wr => ∃ j r : Nat, (c + m - b) ≤ j ∧ j ≤ r ∧ r ≤ c ∧ x = .int .i64 j ∧ y = .int .i64 r ∧ Bin its c m (c + m - b) c j r ∧ RowI wr F g o its ∧ Chg (fun b => b = g) w wr) (fun x y _ => (intOf y).toNat - (intOf x).toNat)
    case atStart => exact ⟨(c + m - b), c, Nat.le_refl _, by omega, Nat.le_refl _, by first | rfl | go_num, by first | rfl | go_num, Bin.start its c m (c + m - b) c, HH.out, Chg.refl _ _⟩
    case round =>
      obtain ⟨j, r, hj1, hjr, hr1, rfl, rfl, hbin, hr, hch⟩ := hrel
      have HBI := Lib.hid hbin; have HR := Lib.hid hr; have HC := Lib.hid hch
      clear hbin hr hch HH
      by_cases hlt : j < r
      · obtain ⟨h, hh⟩ : ∃ h : Nat, (j + r) / 2 = h := ⟨_, rfl⟩
        have hhi : ((j : Int) + (r : Int)) / 2 = (h : Int) := by omega
        have hh1 : j ≤ h := by omega
        have hh2 : h < r := by omega
        clear hh
        obtain ⟨q, hq⟩ : ∃ q : Nat, c + m - 1 - h = q := ⟨_, rfl⟩
        have hqi : (c : Int) + (m : Int) - 1 - (h : Int) = (q : Int) := by omega
        have hw1 : IntKind.i64.wrap (q : Int) = (q : Int) := IntWalk.i64_in _ (by omega)
        have hq2 : q < b := by omega
        have hhl : h < its.length := by omega
        have hql : q < its.length := by omega
        have h1i : (j : Int) < (r : Int) := by omega
        have HLOW := Lib.hid (fun (hc : ¬ P.cmp (its[c + m - 1 - h]'(by omega)).e.1 (its[h]'hhl).e.1 < 0) => HBI.out.low HS1.out HS2.out (by omega) (by omega) (by omega) (by omega) (by omega) (by omega) hhl (by omega) hc)
        have HHIGH := Lib.hid (fun (hc : P.cmp (its[c + m - 1 - h]'(by omega)).e.1 (its[h]'hhl).e.1 < 0) => HBI.out.high HS1.out HS2.out (by omega) (by omega) (by omega) (by omega) (by omega) (by omega) hhl (by omega) hc)
        subst hq
        go_upto_region 35 with fail
        try rw [hhi]
        clear hhi
        obtain ⟨xd, xc, yd, yc, hx, hy, hkc⟩ := HR.out.two (c + m - 1 - h) h hql hhl
        generalize (its[c + m - 1 - h]'hql) = en at *
        generalize (its[h]'hhl) = fn at *
        obtain ⟨q, hq⟩ : ∃ q : Nat, c + m - 1 - h = q := ⟨_, rfl⟩
        rw [hq] at hqi hw1 hq2 hql hkc
        obtain ⟨x, Gx, eo, et⟩ := en
        obtain ⟨y, Gy, fo, ft⟩ := fn
        simp only at hx hy hkc HLOW HHIGH
        subst hx hy
        have HK0 := Lib.hid (hkc.step (Below.refl _ _).drew); clear hkc
        have hnp : ¬ its.length ≤ q := by omega
        have hnq : ¬ its.length ≤ h := by omega
        refine wp_region_held_drew (S := KC wr.heap.size wr g (o + q * 2) (.slice xd eo.length xc) eo et (o + h * 2) (.slice yd fo.length yc) fo ft) (by kernel_rfl) HK0.out (fun hS0 => ?_)
        refine wpAnyH_take (i := 0) (v := byF) rfl (by kernel_rfl) (by kernel_rfl) (by kernel_rfl) (fun _ _ _ h => h) (Or.inl ⟨by rfl, fun z hz => ?_⟩) hS0 ?_
        · obtain ⟨z1, z2, z3, z4, z5, z6⟩ := hz
          go_simp
        try simp only [List.getElem_toArray, List.getElem_cons_zero, Act.put, List.setIfInBounds_toArray, List.set_cons_zero, List.set_cons_succ]
        refine wpAnyH_take (i := 1) (v := .slice (some ⟨g, o, none⟩) its.length cap) rfl (by kernel_rfl) (by kernel_rfl) (by kernel_rfl) (fun _ _ _ h => h) (Or.inl ⟨by rfl, fun z hz => ?_⟩) hS0 ?_
        · obtain ⟨z1, z2, z3, z4, z5, z6⟩ := hz
          go_simp
        try simp only [List.getElem_toArray, List.getElem_cons_zero, List.getElem_cons_succ, Act.put, List.setIfInBounds_toArray, List.set_cons_zero, List.set_cons_succ]
        refine wpAnyH_take (i := 2) (v := .int .i64 ((c : Int) + (m : Int) - 1)) rfl (by kernel_rfl) (by kernel_rfl) (by kernel_rfl) (fun _ _ _ h => h) (Or.inl ⟨by rfl, fun z hz => ?_⟩) hS0 ?_
        · obtain ⟨z1, z2, z3, z4, z5, z6⟩ := hz
          go_simp
        try simp only [List.getElem_toArray, List.getElem_cons_zero, List.getElem_cons_succ, Act.put, List.setIfInBounds_toArray, List.set_cons_zero, List.set_cons_succ]
        refine wpAnyH_take (i := 3) (v := .int .i64 h) rfl (by kernel_rfl) (by kernel_rfl) (by kernel_rfl) (fun _ _ _ h => h) (Or.inl ⟨by rfl, fun z hz => ?_⟩) hS0 ?_
        · obtain ⟨z1, z2, z3, z4, z5, z6⟩ := hz
          go_simp
        try simp only [List.getElem_toArray, List.getElem_cons_zero, List.getElem_cons_succ, Act.put, List.setIfInBounds_toArray, List.set_cons_zero, List.set_cons_succ]
        refine wpAnyH_take (i := 4) (v := .int .i64 q) rfl (by kernel_rfl) (by kernel_rfl) (by kernel_rfl) (fun _ _ _ h => h) (Or.inl ⟨by rfl, fun z hz => ?_⟩) hS0 ?_
        · obtain ⟨z1, z2, z3, z4, z5, z6⟩ := hz
          go_simp
        try simp only [List.getElem_toArray, List.getElem_cons_zero, List.getElem_cons_succ, Act.put, List.setIfInBounds_toArray, List.set_cons_zero, List.set_cons_succ]
        refine wpAnyH_take (i := 5) (v := .pointer (some ⟨g, o + q * 2, none⟩)) rfl (by kernel_rfl) (by kernel_rfl) (by kernel_rfl) (fun _ _ _ h => h) (Or.inl ⟨by rfl, fun z hz => ?_⟩) hS0 ?_
        · obtain ⟨z1, z2, z3, z4, z5, z6⟩ := hz
          go_simp
        try simp only [List.getElem_toArray, List.getElem_cons_zero, List.getElem_cons_succ, Act.put, List.setIfInBounds_toArray, List.set_cons_zero, List.set_cons_succ]
        refine wpAnyH_take (i := 6) (v := .agg #[.slice xd eo.length xc, .string (S et)]) rfl (by kernel_rfl) (by kernel_rfl) (by kernel_rfl) (fun _ _ _ h => h) (Or.inl ⟨by rfl, fun z hz => ?_⟩) hS0 ?_
        · obtain ⟨z1, z2, z3, z4, z5, z6⟩ := hz
          go_simp
        try simp only [List.getElem_toArray, List.getElem_cons_zero, List.getElem_cons_succ, Act.put, List.setIfInBounds_toArray, List.set_cons_zero, List.set_cons_succ]
        refine wpAnyH_take (i := 7) (v := .slice (some ⟨g, o, none⟩) its.length cap) rfl (by kernel_rfl) (by kernel_rfl) (by kernel_rfl) (fun _ _ _ h => h) (Or.inl ⟨by rfl, fun z hz => ?_⟩) hS0 ?_
        · obtain ⟨z1, z2, z3, z4, z5, z6⟩ := hz
          go_simp
        try simp only [List.getElem_toArray, List.getElem_cons_zero, List.getElem_cons_succ, Act.put, List.setIfInBounds_toArray, List.set_cons_zero, List.set_cons_succ]
        refine wpAnyH_take (i := 8) (v := .int .i64 h) rfl (by kernel_rfl) (by kernel_rfl) (by kernel_rfl) (fun _ _ _ h => h) (Or.inl ⟨by rfl, fun z hz => ?_⟩) hS0 ?_
        · obtain ⟨z1, z2, z3, z4, z5, z6⟩ := hz
          go_simp
        try simp only [List.getElem_toArray, List.getElem_cons_zero, List.getElem_cons_succ, Act.put, List.setIfInBounds_toArray, List.set_cons_zero, List.set_cons_succ]
        refine wpAnyH_take (i := 9) (v := .pointer (some ⟨g, o + h * 2, none⟩)) rfl (by kernel_rfl) (by kernel_rfl) (by kernel_rfl) (fun _ _ _ h => h) (Or.inl ⟨by rfl, fun z hz => ?_⟩) hS0 ?_
        · obtain ⟨z1, z2, z3, z4, z5, z6⟩ := hz
          go_simp
        try simp only [List.getElem_toArray, List.getElem_cons_zero, List.getElem_cons_succ, Act.put, List.setIfInBounds_toArray, List.set_cons_zero, List.set_cons_succ]
        refine wpAnyH_take (i := 10) (v := .agg #[.slice yd fo.length yc, .string (S ft)]) rfl (by kernel_rfl) (by kernel_rfl) (by kernel_rfl) (fun _ _ _ h => h) (Or.inl ⟨by rfl, fun z hz => ?_⟩) hS0 ?_
        · obtain ⟨z1, z2, z3, z4, z5, z6⟩ := hz
          go_simp
        try simp only [List.getElem_toArray, List.getElem_cons_zero, List.getElem_cons_succ, Act.put, List.setIfInBounds_toArray, List.set_cons_zero, List.set_cons_succ]
        refine wpAnyH_ready (rs := [11]) (by kernel_rfl) (by simp) ?_
        refine AllReadyH.cons rfl (fun K hK => ?_) AllReadyH.nil
        have HX := Lib.hid hS0.2.2.2.2.2.1
        have HY := Lib.hid hS0.2.2.2.2.2.2.1
        have HSK := Lib.hid hS0
        go_simp
        refine (byOutline _ _ eo fo et ft _ HX.out HY.out).mono ?_
        rintro e v ⟨rfl, hb⟩
        refine hK.out _ _ (HSK.out.step hb) (fun hS1 => ?_)
        clear hK K hb
        try simp only [List.getElem_toArray, List.getElem_cons_zero, List.getElem_cons_succ, Act.put, List.setIfInBounds_toArray, List.set_cons_zero, List.set_cons_succ]
        have HBV := Lib.hid hS1.2.2.2.2.2.2.2.2
        have HRV := Lib.hid (HR.out.below HBV.out)
        have HCV := Lib.hid (HC.out.trans (Below.chg HBV.out _))
        by_cases hcmp : P.cmp eo fo < 0
        · have HQ := Lib.hid (HHIGH.out hcmp)
          refine wpAnyH_take (i := 12) (v := .bool true) rfl (by kernel_rfl) (by kernel_rfl) (by kernel_rfl) (fun _ _ _ h => h) (Or.inl ⟨by rfl, fun z hz => ?_⟩) hS1 ?_
          · obtain ⟨z1, z2, z3, z4, z5, z6⟩ := hz
            go_simp
          try simp only [List.getElem_toArray, List.getElem_cons_zero, List.getElem_cons_succ, Act.put, List.setIfInBounds_toArray, List.set_cons_zero, List.set_cons_succ]
          refine wpAnyH_take (i := 13) (v := .bool false) rfl (by kernel_rfl) (by kernel_rfl) (by kernel_rfl) (fun _ _ _ h => h) (Or.inl ⟨by rfl, fun z hz => ?_⟩) hS1 ?_
          · obtain ⟨z1, z2, z3, z4, z5, z6⟩ := hz
            go_simp
          try simp only [List.getElem_toArray, List.getElem_cons_zero, List.getElem_cons_succ, Act.put, List.setIfInBounds_toArray, List.set_cons_zero, List.set_cons_succ]
          refine wpAnyH_done (by kernel_rfl) ?_ _
          clear hS0 HSK hS1 HLOW HHIGH hcmp HX HY HK0 HR HC HBV hnp hnq hw1 hqi
          go_wp2
          go_roundw
          case rel => exact ⟨j, h, hj1, hh1, by omega, rfl, rfl, HQ.out, HRV.out, HCV.out⟩
          case measure => simp [intOf]; omega
        · have HQ := Lib.hid (HLOW.out hcmp)
          refine wpAnyH_take (i := 12) (v := .bool false) rfl (by kernel_rfl) (by kernel_rfl) (by kernel_rfl) (fun _ _ _ h => h) (Or.inl ⟨by rfl, fun z hz => ?_⟩) hS1 ?_
          · obtain ⟨z1, z2, z3, z4, z5, z6⟩ := hz
            go_simp
          try simp only [List.getElem_toArray, List.getElem_cons_zero, List.getElem_cons_succ, Act.put, List.setIfInBounds_toArray, List.set_cons_zero, List.set_cons_succ]
          refine wpAnyH_take (i := 13) (v := .bool true) rfl (by kernel_rfl) (by kernel_rfl) (by kernel_rfl) (fun _ _ _ h => h) (Or.inl ⟨by rfl, fun z hz => ?_⟩) hS1 ?_
          · obtain ⟨z1, z2, z3, z4, z5, z6⟩ := hz
            go_simp
          try simp only [List.getElem_toArray, List.getElem_cons_zero, List.getElem_cons_succ, Act.put, List.setIfInBounds_toArray, List.set_cons_zero, List.set_cons_succ]
          refine wpAnyH_done (by kernel_rfl) ?_ _
          clear hS0 HSK hS1 HLOW HHIGH hcmp HX HY HK0 HR HC HBV hnp hnq hw1 hqi
          go_wp2
          go_roundw
          case rel => exact ⟨h + 1, r, by omega, by omega, hr1, by go_num, rfl, HQ.out, HRV.out, HCV.out⟩
          case measure => simp [intOf]; omega
      · have hjm : r = j := by omega
        subst hjm
        obtain ⟨en, hen⟩ : ∃ en : Nat, c + m - r = en := ⟨_, rfl⟩
        have hrng : en ≤ b ∧ m ≤ en ∧ r ≤ m ∧ r ≤ c ∧ a ≤ r ∧ c ≤ en := by omega
        obtain ⟨hr2, hr3, hr4, hr5, hr6, hr7⟩ := hrng
        have hei : (c : Int) + (m : Int) - (r : Int) = (en : Int) := by omega
        have hwe : IntKind.i64.wrap (en : Int) = (en : Int) := IntWalk.i64_in _ (by omega)
        have HDONE := Lib.hid (show ∀ l', Moved its l' (roIx r m en) → PermOn a b its l' ∧ Split a c b l' ∧ SortedOn a r l' ∧ SortedOn r c l' ∧ SortedOn c en l' ∧ SortedOn en b l' from fun l' hm => by rw [← hen] at hm ⊢; exact HBI.out.done HS1.out HS2.out hb (by omega) (by left; exact ⟨by omega, rfl, rfl⟩) (by omega) hmd2 hmd3 hmd4 hj1 hr1 hm)
        have HBL := Lib.hid (show c - a ≤ n ∧ b - c ≤ n by omega)
        clear hen HBI HS1 HS2
        by_cases u1 : r < m
        · by_cases u2 : m < en
          · skip
            have ua : (r : Int) < (m : Int) := by omega
            have ub : (m : Int) < (en : Int) := by omega
            by_cases v1 : a < r
            · by_cases v2 : r < c
              · skip
                have va : (a : Int) < (r : Int) := by omega
                have vb : (r : Int) < (c : Int) := by omega
                by_cases x1 : c < en
                · by_cases x2 : en < b
                  · skip
                    have xa : (c : Int) < (en : Int) := by omega
                    have xb : (en : Int) < (b : Int) := by omega
                    have HCALL := Lib.hid (rotate_full its F g o cap r m en wr HR.out hl u1 u2 (by omega))
                    go_wp2_with fail
                    refine HCALL.out.mono ?_
                    rintro e w1 ⟨rfl, n1, hm1, hrr, hcc⟩
                    have HR1 := Lib.hid hrr; have HC1 := Lib.hid (HC.out.trans hcc); have HM1 := Lib.hid hm1
                    clear hrr hcc HCALL
                    have hln1 : n1.length = its.length := hm1.len
                    clear hm1
                    obtain ⟨hp1, hsp, hsa, hsb, hsc, hsd⟩ := HDONE.out _ HM1.out
                    have HP1 := Lib.hid hp1; have HSP := Lib.hid hsp; have HSA := Lib.hid hsa; have HSB := Lib.hid hsb; have HSC := Lib.hid hsc; have HSD := Lib.hid hsd
                    clear hp1 hsp hsa hsb hsc hsd
                    have hcall := HI.out n1 F g o cap a r c w1 HBL.out.1 HR1.out (by omega) v1 v2 (by omega) HSA.out HSB.out
                    rw [hln1] at hcall
                    have HCALL2 := Lib.hid hcall; clear hcall
                    go_wp2_with fail
                    refine HCALL2.out.mono ?_
                    rintro e w2 ⟨rfl, n2, hp2, hs2, hrr, hcc⟩
                    have HR2 := Lib.hid hrr; have HC2 := Lib.hid (HC1.out.trans hcc); have HP2 := Lib.hid hp2; have HT2 := Lib.hid hs2; have hln2 : n2.length = its.length := hp2.len.trans hln1
                    clear hrr hcc hp2 hs2 HCALL2
                    have hcall := HI.out n2 F g o cap c en b w2 HBL.out.2 HR2.out (by omega) x1 x2 (by omega) (HSC.out.same HP2.out (.inr (Nat.le_refl _))) (HSD.out.same HP2.out (.inr (by omega)))
                    rw [hln2] at hcall
                    have HCALL3 := Lib.hid hcall; clear hcall
                    go_wp2_with fail
                    refine HCALL3.out.mono ?_
                    rintro e w3 ⟨rfl, n3, hp3, hs3, hrr, hcc⟩
                    have HR3 := Lib.hid hrr; have HC3 := Lib.hid (HC2.out.trans hcc); have HP3 := Lib.hid hp3; have HT3 := Lib.hid hs3
                    clear hrr hcc hp3 hs3 HCALL3
                    have HJ := Lib.hid (merge_join HP1.out HSP.out HP2.out HT2.out HP3.out HT3.out (Nat.le_of_lt hmd1) (Nat.le_of_lt hmd2))
                    go_wp2
                    first | go_end0 | (refine bodyPost_ret (results_none rfl _ _ _) rfl ?_)
                    exact ⟨rfl, n3, HJ.out.1, HJ.out.2, HR3.out, HC3.out⟩
                  · skip
                    have xa : (c : Int) < (en : Int) := by omega
                    have xb : ¬ (en : Int) < (b : Int) := by omega
                    have HCALL := Lib.hid (rotate_full its F g o cap r m en wr HR.out hl u1 u2 (by omega))
                    go_wp2_with fail
                    refine HCALL.out.mono ?_
                    rintro e w1 ⟨rfl, n1, hm1, hrr, hcc⟩
                    have HR1 := Lib.hid hrr; have HC1 := Lib.hid (HC.out.trans hcc); have HM1 := Lib.hid hm1
                    clear hrr hcc HCALL
                    have hln1 : n1.length = its.length := hm1.len
                    clear hm1
                    obtain ⟨hp1, hsp, hsa, hsb, hsc, hsd⟩ := HDONE.out _ HM1.out
                    have HP1 := Lib.hid hp1; have HSP := Lib.hid hsp; have HSA := Lib.hid hsa; have HSB := Lib.hid hsb; have HSC := Lib.hid hsc; have HSD := Lib.hid hsd
                    clear hp1 hsp hsa hsb hsc hsd
                    have hcall := HI.out n1 F g o cap a r c w1 HBL.out.1 HR1.out (by omega) v1 v2 (by omega) HSA.out HSB.out
                    rw [hln1] at hcall
                    have HCALL2 := Lib.hid hcall; clear hcall
                    go_wp2_with fail
                    refine HCALL2.out.mono ?_
                    rintro e w2 ⟨rfl, n2, hp2, hs2, hrr, hcc⟩
                    have HR2 := Lib.hid hrr; have HC2 := Lib.hid (HC1.out.trans hcc); have HP2 := Lib.hid hp2; have HT2 := Lib.hid hs2; have hln2 : n2.length = its.length := hp2.len.trans hln1
                    clear hrr hcc hp2 hs2 HCALL2
                    have HP3 := Lib.hid (PermOn.refl c b n2)
                    have HT3 := Lib.hid (show SortedOn c b n2 from by
                      have e1 : en = b := by omega
                      have k := HSC.out.same HP2.out (.inr (Nat.le_refl _)); rw [e1] at k; exact k)
                    have HR3 := Lib.hid HR2.out; have HC3 := Lib.hid HC2.out
                    have HJ := Lib.hid (merge_join HP1.out HSP.out HP2.out HT2.out HP3.out HT3.out (Nat.le_of_lt hmd1) (Nat.le_of_lt hmd2))
                    go_wp2
                    first | go_end0 | (refine bodyPost_ret (results_none rfl _ _ _) rfl ?_)
                    exact ⟨rfl, n2, HJ.out.1, HJ.out.2, HR3.out, HC3.out⟩
                · skip
                  have xa : ¬ (c : Int) < (en : Int) := by omega
                  have HCALL := Lib.hid (rotate_full its F g o cap r m en wr HR.out hl u1 u2 (by omega))
                  go_wp2_with fail
                  refine HCALL.out.mono ?_
                  rintro e w1 ⟨rfl, n1, hm1, hrr, hcc⟩
                  have HR1 := Lib.hid hrr; have HC1 := Lib.hid (HC.out.trans hcc); have HM1 := Lib.hid hm1
                  clear hrr hcc HCALL
                  have hln1 : n1.length = its.length := hm1.len
                  clear hm1
                  obtain ⟨hp1, hsp, hsa, hsb, hsc, hsd⟩ := HDONE.out _ HM1.out
                  have HP1 := Lib.hid hp1; have HSP := Lib.hid hsp; have HSA := Lib.hid hsa; have HSB := Lib.hid hsb; have HSC := Lib.hid hsc; have HSD := Lib.hid hsd
                  clear hp1 hsp hsa hsb hsc hsd
                  have hcall := HI.out n1 F g o cap a r c w1 HBL.out.1 HR1.out (by omega) v1 v2 (by omega) HSA.out HSB.out
                  rw [hln1] at hcall
                  have HCALL2 := Lib.hid hcall; clear hcall
                  go_wp2_with fail
                  refine HCALL2.out.mono ?_
                  rintro e w2 ⟨rfl, n2, hp2, hs2, hrr, hcc⟩
                  have HR2 := Lib.hid hrr; have HC2 := Lib.hid (HC1.out.trans hcc); have HP2 := Lib.hid hp2; have HT2 := Lib.hid hs2; have hln2 : n2.length = its.length := hp2.len.trans hln1
                  clear hrr hcc hp2 hs2 HCALL2
                  have HP3 := Lib.hid (PermOn.refl c b n2)
                  have HT3 := Lib.hid (show SortedOn c b n2 from by
                    have e1 : en = c := by omega
                    have k := HSD.out.same HP2.out (.inr (by omega)); rw [e1] at k; exact k)
                  have HR3 := Lib.hid HR2.out; have HC3 := Lib.hid HC2.out
                  have HJ := Lib.hid (merge_join HP1.out HSP.out HP2.out HT2.out HP3.out HT3.out (Nat.le_of_lt hmd1) (Nat.le_of_lt hmd2))
                  go_wp2
                  first | go_end0 | (refine bodyPost_ret (results_none rfl _ _ _) rfl ?_)
                  exact ⟨rfl, n2, HJ.out.1, HJ.out.2, HR3.out, HC3.out⟩
              · skip
                have va : (a : Int) < (r : Int) := by omega
                have vb : ¬ (r : Int) < (c : Int) := by omega
                by_cases x1 : c < en
                · by_cases x2 : en < b
                  · skip
                    have xa : (c : Int) < (en : Int) := by omega
                    have xb : (en : Int) < (b : Int) := by omega
                    have HCALL := Lib.hid (rotate_full its F g o cap r m en wr HR.out hl u1 u2 (by omega))
                    go_wp2_with fail
                    refine HCALL.out.mono ?_
                    rintro e w1 ⟨rfl, n1, hm1, hrr, hcc⟩
                    have HR1 := Lib.hid hrr; have HC1 := Lib.hid (HC.out.trans hcc); have HM1 := Lib.hid hm1
                    clear hrr hcc HCALL
                    have hln1 : n1.length = its.length := hm1.len
                    clear hm1
                    obtain ⟨hp1, hsp, hsa, hsb, hsc, hsd⟩ := HDONE.out _ HM1.out
                    have HP1 := Lib.hid hp1; have HSP := Lib.hid hsp; have HSA := Lib.hid hsa; have HSB := Lib.hid hsb; have HSC := Lib.hid hsc; have HSD := Lib.hid hsd
                    clear hp1 hsp hsa hsb hsc hsd
                    have HP2 := Lib.hid (PermOn.refl a c n1)
                    have HT2 := Lib.hid (show SortedOn a c n1 from by
                      have e1 : r = c := by omega
                      rw [e1] at HSA; exact HSA.out)
                    have HR2 := Lib.hid HR1.out; have HC2 := Lib.hid HC1.out
                    have hln2 : n1.length = its.length := hln1
                    have hcall := HI.out n1 F g o cap c en b w1 HBL.out.2 HR2.out (by omega) x1 x2 (by omega) (HSC.out.same HP2.out (.inr (Nat.le_refl _))) (HSD.out.same HP2.out (.inr (by omega)))
                    rw [hln2] at hcall
                    have HCALL3 := Lib.hid hcall; clear hcall
                    go_wp2_with fail
                    refine HCALL3.out.mono ?_
                    rintro e w3 ⟨rfl, n3, hp3, hs3, hrr, hcc⟩
                    have HR3 := Lib.hid hrr; have HC3 := Lib.hid (HC2.out.trans hcc); have HP3 := Lib.hid hp3; have HT3 := Lib.hid hs3
                    clear hrr hcc hp3 hs3 HCALL3
                    have HJ := Lib.hid (merge_join HP1.out HSP.out HP2.out HT2.out HP3.out HT3.out (Nat.le_of_lt hmd1) (Nat.le_of_lt hmd2))
                    go_wp2
                    first | go_end0 | (refine bodyPost_ret (results_none rfl _ _ _) rfl ?_)
                    exact ⟨rfl, n3, HJ.out.1, HJ.out.2, HR3.out, HC3.out⟩
                  · skip
                    have xa : (c : Int) < (en : Int) := by omega
                    have xb : ¬ (en : Int) < (b : Int) := by omega
                    have HCALL := Lib.hid (rotate_full its F g o cap r m en wr HR.out hl u1 u2 (by omega))
                    go_wp2_with fail
                    refine HCALL.out.mono ?_
                    rintro e w1 ⟨rfl, n1, hm1, hrr, hcc⟩
                    have HR1 := Lib.hid hrr; have HC1 := Lib.hid (HC.out.trans hcc); have HM1 := Lib.hid hm1
                    clear hrr hcc HCALL
                    have hln1 : n1.length = its.length := hm1.len
                    clear hm1
                    obtain ⟨hp1, hsp, hsa, hsb, hsc, hsd⟩ := HDONE.out _ HM1.out
                    have HP1 := Lib.hid hp1; have HSP := Lib.hid hsp; have HSA := Lib.hid hsa; have HSB := Lib.hid hsb; have HSC := Lib.hid hsc; have HSD := Lib.hid hsd
                    clear hp1 hsp hsa hsb hsc hsd
                    have HP2 := Lib.hid (PermOn.refl a c n1)
                    have HT2 := Lib.hid (show SortedOn a c n1 from by
                      have e1 : r = c := by omega
                      rw [e1] at HSA; exact HSA.out)
                    have HR2 := Lib.hid HR1.out; have HC2 := Lib.hid HC1.out
                    have hln2 : n1.length = its.length := hln1
                    have HP3 := Lib.hid (PermOn.refl c b n1)
                    have HT3 := Lib.hid (show SortedOn c b n1 from by
                      have e1 : en = b := by omega
                      have k := HSC.out.same HP2.out (.inr (Nat.le_refl _)); rw [e1] at k; exact k)
                    have HR3 := Lib.hid HR2.out; have HC3 := Lib.hid HC2.out
                    have HJ := Lib.hid (merge_join HP1.out HSP.out HP2.out HT2.out HP3.out HT3.out (Nat.le_of_lt hmd1) (Nat.le_of_lt hmd2))
                    go_wp2
                    first | go_end0 | (refine bodyPost_ret (results_none rfl _ _ _) rfl ?_)
                    exact ⟨rfl, n1, HJ.out.1, HJ.out.2, HR3.out, HC3.out⟩
                · skip
                  have xa : ¬ (c : Int) < (en : Int) := by omega
                  have HCALL := Lib.hid (rotate_full its F g o cap r m en wr HR.out hl u1 u2 (by omega))
                  go_wp2_with fail
                  refine HCALL.out.mono ?_
                  rintro e w1 ⟨rfl, n1, hm1, hrr, hcc⟩
                  have HR1 := Lib.hid hrr; have HC1 := Lib.hid (HC.out.trans hcc); have HM1 := Lib.hid hm1
                  clear hrr hcc HCALL
                  have hln1 : n1.length = its.length := hm1.len
                  clear hm1
                  obtain ⟨hp1, hsp, hsa, hsb, hsc, hsd⟩ := HDONE.out _ HM1.out
                  have HP1 := Lib.hid hp1; have HSP := Lib.hid hsp; have HSA := Lib.hid hsa; have HSB := Lib.hid hsb; have HSC := Lib.hid hsc; have HSD := Lib.hid hsd
                  clear hp1 hsp hsa hsb hsc hsd
                  have HP2 := Lib.hid (PermOn.refl a c n1)
                  have HT2 := Lib.hid (show SortedOn a c n1 from by
                    have e1 : r = c := by omega
                    rw [e1] at HSA; exact HSA.out)
                  have HR2 := Lib.hid HR1.out; have HC2 := Lib.hid HC1.out
                  have hln2 : n1.length = its.length := hln1
                  have HP3 := Lib.hid (PermOn.refl c b n1)
                  have HT3 := Lib.hid (show SortedOn c b n1 from by
                    have e1 : en = c := by omega
                    have k := HSD.out.same HP2.out (.inr (by omega)); rw [e1] at k; exact k)
                  have HR3 := Lib.hid HR2.out; have HC3 := Lib.hid HC2.out
                  have HJ := Lib.hid (merge_join HP1.out HSP.out HP2.out HT2.out HP3.out HT3.out (Nat.le_of_lt hmd1) (Nat.le_of_lt hmd2))
                  go_wp2
                  first | go_end0 | (refine bodyPost_ret (results_none rfl _ _ _) rfl ?_)
                  exact ⟨rfl, n1, HJ.out.1, HJ.out.2, HR3.out, HC3.out⟩
            · skip
              have va : ¬ (a : Int) < (r : Int) := by omega
              by_cases x1 : c < en
              · by_cases x2 : en < b
                · skip
                  have xa : (c : Int) < (en : Int) := by omega
                  have xb : (en : Int) < (b : Int) := by omega
                  have HCALL := Lib.hid (rotate_full its F g o cap r m en wr HR.out hl u1 u2 (by omega))
                  go_wp2_with fail
                  refine HCALL.out.mono ?_
                  rintro e w1 ⟨rfl, n1, hm1, hrr, hcc⟩
                  have HR1 := Lib.hid hrr; have HC1 := Lib.hid (HC.out.trans hcc); have HM1 := Lib.hid hm1
                  clear hrr hcc HCALL
                  have hln1 : n1.length = its.length := hm1.len
                  clear hm1
                  obtain ⟨hp1, hsp, hsa, hsb, hsc, hsd⟩ := HDONE.out _ HM1.out
                  have HP1 := Lib.hid hp1; have HSP := Lib.hid hsp; have HSA := Lib.hid hsa; have HSB := Lib.hid hsb; have HSC := Lib.hid hsc; have HSD := Lib.hid hsd
                  clear hp1 hsp hsa hsb hsc hsd
                  have HP2 := Lib.hid (PermOn.refl a c n1)
                  have HT2 := Lib.hid (show SortedOn a c n1 from by
                    have e1 : r = a := by omega
                    rw [e1] at HSB; exact HSB.out)
                  have HR2 := Lib.hid HR1.out; have HC2 := Lib.hid HC1.out
                  have hln2 : n1.length = its.length := hln1
                  have hcall := HI.out n1 F g o cap c en b w1 HBL.out.2 HR2.out (by omega) x1 x2 (by omega) (HSC.out.same HP2.out (.inr (Nat.le_refl _))) (HSD.out.same HP2.out (.inr (by omega)))
                  rw [hln2] at hcall
                  have HCALL3 := Lib.hid hcall; clear hcall
                  go_wp2_with fail
                  refine HCALL3.out.mono ?_
                  rintro e w3 ⟨rfl, n3, hp3, hs3, hrr, hcc⟩
                  have HR3 := Lib.hid hrr; have HC3 := Lib.hid (HC2.out.trans hcc); have HP3 := Lib.hid hp3; have HT3 := Lib.hid hs3
                  clear hrr hcc hp3 hs3 HCALL3
                  have HJ := Lib.hid (merge_join HP1.out HSP.out HP2.out HT2.out HP3.out HT3.out (Nat.le_of_lt hmd1) (Nat.le_of_lt hmd2))
                  go_wp2
                  first | go_end0 | (refine bodyPost_ret (results_none rfl _ _ _) rfl ?_)
                  exact ⟨rfl, n3, HJ.out.1, HJ.out.2, HR3.out, HC3.out⟩
                · skip
                  have xa : (c : Int) < (en : Int) := by omega
                  have xb : ¬ (en : Int) < (b : Int) := by omega
                  have HCALL := Lib.hid (rotate_full its F g o cap r m en wr HR.out hl u1 u2 (by omega))
                  go_wp2_with fail
                  refine HCALL.out.mono ?_
                  rintro e w1 ⟨rfl, n1, hm1, hrr, hcc⟩
                  have HR1 := Lib.hid hrr; have HC1 := Lib.hid (HC.out.trans hcc); have HM1 := Lib.hid hm1
                  clear hrr hcc HCALL
                  have hln1 : n1.length = its.length := hm1.len
                  clear hm1
                  obtain ⟨hp1, hsp, hsa, hsb, hsc, hsd⟩ := HDONE.out _ HM1.out
                  have HP1 := Lib.hid hp1; have HSP := Lib.hid hsp; have HSA := Lib.hid hsa; have HSB := Lib.hid hsb; have HSC := Lib.hid hsc; have HSD := Lib.hid hsd
                  clear hp1 hsp hsa hsb hsc hsd
                  have HP2 := Lib.hid (PermOn.refl a c n1)
                  have HT2 := Lib.hid (show SortedOn a c n1 from by
                    have e1 : r = a := by omega
                    rw [e1] at HSB; exact HSB.out)
                  have HR2 := Lib.hid HR1.out; have HC2 := Lib.hid HC1.out
                  have hln2 : n1.length = its.length := hln1
                  have HP3 := Lib.hid (PermOn.refl c b n1)
                  have HT3 := Lib.hid (show SortedOn c b n1 from by
                    have e1 : en = b := by omega
                    have k := HSC.out.same HP2.out (.inr (Nat.le_refl _)); rw [e1] at k; exact k)
                  have HR3 := Lib.hid HR2.out; have HC3 := Lib.hid HC2.out
                  have HJ := Lib.hid (merge_join HP1.out HSP.out HP2.out HT2.out HP3.out HT3.out (Nat.le_of_lt hmd1) (Nat.le_of_lt hmd2))
                  go_wp2
                  first | go_end0 | (refine bodyPost_ret (results_none rfl _ _ _) rfl ?_)
                  exact ⟨rfl, n1, HJ.out.1, HJ.out.2, HR3.out, HC3.out⟩
              · skip
                have xa : ¬ (c : Int) < (en : Int) := by omega
                have HCALL := Lib.hid (rotate_full its F g o cap r m en wr HR.out hl u1 u2 (by omega))
                go_wp2_with fail
                refine HCALL.out.mono ?_
                rintro e w1 ⟨rfl, n1, hm1, hrr, hcc⟩
                have HR1 := Lib.hid hrr; have HC1 := Lib.hid (HC.out.trans hcc); have HM1 := Lib.hid hm1
                clear hrr hcc HCALL
                have hln1 : n1.length = its.length := hm1.len
                clear hm1
                obtain ⟨hp1, hsp, hsa, hsb, hsc, hsd⟩ := HDONE.out _ HM1.out
                have HP1 := Lib.hid hp1; have HSP := Lib.hid hsp; have HSA := Lib.hid hsa; have HSB := Lib.hid hsb; have HSC := Lib.hid hsc; have HSD := Lib.hid hsd
                clear hp1 hsp hsa hsb hsc hsd
                have HP2 := Lib.hid (PermOn.refl a c n1)
                have HT2 := Lib.hid (show SortedOn a c n1 from by
                  have e1 : r = a := by omega
                  rw [e1] at HSB; exact HSB.out)
                have HR2 := Lib.hid HR1.out; have HC2 := Lib.hid HC1.out
                have hln2 : n1.length = its.length := hln1
                have HP3 := Lib.hid (PermOn.refl c b n1)
                have HT3 := Lib.hid (show SortedOn c b n1 from by
                  have e1 : en = c := by omega
                  have k := HSD.out.same HP2.out (.inr (by omega)); rw [e1] at k; exact k)
                have HR3 := Lib.hid HR2.out; have HC3 := Lib.hid HC2.out
                have HJ := Lib.hid (merge_join HP1.out HSP.out HP2.out HT2.out HP3.out HT3.out (Nat.le_of_lt hmd1) (Nat.le_of_lt hmd2))
                go_wp2
                first | go_end0 | (refine bodyPost_ret (results_none rfl _ _ _) rfl ?_)
                exact ⟨rfl, n1, HJ.out.1, HJ.out.2, HR3.out, HC3.out⟩
          · skip
            have ua : (r : Int) < (m : Int) := by omega
            have ub : ¬ (m : Int) < (en : Int) := by omega
            by_cases v1 : a < r
            · by_cases v2 : r < c
              · skip
                have va : (a : Int) < (r : Int) := by omega
                have vb : (r : Int) < (c : Int) := by omega
                by_cases x1 : c < en
                · by_cases x2 : en < b
                  · skip
                    have xa : (c : Int) < (en : Int) := by omega
                    have xb : (en : Int) < (b : Int) := by omega
                    have HM1 := Lib.hid ((Moved.refl its).congr (h := roIx r m en) fun k => (roIx_id (by omega) hr4 hr3 k).symm)
                    have HR1 := Lib.hid HR.out; have HC1 := Lib.hid HC.out
                    obtain ⟨hp1, hsp, hsa, hsb, hsc, hsd⟩ := HDONE.out _ HM1.out
                    have HP1 := Lib.hid hp1; have HSP := Lib.hid hsp; have HSA := Lib.hid hsa; have HSB := Lib.hid hsb; have HSC := Lib.hid hsc; have HSD := Lib.hid hsd
                    clear hp1 hsp hsa hsb hsc hsd
                    have hcall := HI.out its F g o cap a r c wr HBL.out.1 HR1.out (by omega) v1 v2 (by omega) HSA.out HSB.out
                    have HCALL2 := Lib.hid hcall; clear hcall
                    go_wp2_with fail
                    refine HCALL2.out.mono ?_
                    rintro e w2 ⟨rfl, n2, hp2, hs2, hrr, hcc⟩
                    have HR2 := Lib.hid hrr; have HC2 := Lib.hid (HC1.out.trans hcc); have HP2 := Lib.hid hp2; have HT2 := Lib.hid hs2; have hln2 : n2.length = its.length := hp2.len
                    clear hrr hcc hp2 hs2 HCALL2
                    have hcall := HI.out n2 F g o cap c en b w2 HBL.out.2 HR2.out (by omega) x1 x2 (by omega) (HSC.out.same HP2.out (.inr (Nat.le_refl _))) (HSD.out.same HP2.out (.inr (by omega)))
                    rw [hln2] at hcall
                    have HCALL3 := Lib.hid hcall; clear hcall
                    go_wp2_with fail
                    refine HCALL3.out.mono ?_
                    rintro e w3 ⟨rfl, n3, hp3, hs3, hrr, hcc⟩
                    have HR3 := Lib.hid hrr; have HC3 := Lib.hid (HC2.out.trans hcc); have HP3 := Lib.hid hp3; have HT3 := Lib.hid hs3
                    clear hrr hcc hp3 hs3 HCALL3
                    have HJ := Lib.hid (merge_join HP1.out HSP.out HP2.out HT2.out HP3.out HT3.out (Nat.le_of_lt hmd1) (Nat.le_of_lt hmd2))
                    go_wp2
                    first | go_end0 | (refine bodyPost_ret (results_none rfl _ _ _) rfl ?_)
                    exact ⟨rfl, n3, HJ.out.1, HJ.out.2, HR3.out, HC3.out⟩
                  · skip
                    have xa : (c : Int) < (en : Int) := by omega
                    have xb : ¬ (en : Int) < (b : Int) := by omega
                    have HM1 := Lib.hid ((Moved.refl its).congr (h := roIx r m en) fun k => (roIx_id (by omega) hr4 hr3 k).symm)
                    have HR1 := Lib.hid HR.out; have HC1 := Lib.hid HC.out
                    obtain ⟨hp1, hsp, hsa, hsb, hsc, hsd⟩ := HDONE.out _ HM1.out
                    have HP1 := Lib.hid hp1; have HSP := Lib.hid hsp; have HSA := Lib.hid hsa; have HSB := Lib.hid hsb; have HSC := Lib.hid hsc; have HSD := Lib.hid hsd
                    clear hp1 hsp hsa hsb hsc hsd
                    have hcall := HI.out its F g o cap a r c wr HBL.out.1 HR1.out (by omega) v1 v2 (by omega) HSA.out HSB.out
                    have HCALL2 := Lib.hid hcall; clear hcall
                    go_wp2_with fail
                    refine HCALL2.out.mono ?_
                    rintro e w2 ⟨rfl, n2, hp2, hs2, hrr, hcc⟩
                    have HR2 := Lib.hid hrr; have HC2 := Lib.hid (HC1.out.trans hcc); have HP2 := Lib.hid hp2; have HT2 := Lib.hid hs2; have hln2 : n2.length = its.length := hp2.len
                    clear hrr hcc hp2 hs2 HCALL2
                    have HP3 := Lib.hid (PermOn.refl c b n2)
                    have HT3 := Lib.hid (show SortedOn c b n2 from by
                      have e1 : en = b := by omega
                      have k := HSC.out.same HP2.out (.inr (Nat.le_refl _)); rw [e1] at k; exact k)
                    have HR3 := Lib.hid HR2.out; have HC3 := Lib.hid HC2.out
                    have HJ := Lib.hid (merge_join HP1.out HSP.out HP2.out HT2.out HP3.out HT3.out (Nat.le_of_lt hmd1) (Nat.le_of_lt hmd2))
                    go_wp2
                    first | go_end0 | (refine bodyPost_ret (results_none rfl _ _ _) rfl ?_)
                    exact ⟨rfl, n2, HJ.out.1, HJ.out.2, HR3.out, HC3.out⟩
                · skip
                  have xa : ¬ (c : Int) < (en : Int) := by omega
                  have HM1 := Lib.hid ((Moved.refl its).congr (h := roIx r m en) fun k => (roIx_id (by omega) hr4 hr3 k).symm)
                  have HR1 := Lib.hid HR.out; have HC1 := Lib.hid HC.out
                  obtain ⟨hp1, hsp, hsa, hsb, hsc, hsd⟩ := HDONE.out _ HM1.out
                  have HP1 := Lib.hid hp1; have HSP := Lib.hid hsp; have HSA := Lib.hid hsa; have HSB := Lib.hid hsb; have HSC := Lib.hid hsc; have HSD := Lib.hid hsd
                  clear hp1 hsp hsa hsb hsc hsd
                  have hcall := HI.out its F g o cap a r c wr HBL.out.1 HR1.out (by omega) v1 v2 (by omega) HSA.out HSB.out
                  have HCALL2 := Lib.hid hcall; clear hcall
                  go_wp2_with fail
                  refine HCALL2.out.mono ?_
                  rintro e w2 ⟨rfl, n2, hp2, hs2, hrr, hcc⟩
                  have HR2 := Lib.hid hrr; have HC2 := Lib.hid (HC1.out.trans hcc); have HP2 := Lib.hid hp2; have HT2 := Lib.hid hs2; have hln2 : n2.length = its.length := hp2.len
                  clear hrr hcc hp2 hs2 HCALL2
                  have HP3 := Lib.hid (PermOn.refl c b n2)
                  have HT3 := Lib.hid (show SortedOn c b n2 from by
                    have e1 : en = c := by omega
                    have k := HSD.out.same HP2.out (.inr (by omega)); rw [e1] at k; exact k)
                  have HR3 := Lib.hid HR2.out; have HC3 := Lib.hid HC2.out
                  have HJ := Lib.hid (merge_join HP1.out HSP.out HP2.out HT2.out HP3.out HT3.out (Nat.le_of_lt hmd1) (Nat.le_of_lt hmd2))
                  go_wp2
                  first | go_end0 | (refine bodyPost_ret (results_none rfl _ _ _) rfl ?_)
                  exact ⟨rfl, n2, HJ.out.1, HJ.out.2, HR3.out, HC3.out⟩
              · skip
                have va : (a : Int) < (r : Int) := by omega
                have vb : ¬ (r : Int) < (c : Int) := by omega
                by_cases x1 : c < en
                · by_cases x2 : en < b
                  · skip
                    have xa : (c : Int) < (en : Int) := by omega
                    have xb : (en : Int) < (b : Int) := by omega
                    have HM1 := Lib.hid ((Moved.refl its).congr (h := roIx r m en) fun k => (roIx_id (by omega) hr4 hr3 k).symm)
                    have HR1 := Lib.hid HR.out; have HC1 := Lib.hid HC.out
                    obtain ⟨hp1, hsp, hsa, hsb, hsc, hsd⟩ := HDONE.out _ HM1.out
                    have HP1 := Lib.hid hp1; have HSP := Lib.hid hsp; have HSA := Lib.hid hsa; have HSB := Lib.hid hsb; have HSC := Lib.hid hsc; have HSD := Lib.hid hsd
                    clear hp1 hsp hsa hsb hsc hsd
                    have HP2 := Lib.hid (PermOn.refl a c its)
                    have HT2 := Lib.hid (show SortedOn a c its from by
                      have e1 : r = c := by omega
                      rw [e1] at HSA; exact HSA.out)
                    have HR2 := Lib.hid HR1.out; have HC2 := Lib.hid HC1.out
                    have hcall := HI.out its F g o cap c en b wr HBL.out.2 HR2.out (by omega) x1 x2 (by omega) (HSC.out.same HP2.out (.inr (Nat.le_refl _))) (HSD.out.same HP2.out (.inr (by omega)))
                    have HCALL3 := Lib.hid hcall; clear hcall
                    go_wp2_with fail
                    refine HCALL3.out.mono ?_
                    rintro e w3 ⟨rfl, n3, hp3, hs3, hrr, hcc⟩
                    have HR3 := Lib.hid hrr; have HC3 := Lib.hid (HC2.out.trans hcc); have HP3 := Lib.hid hp3; have HT3 := Lib.hid hs3
                    clear hrr hcc hp3 hs3 HCALL3
                    have HJ := Lib.hid (merge_join HP1.out HSP.out HP2.out HT2.out HP3.out HT3.out (Nat.le_of_lt hmd1) (Nat.le_of_lt hmd2))
                    go_wp2
                    first | go_end0 | (refine bodyPost_ret (results_none rfl _ _ _) rfl ?_)
                    exact ⟨rfl, n3, HJ.out.1, HJ.out.2, HR3.out, HC3.out⟩
                  · skip
                    have xa : (c : Int) < (en : Int) := by omega
                    have xb : ¬ (en : Int) < (b : Int) := by omega
                    have HM1 := Lib.hid ((Moved.refl its).congr (h := roIx r m en) fun k => (roIx_id (by omega) hr4 hr3 k).symm)
                    have HR1 := Lib.hid HR.out; have HC1 := Lib.hid HC.out
                    obtain ⟨hp1, hsp, hsa, hsb, hsc, hsd⟩ := HDONE.out _ HM1.out
                    have HP1 := Lib.hid hp1; have HSP := Lib.hid hsp; have HSA := Lib.hid hsa; have HSB := Lib.hid hsb; have HSC := Lib.hid hsc; have HSD := Lib.hid hsd
                    clear hp1 hsp hsa hsb hsc hsd
                    have HP2 := Lib.hid (PermOn.refl a c its)
                    have HT2 := Lib.hid (show SortedOn a c its from by
                      have e1 : r = c := by omega
                      rw [e1] at HSA; exact HSA.out)
                    have HR2 := Lib.hid HR1.out; have HC2 := Lib.hid HC1.out
                    have HP3 := Lib.hid (PermOn.refl c b its)
                    have HT3 := Lib.hid (show SortedOn c b its from by
                      have e1 : en = b := by omega
                      have k := HSC.out.same HP2.out (.inr (Nat.le_refl _)); rw [e1] at k; exact k)
                    have HR3 := Lib.hid HR2.out; have HC3 := Lib.hid HC2.out
                    have HJ := Lib.hid (merge_join HP1.out HSP.out HP2.out HT2.out HP3.out HT3.out (Nat.le_of_lt hmd1) (Nat.le_of_lt hmd2))
                    go_wp2
                    first | go_end0 | (refine bodyPost_ret (results_none rfl _ _ _) rfl ?_)
                    exact ⟨rfl, its, HJ.out.1, HJ.out.2, HR3.out, HC3.out⟩
                · skip
                  have xa : ¬ (c : Int) < (en : Int) := by omega
                  have HM1 := Lib.hid ((Moved.refl its).congr (h := roIx r m en) fun k => (roIx_id (by omega) hr4 hr3 k).symm)
                  have HR1 := Lib.hid HR.out; have HC1 := Lib.hid HC.out
                  obtain ⟨hp1, hsp, hsa, hsb, hsc, hsd⟩ := HDONE.out _ HM1.out
                  have HP1 := Lib.hid hp1; have HSP := Lib.hid hsp; have HSA := Lib.hid hsa; have HSB := Lib.hid hsb; have HSC := Lib.hid hsc; have HSD := Lib.hid hsd
                  clear hp1 hsp hsa hsb hsc hsd
                  have HP2 := Lib.hid (PermOn.refl a c its)
                  have HT2 := Lib.hid (show SortedOn a c its from by
                    have e1 : r = c := by omega
                    rw [e1] at HSA; exact HSA.out)
                  have HR2 := Lib.hid HR1.out; have HC2 := Lib.hid HC1.out
                  have HP3 := Lib.hid (PermOn.refl c b its)
                  have HT3 := Lib.hid (show SortedOn c b its from by
                    have e1 : en = c := by omega
                    have k := HSD.out.same HP2.out (.inr (by omega)); rw [e1] at k; exact k)
                  have HR3 := Lib.hid HR2.out; have HC3 := Lib.hid HC2.out
                  have HJ := Lib.hid (merge_join HP1.out HSP.out HP2.out HT2.out HP3.out HT3.out (Nat.le_of_lt hmd1) (Nat.le_of_lt hmd2))
                  go_wp2
                  first | go_end0 | (refine bodyPost_ret (results_none rfl _ _ _) rfl ?_)
                  exact ⟨rfl, its, HJ.out.1, HJ.out.2, HR3.out, HC3.out⟩
            · skip
              have va : ¬ (a : Int) < (r : Int) := by omega
              by_cases x1 : c < en
              · by_cases x2 : en < b
                · skip
                  have xa : (c : Int) < (en : Int) := by omega
                  have xb : (en : Int) < (b : Int) := by omega
                  have HM1 := Lib.hid ((Moved.refl its).congr (h := roIx r m en) fun k => (roIx_id (by omega) hr4 hr3 k).symm)
                  have HR1 := Lib.hid HR.out; have HC1 := Lib.hid HC.out
                  obtain ⟨hp1, hsp, hsa, hsb, hsc, hsd⟩ := HDONE.out _ HM1.out
                  have HP1 := Lib.hid hp1; have HSP := Lib.hid hsp; have HSA := Lib.hid hsa; have HSB := Lib.hid hsb; have HSC := Lib.hid hsc; have HSD := Lib.hid hsd
                  clear hp1 hsp hsa hsb hsc hsd
                  have HP2 := Lib.hid (PermOn.refl a c its)
                  have HT2 := Lib.hid (show SortedOn a c its from by
                    have e1 : r = a := by omega
                    rw [e1] at HSB; exact HSB.out)
                  have HR2 := Lib.hid HR1.out; have HC2 := Lib.hid HC1.out
                  have hcall := HI.out its F g o cap c en b wr HBL.out.2 HR2.out (by omega) x1 x2 (by omega) (HSC.out.same HP2.out (.inr (Nat.le_refl _))) (HSD.out.same HP2.out (.inr (by omega)))
                  have HCALL3 := Lib.hid hcall; clear hcall
                  go_wp2_with fail
                  refine HCALL3.out.mono ?_
                  rintro e w3 ⟨rfl, n3, hp3, hs3, hrr, hcc⟩
                  have HR3 := Lib.hid hrr; have HC3 := Lib.hid (HC2.out.trans hcc); have HP3 := Lib.hid hp3; have HT3 := Lib.hid hs3
                  clear hrr hcc hp3 hs3 HCALL3
                  have HJ := Lib.hid (merge_join HP1.out HSP.out HP2.out HT2.out HP3.out HT3.out (Nat.le_of_lt hmd1) (Nat.le_of_lt hmd2))
                  go_wp2
                  first | go_end0 | (refine bodyPost_ret (results_none rfl _ _ _) rfl ?_)
                  exact ⟨rfl, n3, HJ.out.1, HJ.out.2, HR3.out, HC3.out⟩
                · skip
                  have xa : (c : Int) < (en : Int) := by omega
                  have xb : ¬ (en : Int) < (b : Int) := by omega
                  have HM1 := Lib.hid ((Moved.refl its).congr (h := roIx r m en) fun k => (roIx_id (by omega) hr4 hr3 k).symm)
                  have HR1 := Lib.hid HR.out; have HC1 := Lib.hid HC.out
                  obtain ⟨hp1, hsp, hsa, hsb, hsc, hsd⟩ := HDONE.out _ HM1.out
                  have HP1 := Lib.hid hp1; have HSP := Lib.hid hsp; have HSA := Lib.hid hsa; have HSB := Lib.hid hsb; have HSC := Lib.hid hsc; have HSD := Lib.hid hsd
                  clear hp1 hsp hsa hsb hsc hsd
                  have HP2 := Lib.hid (PermOn.refl a c its)
                  have HT2 := Lib.hid (show SortedOn a c its from by
                    have e1 : r = a := by omega
                    rw [e1] at HSB; exact HSB.out)
                  have HR2 := Lib.hid HR1.out; have HC2 := Lib.hid HC1.out
                  have HP3 := Lib.hid (PermOn.refl c b its)
                  have HT3 := Lib.hid (show SortedOn c b its from by
                    have e1 : en = b := by omega
                    have k := HSC.out.same HP2.out (.inr (Nat.le_refl _)); rw [e1] at k; exact k)
                  have HR3 := Lib.hid HR2.out; have HC3 := Lib.hid HC2.out
                  have HJ := Lib.hid (merge_join HP1.out HSP.out HP2.out HT2.out HP3.out HT3.out (Nat.le_of_lt hmd1) (Nat.le_of_lt hmd2))
                  go_wp2
                  first | go_end0 | (refine bodyPost_ret (results_none rfl _ _ _) rfl ?_)
                  exact ⟨rfl, its, HJ.out.1, HJ.out.2, HR3.out, HC3.out⟩
              · skip
                have xa : ¬ (c : Int) < (en : Int) := by omega
                have HM1 := Lib.hid ((Moved.refl its).congr (h := roIx r m en) fun k => (roIx_id (by omega) hr4 hr3 k).symm)
                have HR1 := Lib.hid HR.out; have HC1 := Lib.hid HC.out
                obtain ⟨hp1, hsp, hsa, hsb, hsc, hsd⟩ := HDONE.out _ HM1.out
                have HP1 := Lib.hid hp1; have HSP := Lib.hid hsp; have HSA := Lib.hid hsa; have HSB := Lib.hid hsb; have HSC := Lib.hid hsc; have HSD := Lib.hid hsd
                clear hp1 hsp hsa hsb hsc hsd
                have HP2 := Lib.hid (PermOn.refl a c its)
                have HT2 := Lib.hid (show SortedOn a c its from by
                  have e1 : r = a := by omega
                  rw [e1] at HSB; exact HSB.out)
                have HR2 := Lib.hid HR1.out; have HC2 := Lib.hid HC1.out
                have HP3 := Lib.hid (PermOn.refl c b its)
                have HT3 := Lib.hid (show SortedOn c b its from by
                  have e1 : en = c := by omega
                  have k := HSD.out.same HP2.out (.inr (by omega)); rw [e1] at k; exact k)
                have HR3 := Lib.hid HR2.out; have HC3 := Lib.hid HC2.out
                have HJ := Lib.hid (merge_join HP1.out HSP.out HP2.out HT2.out HP3.out HT3.out (Nat.le_of_lt hmd1) (Nat.le_of_lt hmd2))
                go_wp2
                first | go_end0 | (refine bodyPost_ret (results_none rfl _ _ _) rfl ?_)
                exact ⟨rfl, its, HJ.out.1, HJ.out.2, HR3.out, HC3.out⟩
        · skip
          have ua : ¬ (r : Int) < (m : Int) := by omega
          by_cases v1 : a < r
          · by_cases v2 : r < c
            · skip
              have va : (a : Int) < (r : Int) := by omega
              have vb : (r : Int) < (c : Int) := by omega
              by_cases x1 : c < en
              · by_cases x2 : en < b
                · skip
                  have xa : (c : Int) < (en : Int) := by omega
                  have xb : (en : Int) < (b : Int) := by omega
                  have HM1 := Lib.hid ((Moved.refl its).congr (h := roIx r m en) fun k => (roIx_id (by omega) hr4 hr3 k).symm)
                  have HR1 := Lib.hid HR.out; have HC1 := Lib.hid HC.out
                  obtain ⟨hp1, hsp, hsa, hsb, hsc, hsd⟩ := HDONE.out _ HM1.out
                  have HP1 := Lib.hid hp1; have HSP := Lib.hid hsp; have HSA := Lib.hid hsa; have HSB := Lib.hid hsb; have HSC := Lib.hid hsc; have HSD := Lib.hid hsd
                  clear hp1 hsp hsa hsb hsc hsd
                  have hcall := HI.out its F g o cap a r c wr HBL.out.1 HR1.out (by omega) v1 v2 (by omega) HSA.out HSB.out
                  have HCALL2 := Lib.hid hcall; clear hcall
                  go_wp2_with fail
                  refine HCALL2.out.mono ?_
                  rintro e w2 ⟨rfl, n2, hp2, hs2, hrr, hcc⟩
                  have HR2 := Lib.hid hrr; have HC2 := Lib.hid (HC1.out.trans hcc); have HP2 := Lib.hid hp2; have HT2 := Lib.hid hs2; have hln2 : n2.length = its.length := hp2.len
                  clear hrr hcc hp2 hs2 HCALL2
                  have hcall := HI.out n2 F g o cap c en b w2 HBL.out.2 HR2.out (by omega) x1 x2 (by omega) (HSC.out.same HP2.out (.inr (Nat.le_refl _))) (HSD.out.same HP2.out (.inr (by omega)))
                  rw [hln2] at hcall
                  have HCALL3 := Lib.hid hcall; clear hcall
                  go_wp2_with fail
                  refine HCALL3.out.mono ?_
                  rintro e w3 ⟨rfl, n3, hp3, hs3, hrr, hcc⟩
                  have HR3 := Lib.hid hrr; have HC3 := Lib.hid (HC2.out.trans hcc); have HP3 := Lib.hid hp3; have HT3 := Lib.hid hs3
                  clear hrr hcc hp3 hs3 HCALL3
                  have HJ := Lib.hid (merge_join HP1.out HSP.out HP2.out HT2.out HP3.out HT3.out (Nat.le_of_lt hmd1) (Nat.le_of_lt hmd2))
                  go_wp2
                  first | go_end0 | (refine bodyPost_ret (results_none rfl _ _ _) rfl ?_)
                  exact ⟨rfl, n3, HJ.out.1, HJ.out.2, HR3.out, HC3.out⟩
                · skip
                  have xa : (c : Int) < (en : Int) := by omega
                  have xb : ¬ (en : Int) < (b : Int) := by omega
                  have HM1 := Lib.hid ((Moved.refl its).congr (h := roIx r m en) fun k => (roIx_id (by omega) hr4 hr3 k).symm)
                  have HR1 := Lib.hid HR.out; have HC1 := Lib.hid HC.out
                  obtain ⟨hp1, hsp, hsa, hsb, hsc, hsd⟩ := HDONE.out _ HM1.out
                  have HP1 := Lib.hid hp1; have HSP := Lib.hid hsp; have HSA := Lib.hid hsa; have HSB := Lib.hid hsb; have HSC := Lib.hid hsc; have HSD := Lib.hid hsd
                  clear hp1 hsp hsa hsb hsc hsd
                  have hcall := HI.out its F g o cap a r c wr HBL.out.1 HR1.out (by omega) v1 v2 (by omega) HSA.out HSB.out
                  have HCALL2 := Lib.hid hcall; clear hcall
                  go_wp2_with fail
                  refine HCALL2.out.mono ?_
                  rintro e w2 ⟨rfl, n2, hp2, hs2, hrr, hcc⟩
                  have HR2 := Lib.hid hrr; have HC2 := Lib.hid (HC1.out.trans hcc); have HP2 := Lib.hid hp2; have HT2 := Lib.hid hs2; have hln2 : n2.length = its.length := hp2.len
                  clear hrr hcc hp2 hs2 HCALL2
                  have HP3 := Lib.hid (PermOn.refl c b n2)
                  have HT3 := Lib.hid (show SortedOn c b n2 from by
                    have e1 : en = b := by omega
                    have k := HSC.out.same HP2.out (.inr (Nat.le_refl _)); rw [e1] at k; exact k)
                  have HR3 := Lib.hid HR2.out; have HC3 := Lib.hid HC2.out
                  have HJ := Lib.hid (merge_join HP1.out HSP.out HP2.out HT2.out HP3.out HT3.out (Nat.le_of_lt hmd1) (Nat.le_of_lt hmd2))
                  go_wp2
                  first | go_end0 | (refine bodyPost_ret (results_none rfl _ _ _) rfl ?_)
                  exact ⟨rfl, n2, HJ.out.1, HJ.out.2, HR3.out, HC3.out⟩
              · skip
                have xa : ¬ (c : Int) < (en : Int) := by omega
                have HM1 := Lib.hid ((Moved.refl its).congr (h := roIx r m en) fun k => (roIx_id (by omega) hr4 hr3 k).symm)
                have HR1 := Lib.hid HR.out; have HC1 := Lib.hid HC.out
                obtain ⟨hp1, hsp, hsa, hsb, hsc, hsd⟩ := HDONE.out _ HM1.out
                have HP1 := Lib.hid hp1; have HSP := Lib.hid hsp; have HSA := Lib.hid hsa; have HSB := Lib.hid hsb; have HSC := Lib.hid hsc; have HSD := Lib.hid hsd
                clear hp1 hsp hsa hsb hsc hsd
                have hcall := HI.out its F g o cap a r c wr HBL.out.1 HR1.out (by omega) v1 v2 (by omega) HSA.out HSB.out
                have HCALL2 := Lib.hid hcall; clear hcall
                go_wp2_with fail
                refine HCALL2.out.mono ?_
                rintro e w2 ⟨rfl, n2, hp2, hs2, hrr, hcc⟩
                have HR2 := Lib.hid hrr; have HC2 := Lib.hid (HC1.out.trans hcc); have HP2 := Lib.hid hp2; have HT2 := Lib.hid hs2; have hln2 : n2.length = its.length := hp2.len
                clear hrr hcc hp2 hs2 HCALL2
                have HP3 := Lib.hid (PermOn.refl c b n2)
                have HT3 := Lib.hid (show SortedOn c b n2 from by
                  have e1 : en = c := by omega
                  have k := HSD.out.same HP2.out (.inr (by omega)); rw [e1] at k; exact k)
                have HR3 := Lib.hid HR2.out; have HC3 := Lib.hid HC2.out
                have HJ := Lib.hid (merge_join HP1.out HSP.out HP2.out HT2.out HP3.out HT3.out (Nat.le_of_lt hmd1) (Nat.le_of_lt hmd2))
                go_wp2
                first | go_end0 | (refine bodyPost_ret (results_none rfl _ _ _) rfl ?_)
                exact ⟨rfl, n2, HJ.out.1, HJ.out.2, HR3.out, HC3.out⟩
            · skip
              have va : (a : Int) < (r : Int) := by omega
              have vb : ¬ (r : Int) < (c : Int) := by omega
              by_cases x1 : c < en
              · by_cases x2 : en < b
                · skip
                  have xa : (c : Int) < (en : Int) := by omega
                  have xb : (en : Int) < (b : Int) := by omega
                  have HM1 := Lib.hid ((Moved.refl its).congr (h := roIx r m en) fun k => (roIx_id (by omega) hr4 hr3 k).symm)
                  have HR1 := Lib.hid HR.out; have HC1 := Lib.hid HC.out
                  obtain ⟨hp1, hsp, hsa, hsb, hsc, hsd⟩ := HDONE.out _ HM1.out
                  have HP1 := Lib.hid hp1; have HSP := Lib.hid hsp; have HSA := Lib.hid hsa; have HSB := Lib.hid hsb; have HSC := Lib.hid hsc; have HSD := Lib.hid hsd
                  clear hp1 hsp hsa hsb hsc hsd
                  have HP2 := Lib.hid (PermOn.refl a c its)
                  have HT2 := Lib.hid (show SortedOn a c its from by
                    have e1 : r = c := by omega
                    rw [e1] at HSA; exact HSA.out)
                  have HR2 := Lib.hid HR1.out; have HC2 := Lib.hid HC1.out
                  have hcall := HI.out its F g o cap c en b wr HBL.out.2 HR2.out (by omega) x1 x2 (by omega) (HSC.out.same HP2.out (.inr (Nat.le_refl _))) (HSD.out.same HP2.out (.inr (by omega)))
                  have HCALL3 := Lib.hid hcall; clear hcall
                  go_wp2_with fail
                  refine HCALL3.out.mono ?_
                  rintro e w3 ⟨rfl, n3, hp3, hs3, hrr, hcc⟩
                  have HR3 := Lib.hid hrr; have HC3 := Lib.hid (HC2.out.trans hcc); have HP3 := Lib.hid hp3; have HT3 := Lib.hid hs3
                  clear hrr hcc hp3 hs3 HCALL3
                  have HJ := Lib.hid (merge_join HP1.out HSP.out HP2.out HT2.out HP3.out HT3.out (Nat.le_of_lt hmd1) (Nat.le_of_lt hmd2))
                  go_wp2
                  first | go_end0 | (refine bodyPost_ret (results_none rfl _ _ _) rfl ?_)
                  exact ⟨rfl, n3, HJ.out.1, HJ.out.2, HR3.out, HC3.out⟩
                · skip
                  have xa : (c : Int) < (en : Int) := by omega
                  have xb : ¬ (en : Int) < (b : Int) := by omega
                  have HM1 := Lib.hid ((Moved.refl its).congr (h := roIx r m en) fun k => (roIx_id (by omega) hr4 hr3 k).symm)
                  have HR1 := Lib.hid HR.out; have HC1 := Lib.hid HC.out
                  obtain ⟨hp1, hsp, hsa, hsb, hsc, hsd⟩ := HDONE.out _ HM1.out
                  have HP1 := Lib.hid hp1; have HSP := Lib.hid hsp; have HSA := Lib.hid hsa; have HSB := Lib.hid hsb; have HSC := Lib.hid hsc; have HSD := Lib.hid hsd
                  clear hp1 hsp hsa hsb hsc hsd
                  have HP2 := Lib.hid (PermOn.refl a c its)
                  have HT2 := Lib.hid (show SortedOn a c its from by
                    have e1 : r = c := by omega
                    rw [e1] at HSA; exact HSA.out)
                  have HR2 := Lib.hid HR1.out; have HC2 := Lib.hid HC1.out
                  have HP3 := Lib.hid (PermOn.refl c b its)
                  have HT3 := Lib.hid (show SortedOn c b its from by
                    have e1 : en = b := by omega
                    have k := HSC.out.same HP2.out (.inr (Nat.le_refl _)); rw [e1] at k; exact k)
                  have HR3 := Lib.hid HR2.out; have HC3 := Lib.hid HC2.out
                  have HJ := Lib.hid (merge_join HP1.out HSP.out HP2.out HT2.out HP3.out HT3.out (Nat.le_of_lt hmd1) (Nat.le_of_lt hmd2))
                  go_wp2
                  first | go_end0 | (refine bodyPost_ret (results_none rfl _ _ _) rfl ?_)
                  exact ⟨rfl, its, HJ.out.1, HJ.out.2, HR3.out, HC3.out⟩
              · skip
                have xa : ¬ (c : Int) < (en : Int) := by omega
                have HM1 := Lib.hid ((Moved.refl its).congr (h := roIx r m en) fun k => (roIx_id (by omega) hr4 hr3 k).symm)
                have HR1 := Lib.hid HR.out; have HC1 := Lib.hid HC.out
                obtain ⟨hp1, hsp, hsa, hsb, hsc, hsd⟩ := HDONE.out _ HM1.out
                have HP1 := Lib.hid hp1; have HSP := Lib.hid hsp; have HSA := Lib.hid hsa; have HSB := Lib.hid hsb; have HSC := Lib.hid hsc; have HSD := Lib.hid hsd
                clear hp1 hsp hsa hsb hsc hsd
                have HP2 := Lib.hid (PermOn.refl a c its)
                have HT2 := Lib.hid (show SortedOn a c its from by
                  have e1 : r = c := by omega
                  rw [e1] at HSA; exact HSA.out)
                have HR2 := Lib.hid HR1.out; have HC2 := Lib.hid HC1.out
                have HP3 := Lib.hid (PermOn.refl c b its)
                have HT3 := Lib.hid (show SortedOn c b its from by
                  have e1 : en = c := by omega
                  have k := HSD.out.same HP2.out (.inr (by omega)); rw [e1] at k; exact k)
                have HR3 := Lib.hid HR2.out; have HC3 := Lib.hid HC2.out
                have HJ := Lib.hid (merge_join HP1.out HSP.out HP2.out HT2.out HP3.out HT3.out (Nat.le_of_lt hmd1) (Nat.le_of_lt hmd2))
                go_wp2
                first | go_end0 | (refine bodyPost_ret (results_none rfl _ _ _) rfl ?_)
                exact ⟨rfl, its, HJ.out.1, HJ.out.2, HR3.out, HC3.out⟩
          · skip
            have va : ¬ (a : Int) < (r : Int) := by omega
            by_cases x1 : c < en
            · by_cases x2 : en < b
              · skip
                have xa : (c : Int) < (en : Int) := by omega
                have xb : (en : Int) < (b : Int) := by omega
                have HM1 := Lib.hid ((Moved.refl its).congr (h := roIx r m en) fun k => (roIx_id (by omega) hr4 hr3 k).symm)
                have HR1 := Lib.hid HR.out; have HC1 := Lib.hid HC.out
                obtain ⟨hp1, hsp, hsa, hsb, hsc, hsd⟩ := HDONE.out _ HM1.out
                have HP1 := Lib.hid hp1; have HSP := Lib.hid hsp; have HSA := Lib.hid hsa; have HSB := Lib.hid hsb; have HSC := Lib.hid hsc; have HSD := Lib.hid hsd
                clear hp1 hsp hsa hsb hsc hsd
                have HP2 := Lib.hid (PermOn.refl a c its)
                have HT2 := Lib.hid (show SortedOn a c its from by
                  have e1 : r = a := by omega
                  rw [e1] at HSB; exact HSB.out)
                have HR2 := Lib.hid HR1.out; have HC2 := Lib.hid HC1.out
                have hcall := HI.out its F g o cap c en b wr HBL.out.2 HR2.out (by omega) x1 x2 (by omega) (HSC.out.same HP2.out (.inr (Nat.le_refl _))) (HSD.out.same HP2.out (.inr (by omega)))
                have HCALL3 := Lib.hid hcall; clear hcall
                go_wp2_with fail
                refine HCALL3.out.mono ?_
                rintro e w3 ⟨rfl, n3, hp3, hs3, hrr, hcc⟩
                have HR3 := Lib.hid hrr; have HC3 := Lib.hid (HC2.out.trans hcc); have HP3 := Lib.hid hp3; have HT3 := Lib.hid hs3
                clear hrr hcc hp3 hs3 HCALL3
                have HJ := Lib.hid (merge_join HP1.out HSP.out HP2.out HT2.out HP3.out HT3.out (Nat.le_of_lt hmd1) (Nat.le_of_lt hmd2))
                go_wp2
                first | go_end0 | (refine bodyPost_ret (results_none rfl _ _ _) rfl ?_)
                exact ⟨rfl, n3, HJ.out.1, HJ.out.2, HR3.out, HC3.out⟩
              · skip
                have xa : (c : Int) < (en : Int) := by omega
                have xb : ¬ (en : Int) < (b : Int) := by omega
                have HM1 := Lib.hid ((Moved.refl its).congr (h := roIx r m en) fun k => (roIx_id (by omega) hr4 hr3 k).symm)
                have HR1 := Lib.hid HR.out; have HC1 := Lib.hid HC.out
                obtain ⟨hp1, hsp, hsa, hsb, hsc, hsd⟩ := HDONE.out _ HM1.out
                have HP1 := Lib.hid hp1; have HSP := Lib.hid hsp; have HSA := Lib.hid hsa; have HSB := Lib.hid hsb; have HSC := Lib.hid hsc; have HSD := Lib.hid hsd
                clear hp1 hsp hsa hsb hsc hsd
                have HP2 := Lib.hid (PermOn.refl a c its)
                have HT2 := Lib.hid (show SortedOn a c its from by
                  have e1 : r = a := by omega
                  rw [e1] at HSB; exact HSB.out)
                have HR2 := Lib.hid HR1.out; have HC2 := Lib.hid HC1.out
                have HP3 := Lib.hid (PermOn.refl c b its)
                have HT3 := Lib.hid (show SortedOn c b its from by
                  have e1 : en = b := by omega
                  have k := HSC.out.same HP2.out (.inr (Nat.le_refl _)); rw [e1] at k; exact k)
                have HR3 := Lib.hid HR2.out; have HC3 := Lib.hid HC2.out
                have HJ := Lib.hid (merge_join HP1.out HSP.out HP2.out HT2.out HP3.out HT3.out (Nat.le_of_lt hmd1) (Nat.le_of_lt hmd2))
                go_wp2
                first | go_end0 | (refine bodyPost_ret (results_none rfl _ _ _) rfl ?_)
                exact ⟨rfl, its, HJ.out.1, HJ.out.2, HR3.out, HC3.out⟩
            · skip
              have xa : ¬ (c : Int) < (en : Int) := by omega
              have HM1 := Lib.hid ((Moved.refl its).congr (h := roIx r m en) fun k => (roIx_id (by omega) hr4 hr3 k).symm)
              have HR1 := Lib.hid HR.out; have HC1 := Lib.hid HC.out
              obtain ⟨hp1, hsp, hsa, hsb, hsc, hsd⟩ := HDONE.out _ HM1.out
              have HP1 := Lib.hid hp1; have HSP := Lib.hid hsp; have HSA := Lib.hid hsa; have HSB := Lib.hid hsb; have HSC := Lib.hid hsc; have HSD := Lib.hid hsd
              clear hp1 hsp hsa hsb hsc hsd
              have HP2 := Lib.hid (PermOn.refl a c its)
              have HT2 := Lib.hid (show SortedOn a c its from by
                have e1 : r = a := by omega
                rw [e1] at HSB; exact HSB.out)
              have HR2 := Lib.hid HR1.out; have HC2 := Lib.hid HC1.out
              have HP3 := Lib.hid (PermOn.refl c b its)
              have HT3 := Lib.hid (show SortedOn c b its from by
                have e1 : en = c := by omega
                have k := HSD.out.same HP2.out (.inr (by omega)); rw [e1] at k; exact k)
              have HR3 := Lib.hid HR2.out; have HC3 := Lib.hid HC2.out
              have HJ := Lib.hid (merge_join HP1.out HSP.out HP2.out HT2.out HP3.out HT3.out (Nat.le_of_lt hmd1) (Nat.le_of_lt hmd2))
              go_wp2
              first | go_end0 | (refine bodyPost_ret (results_none rfl _ _ _) rfl ?_)
              exact ⟨rfl, its, HJ.out.1, HJ.out.2, HR3.out, HC3.out⟩
  · skip
    have hmm' : ¬ (c : Int) < (m : Int) := by omega
    go_enter Tryz.func203, Tryz.ntmps203
    go_wp2_with fail
    go_loopw [20, 21] (fun x y wr => ∃ j r : Nat, a ≤ j ∧ j ≤ r ∧ r ≤ m ∧ x = .int .i64 j ∧ y = .int .i64 r ∧ Bin its c m a m j r ∧ RowI wr F g o its ∧ Chg (fun b => b = g) w wr) (fun x y _ => (intOf y).toNat - (intOf x).toNat)
    case atStart => exact ⟨a, m, Nat.le_refl _, by omega, Nat.le_refl _, by first | rfl | go_num, by first | rfl | go_num, Bin.start its c m a m, HH.out, Chg.refl _ _⟩
    case round =>
      obtain ⟨j, r, hj1, hjr, hr1, rfl, rfl, hbin, hr, hch⟩ := hrel
      have HBI := Lib.hid hbin; have HR := Lib.hid hr; have HC := Lib.hid hch
      clear hbin hr hch HH
      by_cases hlt : j < r
      · obtain ⟨h, hh⟩ : ∃ h : Nat, (j + r) / 2 = h := ⟨_, rfl⟩
        have hhi : ((j : Int) + (r : Int)) / 2 = (h : Int) := by omega
        have hh1 : j ≤ h := by omega
        have hh2 : h < r := by omega
        clear hh
        obtain ⟨q, hq⟩ : ∃ q : Nat, c + m - 1 - h = q := ⟨_, rfl⟩
        have hqi : (c : Int) + (m : Int) - 1 - (h : Int) = (q : Int) := by omega
        have hw1 : IntKind.i64.wrap (q : Int) = (q : Int) := IntWalk.i64_in _ (by omega)
        have hq2 : q < b := by omega
        have hhl : h < its.length := by omega
        have hql : q < its.length := by omega
        have h1i : (j : Int) < (r : Int) := by omega
        have HLOW := Lib.hid (fun (hc : ¬ P.cmp (its[c + m - 1 - h]'(by omega)).e.1 (its[h]'hhl).e.1 < 0) => HBI.out.low HS1.out HS2.out (by omega) (by omega) (by omega) (by omega) (by omega) (by omega) hhl (by omega) hc)
        have HHIGH := Lib.hid (fun (hc : P.cmp (its[c + m - 1 - h]'(by omega)).e.1 (its[h]'hhl).e.1 < 0) => HBI.out.high HS1.out HS2.out (by omega) (by omega) (by omega) (by omega) (by omega) (by omega) hhl (by omega) hc)
        subst hq
        go_upto_region 35 with fail
        try rw [hhi]
        clear hhi
        obtain ⟨xd, xc, yd, yc, hx, hy, hkc⟩ := HR.out.two (c + m - 1 - h) h hql hhl
        generalize (its[c + m - 1 - h]'hql) = en at *
        generalize (its[h]'hhl) = fn at *
        obtain ⟨q, hq⟩ : ∃ q : Nat, c + m - 1 - h = q := ⟨_, rfl⟩
        rw [hq] at hqi hw1 hq2 hql hkc
        obtain ⟨x, Gx, eo, et⟩ := en
        obtain ⟨y, Gy, fo, ft⟩ := fn
        simp only at hx hy hkc HLOW HHIGH
        subst hx hy
        have HK0 := Lib.hid (hkc.step (Below.refl _ _).drew); clear hkc
        have hnp : ¬ its.length ≤ q := by omega
        have hnq : ¬ its.length ≤ h := by omega
        refine wp_region_held_drew (S := KC wr.heap.size wr g (o + q * 2) (.slice xd eo.length xc) eo et (o + h * 2) (.slice yd fo.length yc) fo ft) (by kernel_rfl) HK0.out (fun hS0 => ?_)
        refine wpAnyH_take (i := 0) (v := byF) rfl (by kernel_rfl) (by kernel_rfl) (by kernel_rfl) (fun _ _ _ h => h) (Or.inl ⟨by rfl, fun z hz => ?_⟩) hS0 ?_
        · obtain ⟨z1, z2, z3, z4, z5, z6⟩ := hz
          go_simp
        try simp only [List.getElem_toArray, List.getElem_cons_zero, Act.put, List.setIfInBounds_toArray, List.set_cons_zero, List.set_cons_succ]
        refine wpAnyH_take (i := 1) (v := .slice (some ⟨g, o, none⟩) its.length cap) rfl (by kernel_rfl) (by kernel_rfl) (by kernel_rfl) (fun _ _ _ h => h) (Or.inl ⟨by rfl, fun z hz => ?_⟩) hS0 ?_
        · obtain ⟨z1, z2, z3, z4, z5, z6⟩ := hz
          go_simp
        try simp only [List.getElem_toArray, List.getElem_cons_zero, List.getElem_cons_succ, Act.put, List.setIfInBounds_toArray, List.set_cons_zero, List.set_cons_succ]
        refine wpAnyH_take (i := 2) (v := .int .i64 ((c : Int) + (m : Int) - 1)) rfl (by kernel_rfl) (by kernel_rfl) (by kernel_rfl) (fun _ _ _ h => h) (Or.inl ⟨by rfl, fun z hz => ?_⟩) hS0 ?_
        · obtain ⟨z1, z2, z3, z4, z5, z6⟩ := hz
          go_simp
        try simp only [List.getElem_toArray, List.getElem_cons_zero, List.getElem_cons_succ, Act.put, List.setIfInBounds_toArray, List.set_cons_zero, List.set_cons_succ]
        refine wpAnyH_take (i := 3) (v := .int .i64 h) rfl (by kernel_rfl) (by kernel_rfl) (by kernel_rfl) (fun _ _ _ h => h) (Or.inl ⟨by rfl, fun z hz => ?_⟩) hS0 ?_
        · obtain ⟨z1, z2, z3, z4, z5, z6⟩ := hz
          go_simp
        try simp only [List.getElem_toArray, List.getElem_cons_zero, List.getElem_cons_succ, Act.put, List.setIfInBounds_toArray, List.set_cons_zero, List.set_cons_succ]
        refine wpAnyH_take (i := 4) (v := .int .i64 q) rfl (by kernel_rfl) (by kernel_rfl) (by kernel_rfl) (fun _ _ _ h => h) (Or.inl ⟨by rfl, fun z hz => ?_⟩) hS0 ?_
        · obtain ⟨z1, z2, z3, z4, z5, z6⟩ := hz
          go_simp
        try simp only [List.getElem_toArray, List.getElem_cons_zero, List.getElem_cons_succ, Act.put, List.setIfInBounds_toArray, List.set_cons_zero, List.set_cons_succ]
        refine wpAnyH_take (i := 5) (v := .pointer (some ⟨g, o + q * 2, none⟩)) rfl (by kernel_rfl) (by kernel_rfl) (by kernel_rfl) (fun _ _ _ h => h) (Or.inl ⟨by rfl, fun z hz => ?_⟩) hS0 ?_
        · obtain ⟨z1, z2, z3, z4, z5, z6⟩ := hz
          go_simp
        try simp only [List.getElem_toArray, List.getElem_cons_zero, List.getElem_cons_succ, Act.put, List.setIfInBounds_toArray, List.set_cons_zero, List.set_cons_succ]
        refine wpAnyH_take (i := 6) (v := .agg #[.slice xd eo.length xc, .string (S et)]) rfl (by kernel_rfl) (by kernel_rfl) (by kernel_rfl) (fun _ _ _ h => h) (Or.inl ⟨by rfl, fun z hz => ?_⟩) hS0 ?_
        · obtain ⟨z1, z2, z3, z4, z5, z6⟩ := hz
          go_simp
        try simp only [List.getElem_toArray, List.getElem_cons_zero, List.getElem_cons_succ, Act.put, List.setIfInBounds_toArray, List.set_cons_zero, List.set_cons_succ]
        refine wpAnyH_take (i := 7) (v := .slice (some ⟨g, o, none⟩) its.length cap) rfl (by kernel_rfl) (by kernel_rfl) (by kernel_rfl) (fun _ _ _ h => h) (Or.inl ⟨by rfl, fun z hz => ?_⟩) hS0 ?_
        · obtain ⟨z1, z2, z3, z4, z5, z6⟩ := hz
          go_simp
        try simp only [List.getElem_toArray, List.getElem_cons_zero, List.getElem_cons_succ, Act.put, List.setIfInBounds_toArray, List.set_cons_zero, List.set_cons_succ]
        refine wpAnyH_take (i := 8) (v := .int .i64 h) rfl (by kernel_rfl) (by kernel_rfl) (by kernel_rfl) (fun _ _ _ h => h) (Or.inl ⟨by rfl, fun z hz => ?_⟩) hS0 ?_
        · obtain ⟨z1, z2, z3, z4, z5, z6⟩ := hz
          go_simp
        try simp only [List.getElem_toArray, List.getElem_cons_zero, List.getElem_cons_succ, Act.put, List.setIfInBounds_toArray, List.set_cons_zero, List.set_cons_succ]
        refine wpAnyH_take (i := 9) (v := .pointer (some ⟨g, o + h * 2, none⟩)) rfl (by kernel_rfl) (by kernel_rfl) (by kernel_rfl) (fun _ _ _ h => h) (Or.inl ⟨by rfl, fun z hz => ?_⟩) hS0 ?_
        · obtain ⟨z1, z2, z3, z4, z5, z6⟩ := hz
          go_simp
        try simp only [List.getElem_toArray, List.getElem_cons_zero, List.getElem_cons_succ, Act.put, List.setIfInBounds_toArray, List.set_cons_zero, List.set_cons_succ]
        refine wpAnyH_take (i := 10) (v := .agg #[.slice yd fo.length yc, .string (S ft)]) rfl (by kernel_rfl) (by kernel_rfl) (by kernel_rfl) (fun _ _ _ h => h) (Or.inl ⟨by rfl, fun z hz => ?_⟩) hS0 ?_
        · obtain ⟨z1, z2, z3, z4, z5, z6⟩ := hz
          go_simp
        try simp only [List.getElem_toArray, List.getElem_cons_zero, List.getElem_cons_succ, Act.put, List.setIfInBounds_toArray, List.set_cons_zero, List.set_cons_succ]
        refine wpAnyH_ready (rs := [11]) (by kernel_rfl) (by simp) ?_
        refine AllReadyH.cons rfl (fun K hK => ?_) AllReadyH.nil
        have HX := Lib.hid hS0.2.2.2.2.2.1
        have HY := Lib.hid hS0.2.2.2.2.2.2.1
        have HSK := Lib.hid hS0
        go_simp
        refine (byOutline _ _ eo fo et ft _ HX.out HY.out).mono ?_
        rintro e v ⟨rfl, hb⟩
        refine hK.out _ _ (HSK.out.step hb) (fun hS1 => ?_)
        clear hK K hb
        try simp only [List.getElem_toArray, List.getElem_cons_zero, List.getElem_cons_succ, Act.put, List.setIfInBounds_toArray, List.set_cons_zero, List.set_cons_succ]
        have HBV := Lib.hid hS1.2.2.2.2.2.2.2.2
        have HRV := Lib.hid (HR.out.below HBV.out)
        have HCV := Lib.hid (HC.out.trans (Below.chg HBV.out _))
        by_cases hcmp : P.cmp eo fo < 0
        · have HQ := Lib.hid (HHIGH.out hcmp)
          refine wpAnyH_take (i := 12) (v := .bool true) rfl (by kernel_rfl) (by kernel_rfl) (by kernel_rfl) (fun _ _ _ h => h) (Or.inl ⟨by rfl, fun z hz => ?_⟩) hS1 ?_
          · obtain ⟨z1, z2, z3, z4, z5, z6⟩ := hz
            go_simp
          try simp only [List.getElem_toArray, List.getElem_cons_zero, List.getElem_cons_succ, Act.put, List.setIfInBounds_toArray, List.set_cons_zero, List.set_cons_succ]
          refine wpAnyH_take (i := 13) (v := .bool false) rfl (by kernel_rfl) (by kernel_rfl) (by kernel_rfl) (fun _ _ _ h => h) (Or.inl ⟨by rfl, fun z hz => ?_⟩) hS1 ?_
          · obtain ⟨z1, z2, z3, z4, z5, z6⟩ := hz
            go_simp
          try simp only [List.getElem_toArray, List.getElem_cons_zero, List.getElem_cons_succ, Act.put, List.setIfInBounds_toArray, List.set_cons_zero, List.set_cons_succ]
          refine wpAnyH_done (by kernel_rfl) ?_ _
          clear hS0 HSK hS1 HLOW HHIGH hcmp HX HY HK0 HR HC HBV hnp hnq hw1 hqi
          go_wp2
          go_roundw
          case rel => exact ⟨j, h, hj1, hh1, by omega, rfl, rfl, HQ.out, HRV.out, HCV.out⟩
          case measure => simp [intOf]; omega
        · have HQ := Lib.hid (HLOW.out hcmp)
          refine wpAnyH_take (i := 12) (v := .bool false) rfl (by kernel_rfl) (by kernel_rfl) (by kernel_rfl) (fun _ _ _ h => h) (Or.inl ⟨by rfl, fun z hz => ?_⟩) hS1 ?_
          · obtain ⟨z1, z2, z3, z4, z5, z6⟩ := hz
            go_simp
          try simp only [List.getElem_toArray, List.getElem_cons_zero, List.getElem_cons_succ, Act.put, List.setIfInBounds_toArray, List.set_cons_zero, List.set_cons_succ]
          refine wpAnyH_take (i := 13) (v := .bool true) rfl (by kernel_rfl) (by kernel_rfl) (by kernel_rfl) (fun _ _ _ h => h) (Or.inl ⟨by rfl, fun z hz => ?_⟩) hS1 ?_
          · obtain ⟨z1, z2, z3, z4, z5, z6⟩ := hz
            go_simp
          try simp only [List.getElem_toArray, List.getElem_cons_zero, List.getElem_cons_succ, Act.put, List.setIfInBounds_toArray, List.set_cons_zero, List.set_cons_succ]
          refine wpAnyH_done (by kernel_rfl) ?_ _
          clear hS0 HSK hS1 HLOW HHIGH hcmp HX HY HK0 HR HC HBV hnp hnq hw1 hqi
          go_wp2
          go_roundw
          case rel => exact ⟨h + 1, r, by omega, by omega, hr1, by go_num, rfl, HQ.out, HRV.out, HCV.out⟩
          case measure => simp [intOf]; omega
      · have hjm : r = j := by omega
        subst hjm
        obtain ⟨en, hen⟩ : ∃ en : Nat, c + m - r = en := ⟨_, rfl⟩
        have hrng : en ≤ b ∧ m ≤ en ∧ r ≤ m ∧ r ≤ c ∧ a ≤ r ∧ c ≤ en := by omega
        obtain ⟨hr2, hr3, hr4, hr5, hr6, hr7⟩ := hrng
        have hei : (c : Int) + (m : Int) - (r : Int) = (en : Int) := by omega
        have hwe : IntKind.i64.wrap (en : Int) = (en : Int) := IntWalk.i64_in _ (by omega)
        have HDONE := Lib.hid (show ∀ l', Moved its l' (roIx r m en) → PermOn a b its l' ∧ Split a c b l' ∧ SortedOn a r l' ∧ SortedOn r c l' ∧ SortedOn c en l' ∧ SortedOn en b l' from fun l' hm => by rw [← hen] at hm ⊢; exact HBI.out.done HS1.out HS2.out hb (by omega) (by right; exact ⟨by omega, rfl, rfl⟩) (by omega) hmd2 hmd3 hmd4 hj1 hr1 hm)
        have HBL := Lib.hid (show c - a ≤ n ∧ b - c ≤ n by omega)
        clear hen HBI HS1 HS2
        by_cases u1 : r < m
        · by_cases u2 : m < en
          · skip
            have ua : (r : Int) < (m : Int) := by omega
            have ub : (m : Int) < (en : Int) := by omega
            by_cases v1 : a < r
            · by_cases v2 : r < c
              · skip
                have va : (a : Int) < (r : Int) := by omega
                have vb : (r : Int) < (c : Int) := by omega
                by_cases x1 : c < en
                · by_cases x2 : en < b
                  · skip
                    have xa : (c : Int) < (en : Int) := by omega
                    have xb : (en : Int) < (b : Int) := by omega
                    have HCALL := Lib.hid (rotate_full its F g o cap r m en wr HR.out hl u1 u2 (by omega))
                    go_wp2_with fail
                    refine HCALL.out.mono ?_
                    rintro e w1 ⟨rfl, n1, hm1, hrr, hcc⟩
                    have HR1 := Lib.hid hrr; have HC1 := Lib.hid (HC.out.trans hcc); have HM1 := Lib.hid hm1
                    clear hrr hcc HCALL
                    have hln1 : n1.length = its.length := hm1.len
                    clear hm1
                    obtain ⟨hp1, hsp, hsa, hsb, hsc, hsd⟩ := HDONE.out _ HM1.out
                    have HP1 := Lib.hid hp1; have HSP := Lib.hid hsp; have HSA := Lib.hid hsa; have HSB := Lib.hid hsb; have HSC := Lib.hid hsc; have HSD := Lib.hid hsd
                    clear hp1 hsp hsa hsb hsc hsd
                    have hcall := HI.out n1 F g o cap a r c w1 HBL.out.1 HR1.out (by omega) v1 v2 (by omega) HSA.out HSB.out
                    rw [hln1] at hcall
                    have HCALL2 := Lib.hid hcall; clear hcall
                    go_wp2_with fail
                    refine HCALL2.out.mono ?_
                    rintro e w2 ⟨rfl, n2, hp2, hs2, hrr, hcc⟩
                    have HR2 := Lib.hid hrr; have HC2 := Lib.hid (HC1.out.trans hcc); have HP2 := Lib.hid hp2; have HT2 := Lib.hid hs2; have hln2 : n2.length = its.length := hp2.len.trans hln1
                    clear hrr hcc hp2 hs2 HCALL2
                    have hcall := HI.out n2 F g o cap c en b w2 HBL.out.2 HR2.out (by omega) x1 x2 (by omega) (HSC.out.same HP2.out (.inr (Nat.le_refl _))) (HSD.out.same HP2.out (.inr (by omega)))
                    rw [hln2] at hcall
                    have HCALL3 := Lib.hid hcall; clear hcall
                    go_wp2_with fail
                    refine HCALL3.out.mono ?_
                    rintro e w3 ⟨rfl, n3, hp3, hs3, hrr, hcc⟩
                    have HR3 := Lib.hid hrr; have HC3 := Lib.hid (HC2.out.trans hcc); have HP3 := Lib.hid hp3; have HT3 := Lib.hid hs3
                    clear hrr hcc hp3 hs3 HCALL3
                    have HJ := Lib.hid (merge_join HP1.out HSP.out HP2.out HT2.out HP3.out HT3.out (Nat.le_of_lt hmd1) (Nat.le_of_lt hmd2))
                    go_wp2
                    first | go_end0 | (refine bodyPost_ret (results_none rfl _ _ _) rfl ?_)
                    exact ⟨rfl, n3, HJ.out.1, HJ.out.2, HR3.out, HC3.out⟩
                  · skip
                    have xa : (c : Int) < (en : Int) := by omega
                    have xb : ¬ (en : Int) < (b : Int) := by omega
                    have HCALL := Lib.hid (rotate_full its F g o cap r m en wr HR.out hl u1 u2 (by omega))
                    go_wp2_with fail
                    refine HCALL.out.mono ?_
                    rintro e w1 ⟨rfl, n1, hm1, hrr, hcc⟩
                    have HR1 := Lib.hid hrr; have HC1 := Lib.hid (HC.out.trans hcc); have HM1 := Lib.hid hm1
                    clear hrr hcc HCALL
                    have hln1 : n1.length = its.length := hm1.len
                    clear hm1
                    obtain ⟨hp1, hsp, hsa, hsb, hsc, hsd⟩ := HDONE.out _ HM1.out
                    have HP1 := Lib.hid hp1; have HSP := Lib.hid hsp; have HSA := Lib.hid hsa; have HSB := Lib.hid hsb; have HSC := Lib.hid hsc; have HSD := Lib.hid hsd
                    clear hp1 hsp hsa hsb hsc hsd
                    have hcall := HI.out n1 F g o cap a r c w1 HBL.out.1 HR1.out (by omega) v1 v2 (by omega) HSA.out HSB.out
                    rw [hln1] at hcall
                    have HCALL2 := Lib.hid hcall; clear hcall
                    go_wp2_with fail
                    refine HCALL2.out.mono ?_
                    rintro e w2 ⟨rfl, n2, hp2, hs2, hrr, hcc⟩
                    have HR2 := Lib.hid hrr; have HC2 := Lib.hid (HC1.out.trans hcc); have HP2 := Lib.hid hp2; have HT2 := Lib.hid hs2; have hln2 : n2.length = its.length := hp2.len.trans hln1
                    clear hrr hcc hp2 hs2 HCALL2
                    have HP3 := Lib.hid (PermOn.refl c b n2)
                    have HT3 := Lib.hid (show SortedOn c b n2 from by
                      have e1 : en = b := by omega
                      have k := HSC.out.same HP2.out (.inr (Nat.le_refl _)); rw [e1] at k; exact k)
                    have HR3 := Lib.hid HR2.out; have HC3 := Lib.hid HC2.out
                    have HJ := Lib.hid (merge_join HP1.out HSP.out HP2.out HT2.out HP3.out HT3.out (Nat.le_of_lt hmd1) (Nat.le_of_lt hmd2))
                    go_wp2
                    first | go_end0 | (refine bodyPost_ret (results_none rfl _ _ _) rfl ?_)
                    exact ⟨rfl, n2, HJ.out.1, HJ.out.2, HR3.out, HC3.out⟩
                · skip
                  have xa : ¬ (c : Int) < (en : Int) := by omega
                  have HCALL := Lib.hid (rotate_full its F g o cap r m en wr HR.out hl u1 u2 (by omega))
                  go_wp2_with fail
                  refine HCALL.out.mono ?_
                  rintro e w1 ⟨rfl, n1, hm1, hrr, hcc⟩
                  have HR1 := Lib.hid hrr; have HC1 := Lib.hid (HC.out.trans hcc); have HM1 := Lib.hid hm1
                  clear hrr hcc HCALL
                  have hln1 : n1.length = its.length := hm1.len
                  clear hm1
                  obtain ⟨hp1, hsp, hsa, hsb, hsc, hsd⟩ := HDONE.out _ HM1.out
                  have HP1 := Lib.hid hp1; have HSP := Lib.hid hsp; have HSA := Lib.hid hsa; have HSB := Lib.hid hsb; have HSC := Lib.hid hsc; have HSD := Lib.hid hsd
                  clear hp1 hsp hsa hsb hsc hsd
                  have hcall := HI.out n1 F g o cap a r c w1 HBL.out.1 HR1.out (by omega) v1 v2 (by omega) HSA.out HSB.out
                  rw [hln1] at hcall
                  have HCALL2 := Lib.hid hcall; clear hcall
                  go_wp2_with fail
                  refine HCALL2.out.mono ?_
                  rintro e w2 ⟨rfl, n2, hp2, hs2, hrr, hcc⟩
                  have HR2 := Lib.hid hrr; have HC2 := Lib.hid (HC1.out.trans hcc); have HP2 := Lib.hid hp2; have HT2 := Lib.hid hs2; have hln2 : n2.length = its.length := hp2.len.trans hln1
                  clear hrr hcc hp2 hs2 HCALL2
                  have HP3 := Lib.hid (PermOn.refl c b n2)
                  have HT3 := Lib.hid (show SortedOn c b n2 from by
                    have e1 : en = c := by omega
                    have k := HSD.out.same HP2.out (.inr (by omega)); rw [e1] at k; exact k)
                  have HR3 := Lib.hid HR2.out; have HC3 := Lib.hid HC2.out
                  have HJ := Lib.hid (merge_join HP1.out HSP.out HP2.out HT2.out HP3.out HT3.out (Nat.le_of_lt hmd1) (Nat.le_of_lt hmd2))
                  go_wp2
                  first | go_end0 | (refine bodyPost_ret (results_none rfl _ _ _) rfl ?_)
                  exact ⟨rfl, n2, HJ.out.1, HJ.out.2, HR3.out, HC3.out⟩
              · skip
                have va : (a : Int) < (r : Int) := by omega
                have vb : ¬ (r : Int) < (c : Int) := by omega
                by_cases x1 : c < en
                · by_cases x2 : en < b
                  · skip
                    have xa : (c : Int) < (en : Int) := by omega
                    have xb : (en : Int) < (b : Int) := by omega
                    have HCALL := Lib.hid (rotate_full its F g o cap r m en wr HR.out hl u1 u2 (by omega))
                    go_wp2_with fail
                    refine HCALL.out.mono ?_
                    rintro e w1 ⟨rfl, n1, hm1, hrr, hcc⟩
                    have HR1 := Lib.hid hrr; have HC1 := Lib.hid (HC.out.trans hcc); have HM1 := Lib.hid hm1
                    clear hrr hcc HCALL
                    have hln1 : n1.length = its.length := hm1.len
                    clear hm1
                    obtain ⟨hp1, hsp, hsa, hsb, hsc, hsd⟩ := HDONE.out _ HM1.out
                    have HP1 := Lib.hid hp1; have HSP := Lib.hid hsp; have HSA := Lib.hid hsa; have HSB := Lib.hid hsb; have HSC := Lib.hid hsc; have HSD := Lib.hid hsd
                    clear hp1 hsp hsa hsb hsc hsd
                    have HP2 := Lib.hid (PermOn.refl a c n1)
                    have HT2 := Lib.hid (show SortedOn a c n1 from by
                      have e1 : r = c := by omega
                      rw [e1] at HSA; exact HSA.out)
                    have HR2 := Lib.hid HR1.out; have HC2 := Lib.hid HC1.out
                    have hln2 : n1.length = its.length := hln1
                    have hcall := HI.out n1 F g o cap c en b w1 HBL.out.2 HR2.out (by omega) x1 x2 (by omega) (HSC.out.same HP2.out (.inr (Nat.le_refl _))) (HSD.out.same HP2.out (.inr (by omega)))
                    rw [hln2] at hcall
                    have HCALL3 := Lib.hid hcall; clear hcall
                    go_wp2_with fail
                    refine HCALL3.out.mono ?_
                    rintro e w3 ⟨rfl, n3, hp3, hs3, hrr, hcc⟩
                    have HR3 := Lib.hid hrr; have HC3 := Lib.hid (HC2.out.trans hcc); have HP3 := Lib.hid hp3; have HT3 := Lib.hid hs3
                    clear hrr hcc hp3 hs3 HCALL3
                    have HJ := Lib.hid (merge_join HP1.out HSP.out HP2.out HT2.out HP3.out HT3.out (Nat.le_of_lt hmd1) (Nat.le_of_lt hmd2))
                    go_wp2
                    first | go_end0 | (refine bodyPost_ret (results_none rfl _ _ _) rfl ?_)
                    exact ⟨rfl, n3, HJ.out.1, HJ.out.2, HR3.out, HC3.out⟩
                  · skip
                    have xa : (c : Int) < (en : Int) := by omega
                    have xb : ¬ (en : Int) < (b : Int) := by omega
                    have HCALL := Lib.hid (rotate_full its F g o cap r m en wr HR.out hl u1 u2 (by omega))
                    go_wp2_with fail
                    refine HCALL.out.mono ?_
                    rintro e w1 ⟨rfl, n1, hm1, hrr, hcc⟩
                    have HR1 := Lib.hid hrr; have HC1 := Lib.hid (HC.out.trans hcc); have HM1 := Lib.hid hm1
                    clear hrr hcc HCALL
                    have hln1 : n1.length = its.length := hm1.len
                    clear hm1
                    obtain ⟨hp1, hsp, hsa, hsb, hsc, hsd⟩ := HDONE.out _ HM1.out
                    have HP1 := Lib.hid hp1; have HSP := Lib.hid hsp; have HSA := Lib.hid hsa; have HSB := Lib.hid hsb; have HSC := Lib.hid hsc; have HSD := Lib.hid hsd
                    clear hp1 hsp hsa hsb hsc hsd
                    have HP2 := Lib.hid (PermOn.refl a c n1)
                    have HT2 := Lib.hid (show SortedOn a c n1 from by
                      have e1 : r = c := by omega
                      rw [e1] at HSA; exact HSA.out)
                    have HR2 := Lib.hid HR1.out; have HC2 := Lib.hid HC1.out
                    have hln2 : n1.length = its.length := hln1
                    have HP3 := Lib.hid (PermOn.refl c b n1)
                    have HT3 := Lib.hid (show SortedOn c b n1 from by
                      have e1 : en = b := by omega
                      have k := HSC.out.same HP2.out (.inr (Nat.le_refl _)); rw [e1] at k; exact k)
                    have HR3 := Lib.hid HR2.out; have HC3 := Lib.hid HC2.out
                    have HJ := Lib.hid (merge_join HP1.out HSP.out HP2.out HT2.out HP3.out HT3.out (Nat.le_of_lt hmd1) (Nat.le_of_lt hmd2))
                    go_wp2
                    first | go_end0 | (refine bodyPost_ret (results_none rfl _ _ _) rfl ?_)
                    exact ⟨rfl, n1, HJ.out.1, HJ.out.2, HR3.out, HC3.out⟩
                · skip
                  have xa : ¬ (c : Int) < (en : Int) := by omega
                  have HCALL := Lib.hid (rotate_full its F g o cap r m en wr HR.out hl u1 u2 (by omega))
                  go_wp2_with fail
                  refine HCALL.out.mono ?_
                  rintro e w1 ⟨rfl, n1, hm1, hrr, hcc⟩
                  have HR1 := Lib.hid hrr; have HC1 := Lib.hid (HC.out.trans hcc); have HM1 := Lib.hid hm1
                  clear hrr hcc HCALL
                  have hln1 : n1.length = its.length := hm1.len
                  clear hm1
                  obtain ⟨hp1, hsp, hsa, hsb, hsc, hsd⟩ := HDONE.out _ HM1.out
                  have HP1 := Lib.hid hp1; have HSP := Lib.hid hsp; have HSA := Lib.hid hsa; have HSB := Lib.hid hsb; have HSC := Lib.hid hsc; have HSD := Lib.hid hsd
                  clear hp1 hsp hsa hsb hsc hsd
                  have HP2 := Lib.hid (PermOn.refl a c n1)
                  have HT2 := Lib.hid (show SortedOn a c n1 from by
                    have e1 : r = c := by omega
                    rw [e1] at HSA; exact HSA.out)
                  have HR2 := Lib.hid HR1.out; have HC2 := Lib.hid HC1.out
                  have hln2 : n1.length = its.length := hln1
                  have HP3 := Lib.hid (PermOn.refl c b n1)
                  have HT3 := Lib.hid (show SortedOn c b n1 from by
                    have e1 : en = c := by omega
                    have k := HSD.out.same HP2.out (.inr (by omega)); rw [e1] at k; exact k)
                  have HR3 := Lib.hid HR2.out; have HC3 := Lib.hid HC2.out
                  have HJ := Lib.hid (merge_join HP1.out HSP.out HP2.out HT2.out HP3.out HT3.out (Nat.le_of_lt hmd1) (Nat.le_of_lt hmd2))
                  go_wp2
                  first | go_end0 | (refine bodyPost_ret (results_none rfl _ _ _) rfl ?_)
                  exact ⟨rfl, n1, HJ.out.1, HJ.out.2, HR3.out, HC3.out⟩
            · skip
              have va : ¬ (a : Int) < (r : Int) := by omega
              by_cases x1 : c < en
              · by_cases x2 : en < b
                · skip
                  have xa : (c : Int) < (en : Int) := by omega
                  have xb : (en : Int) < (b : Int) := by omega
                  have HCALL := Lib.hid (rotate_full its F g o cap r m en wr HR.out hl u1 u2 (by omega))
                  go_wp2_with fail
                  refine HCALL.out.mono ?_
                  rintro e w1 ⟨rfl, n1, hm1, hrr, hcc⟩
                  have HR1 := Lib.hid hrr; have HC1 := Lib.hid (HC.out.trans hcc); have HM1 := Lib.hid hm1
                  clear hrr hcc HCALL
                  have hln1 : n1.length = its.length := hm1.len
                  clear hm1
                  obtain ⟨hp1, hsp, hsa, hsb, hsc, hsd⟩ := HDONE.out _ HM1.out
                  have HP1 := Lib.hid hp1; have HSP := Lib.hid hsp; have HSA := Lib.hid hsa; have HSB := Lib.hid hsb; have HSC := Lib.hid hsc; have HSD := Lib.hid hsd
                  clear hp1 hsp hsa hsb hsc hsd
                  have HP2 := Lib.hid (PermOn.refl a c n1)
                  have HT2 := Lib.hid (show SortedOn a c n1 from by
                    have e1 : r = a := by omega
                    rw [e1] at HSB; exact HSB.out)
                  have HR2 := Lib.hid HR1.out; have HC2 := Lib.hid HC1.out
                  have hln2 : n1.length = its.length := hln1
                  have hcall := HI.out n1 F g o cap c en b w1 HBL.out.2 HR2.out (by omega) x1 x2 (by omega) (HSC.out.same HP2.out (.inr (Nat.le_refl _))) (HSD.out.same HP2.out (.inr (by omega)))
                  rw [hln2] at hcall
                  have HCALL3 := Lib.hid hcall; clear hcall
                  go_wp2_with fail
                  refine HCALL3.out.mono ?_
                  rintro e w3 ⟨rfl, n3, hp3, hs3, hrr, hcc⟩
                  have HR3 := Lib.hid hrr; have HC3 := Lib.hid (HC2.out.trans hcc); have HP3 := Lib.hid hp3; have HT3 := Lib.hid hs3
                  clear hrr hcc hp3 hs3 HCALL3
                  have HJ := Lib.hid (merge_join HP1.out HSP.out HP2.out HT2.out HP3.out HT3.out (Nat.le_of_lt hmd1) (Nat.le_of_lt hmd2))
                  go_wp2
                  first | go_end0 | (refine bodyPost_ret (results_none rfl _ _ _) rfl ?_)
                  exact ⟨rfl, n3, HJ.out.1, HJ.out.2, HR3.out, HC3.out⟩
                · skip
                  have xa : (c : Int) < (en : Int) := by omega
                  have xb : ¬ (en : Int) < (b : Int) := by omega
                  have HCALL := Lib.hid (rotate_full its F g o cap r m en wr HR.out hl u1 u2 (by omega))
                  go_wp2_with fail
                  refine HCALL.out.mono ?_
                  rintro e w1 ⟨rfl, n1, hm1, hrr, hcc⟩
                  have HR1 := Lib.hid hrr; have HC1 := Lib.hid (HC.out.trans hcc); have HM1 := Lib.hid hm1
                  clear hrr hcc HCALL
                  have hln1 : n1.length = its.length := hm1.len
                  clear hm1
                  obtain ⟨hp1, hsp, hsa, hsb, hsc, hsd⟩ := HDONE.out _ HM1.out
                  have HP1 := Lib.hid hp1; have HSP := Lib.hid hsp; have HSA := Lib.hid hsa; have HSB := Lib.hid hsb; have HSC := Lib.hid hsc; have HSD := Lib.hid hsd
                  clear hp1 hsp hsa hsb hsc hsd
                  have HP2 := Lib.hid (PermOn.refl a c n1)
                  have HT2 := Lib.hid (show SortedOn a c n1 from by
                    have e1 : r = a := by omega
                    rw [e1] at HSB; exact HSB.out)
                  have HR2 := Lib.hid HR1.out; have HC2 := Lib.hid HC1.out
                  have hln2 : n1.length = its.length := hln1
                  have HP3 := Lib.hid (PermOn.refl c b n1)
                  have HT3 := Lib.hid (show SortedOn c b n1 from by
                    have e1 : en = b := by omega
                    have k := HSC.out.same HP2.out (.inr (Nat.le_refl _)); rw [e1] at k; exact k)
                  have HR3 := Lib.hid HR2.out; have HC3 := Lib.hid HC2.out
                  have HJ := Lib.hid (merge_join HP1.out HSP.out HP2.out HT2.out HP3.out HT3.out (Nat.le_of_lt hmd1) (Nat.le_of_lt hmd2))
                  go_wp2
                  first | go_end0 | (refine bodyPost_ret (results_none rfl _ _ _) rfl ?_)
                  exact ⟨rfl, n1, HJ.out.1, HJ.out.2, HR3.out, HC3.out⟩
              · skip
                have xa : ¬ (c : Int) < (en : Int) := by omega
                have HCALL := Lib.hid (rotate_full its F g o cap r m en wr HR.out hl u1 u2 (by omega))
                go_wp2_with fail
                refine HCALL.out.mono ?_
                rintro e w1 ⟨rfl, n1, hm1, hrr, hcc⟩
                have HR1 := Lib.hid hrr; have HC1 := Lib.hid (HC.out.trans hcc); have HM1 := Lib.hid hm1
                clear hrr hcc HCALL
                have hln1 : n1.length = its.length := hm1.len
                clear hm1
                obtain ⟨hp1, hsp, hsa, hsb, hsc, hsd⟩ := HDONE.out _ HM1.out
                have HP1 := Lib.hid hp1; have HSP := Lib.hid hsp; have HSA := Lib.hid hsa; have HSB := Lib.hid hsb; have HSC := Lib.hid hsc; have HSD := Lib.hid hsd
                clear hp1 hsp hsa hsb hsc hsd
                have HP2 := Lib.hid (PermOn.refl a c n1)
                have HT2 := Lib.hid (show SortedOn a c n1 from by
                  have e1 : r = a := by omega
                  rw [e1] at HSB; exact HSB.out)
                have HR2 := Lib.hid HR1.out; have HC2 := Lib.hid HC1.out
                have hln2 : n1.length = its.length := hln1
                have HP3 := Lib.hid (PermOn.refl c b n1)
                have HT3 := Lib.hid (show SortedOn c b n1 from by
                  have e1 : en = c := by omega
                  have k := HSD.out.same HP2.out (.inr (by omega)); rw [e1] at k; exact k)
                have HR3 := Lib.hid HR2.out; have HC3 := Lib.hid HC2.out
                have HJ := Lib.hid (merge_join HP1.out HSP.out HP2.out HT2.out HP3.out HT3.out (Nat.le_of_lt hmd1) (Nat.le_of_lt hmd2))
                go_wp2
                first | go_end0 | (refine bodyPost_ret (results_none rfl _ _ _) rfl ?_)
                exact ⟨rfl, n1, HJ.out.1, HJ.out.2, HR3.out, HC3.out⟩
          · skip
            have ua : (r : Int) < (m : Int) := by omega
            have ub : ¬ (m : Int) < (en : Int) := by omega
            by_cases v1 : a < r
            · by_cases v2 : r < c
              · skip
                have va : (a : Int) < (r : Int) := by omega
                have vb : (r : Int) < (c : Int) := by omega
                by_cases x1 : c < en
                · by_cases x2 : en < b
                  · skip
                    have xa : (c : Int) < (en : Int) := by omega
                    have xb : (en : Int) < (b : Int) := by omega
                    have HM1 := Lib.hid ((Moved.refl its).congr (h := roIx r m en) fun k => (roIx_id (by omega) hr4 hr3 k).symm)
                    have HR1 := Lib.hid HR.out; have HC1 := Lib.hid HC.out
                    obtain ⟨hp1, hsp, hsa, hsb, hsc, hsd⟩ := HDONE.out _ HM1.out
                    have HP1 := Lib.hid hp1; have HSP := Lib.hid hsp; have HSA := Lib.hid hsa; have HSB := Lib.hid hsb; have HSC := Lib.hid hsc; have HSD := Lib.hid hsd
                    clear hp1 hsp hsa hsb hsc hsd
                    have hcall := HI.out its F g o cap a r c wr HBL.out.1 HR1.out (by omega) v1 v2 (by omega) HSA.out HSB.out
                    have HCALL2 := Lib.hid hcall; clear hcall
                    go_wp2_with fail
                    refine HCALL2.out.mono ?_
                    rintro e w2 ⟨rfl, n2, hp2, hs2, hrr, hcc⟩
                    have HR2 := Lib.hid hrr; have HC2 := Lib.hid (HC1.out.trans hcc); have HP2 := Lib.hid hp2; have HT2 := Lib.hid hs2; have hln2 : n2.length = its.length := hp2.len
                    clear hrr hcc hp2 hs2 HCALL2
                    have hcall := HI.out n2 F g o cap c en b w2 HBL.out.2 HR2.out (by omega) x1 x2 (by omega) (HSC.out.same HP2.out (.inr (Nat.le_refl _))) (HSD.out.same HP2.out (.inr (by omega)))
                    rw [hln2] at hcall
                    have HCALL3 := Lib.hid hcall; clear hcall
                    go_wp2_with fail
                    refine HCALL3.out.mono ?_
                    rintro e w3 ⟨rfl, n3, hp3, hs3, hrr, hcc⟩
                    have HR3 := Lib.hid hrr; have HC3 := Lib.hid (HC2.out.trans hcc); have HP3 := Lib.hid hp3; have HT3 := Lib.hid hs3
                    clear hrr hcc hp3 hs3 HCALL3
                    have HJ := Lib.hid (merge_join HP1.out HSP.out HP2.out HT2.out HP3.out HT3.out (Nat.le_of_lt hmd1) (Nat.le_of_lt hmd2))
                    go_wp2
                    first | go_end0 | (refine bodyPost_ret (results_none rfl _ _ _) rfl ?_)
                    exact ⟨rfl, n3, HJ.out.1, HJ.out.2, HR3.out, HC3.out⟩
                  · skip
                    have xa : (c : Int) < (en : Int) := by omega
                    have xb : ¬ (en : Int) < (b : Int) := by omega
                    have HM1 := Lib.hid ((Moved.refl its).congr (h := roIx r m en) fun k => (roIx_id (by omega) hr4 hr3 k).symm)
                    have HR1 := Lib.hid HR.out; have HC1 := Lib.hid HC.out
                    obtain ⟨hp1, hsp, hsa, hsb, hsc, hsd⟩ := HDONE.out _ HM1.out
                    have HP1 := Lib.hid hp1; have HSP := Lib.hid hsp; have HSA := Lib.hid hsa; have HSB := Lib.hid hsb; have HSC := Lib.hid hsc; have HSD := Lib.hid hsd
                    clear hp1 hsp hsa hsb hsc hsd
                    have hcall := HI.out its F g o cap a r c wr HBL.out.1 HR1.out (by omega) v1 v2 (by omega) HSA.out HSB.out
                    have HCALL2 := Lib.hid hcall; clear hcall
                    go_wp2_with fail
                    refine HCALL2.out.mono ?_
                    rintro e w2 ⟨rfl, n2, hp2, hs2, hrr, hcc⟩
                    have HR2 := Lib.hid hrr; have HC2 := Lib.hid (HC1.out.trans hcc); have HP2 := Lib.hid hp2; have HT2 := Lib.hid hs2; have hln2 : n2.length = its.length := hp2.len
                    clear hrr hcc hp2 hs2 HCALL2
                    have HP3 := Lib.hid (PermOn.refl c b n2)
                    have HT3 := Lib.hid (show SortedOn c b n2 from by
                      have e1 : en = b := by omega
                      have k := HSC.out.same HP2.out (.inr (Nat.le_refl _)); rw [e1] at k; exact k)
                    have HR3 := Lib.hid HR2.out; have HC3 := Lib.hid HC2.out
                    have HJ := Lib.hid (merge_join HP1.out HSP.out HP2.out HT2.out HP3.out HT3.out (Nat.le_of_lt hmd1) (Nat.le_of_lt hmd2))
                    go_wp2
                    first | go_end0 | (refine bodyPost_ret (results_none rfl _ _ _) rfl ?_)
                    exact ⟨rfl, n2, HJ.out.1, HJ.out.2, HR3.out, HC3.out⟩
                · skip
                  have xa : ¬ (c : Int) < (en : Int) := by omega
                  have HM1 := Lib.hid ((Moved.refl its).congr (h := roIx r m en) fun k => (roIx_id (by omega) hr4 hr3 k).symm)
                  have HR1 := Lib.hid HR.out; have HC1 := Lib.hid HC.out
                  obtain ⟨hp1, hsp, hsa, hsb, hsc, hsd⟩ := HDONE.out _ HM1.out
                  have HP1 := Lib.hid hp1; have HSP := Lib.hid hsp; have HSA := Lib.hid hsa; have HSB := Lib.hid hsb; have HSC := Lib.hid hsc; have HSD := Lib.hid hsd
                  clear hp1 hsp hsa hsb hsc hsd
                  have hcall := HI.out its F g o cap a r c wr HBL.out.1 HR1.out (by omega) v1 v2 (by omega) HSA.out HSB.out
                  have HCALL2 := Lib.hid hcall; clear hcall
                  go_wp2_with fail
                  refine HCALL2.out.mono ?_
                  rintro e w2 ⟨rfl, n2, hp2, hs2, hrr, hcc⟩
                  have HR2 := Lib.hid hrr; have HC2 := Lib.hid (HC1.out.trans hcc); have HP2 := Lib.hid hp2; have HT2 := Lib.hid hs2; have hln2 : n2.length = its.length := hp2.len
                  clear hrr hcc hp2 hs2 HCALL2
                  have HP3 := Lib.hid (PermOn.refl c b n2)
                  have HT3 := Lib.hid (show SortedOn c b n2 from by
                    have e1 : en = c := by omega
                    have k := HSD.out.same HP2.out (.inr (by omega)); rw [e1] at k; exact k)
                  have HR3 := Lib.hid HR2.out; have HC3 := Lib.hid HC2.out
                  have HJ := Lib.hid (merge_join HP1.out HSP.out HP2.out HT2.out HP3.out HT3.out (Nat.le_of_lt hmd1) (Nat.le_of_lt hmd2))
                  go_wp2
                  first | go_end0 | (refine bodyPost_ret (results_none rfl _ _ _) rfl ?_)
                  exact ⟨rfl, n2, HJ.out.1, HJ.out.2, HR3.out, HC3.out⟩
              · skip
                have va : (a : Int) < (r : Int) := by omega
                have vb : ¬ (r : Int) < (c : Int) := by omega
                by_cases x1 : c < en
                · by_cases x2 : en < b
                  · skip
                    have xa : (c : Int) < (en : Int) := by omega
                    have xb : (en : Int) < (b : Int) := by omega
                    have HM1 := Lib.hid ((Moved.refl its).congr (h := roIx r m en) fun k => (roIx_id (by omega) hr4 hr3 k).symm)
                    have HR1 := Lib.hid HR.out; have HC1 := Lib.hid HC.out
                    obtain ⟨hp1, hsp, hsa, hsb, hsc, hsd⟩ := HDONE.out _ HM1.out
                    have HP1 := Lib.hid hp1; have HSP := Lib.hid hsp; have HSA := Lib.hid hsa; have HSB := Lib.hid hsb; have HSC := Lib.hid hsc; have HSD := Lib.hid hsd
                    clear hp1 hsp hsa hsb hsc hsd
                    have HP2 := Lib.hid (PermOn.refl a c its)
                    have HT2 := Lib.hid (show SortedOn a c its from by
                      have e1 : r = c := by omega
                      rw [e1] at HSA; exact HSA.out)
                    have HR2 := Lib.hid HR1.out; have HC2 := Lib.hid HC1.out
                    have hcall := HI.out its F g o cap c en b wr HBL.out.2 HR2.out (by omega) x1 x2 (by omega) (HSC.out.same HP2.out (.inr (Nat.le_refl _))) (HSD.out.same HP2.out (.inr (by omega)))
                    have HCALL3 := Lib.hid hcall; clear hcall
                    go_wp2_with fail
                    refine HCALL3.out.mono ?_
                    rintro e w3 ⟨rfl, n3, hp3, hs3, hrr, hcc⟩
                    have HR3 := Lib.hid hrr; have HC3 := Lib.hid (HC2.out.trans hcc); have HP3 := Lib.hid hp3; have HT3 := Lib.hid hs3
                    clear hrr hcc hp3 hs3 HCALL3
                    have HJ := Lib.hid (merge_join HP1.out HSP.out HP2.out HT2.out HP3.out HT3.out (Nat.le_of_lt hmd1) (Nat.le_of_lt hmd2))
                    go_wp2
                    first | go_end0 | (refine bodyPost_ret (results_none rfl _ _ _) rfl ?_)
                    exact ⟨rfl, n3, HJ.out.1, HJ.out.2, HR3.out, HC3.out⟩
                  · skip
                    have xa : (c : Int) < (en : Int) := by omega
                    have xb : ¬ (en : Int) < (b : Int) := by omega
                    have HM1 := Lib.hid ((Moved.refl its).congr (h := roIx r m en) fun k => (roIx_id (by omega) hr4 hr3 k).symm)
                    have HR1 := Lib.hid HR.out; have HC1 := Lib.hid HC.out
                    obtain ⟨hp1, hsp, hsa, hsb, hsc, hsd⟩ := HDONE.out _ HM1.out
                    have HP1 := Lib.hid hp1; have HSP := Lib.hid hsp; have HSA := Lib.hid hsa; have HSB := Lib.hid hsb; have HSC := Lib.hid hsc; have HSD := Lib.hid hsd
                    clear hp1 hsp hsa hsb hsc hsd
                    have HP2 := Lib.hid (PermOn.refl a c its)
                    have HT2 := Lib.hid (show SortedOn a c its from by
                      have e1 : r = c := by omega
                      rw [e1] at HSA; exact HSA.out)
                    have HR2 := Lib.hid HR1.out; have HC2 := Lib.hid HC1.out
                    have HP3 := Lib.hid (PermOn.refl c b its)
                    have HT3 := Lib.hid (show SortedOn c b its from by
                      have e1 : en = b := by omega
                      have k := HSC.out.same HP2.out (.inr (Nat.le_refl _)); rw [e1] at k; exact k)
                    have HR3 := Lib.hid HR2.out; have HC3 := Lib.hid HC2.out
                    have HJ := Lib.hid (merge_join HP1.out HSP.out HP2.out HT2.out HP3.out HT3.out (Nat.le_of_lt hmd1) (Nat.le_of_lt hmd2))
                    go_wp2
                    first | go_end0 | (refine bodyPost_ret (results_none rfl _ _ _) rfl ?_)
                    exact ⟨rfl, its, HJ.out.1, HJ.out.2, HR3.out, HC3.out⟩
                · skip
                  have xa : ¬ (c : Int) < (en : Int) := by omega
                  have HM1 := Lib.hid ((Moved.refl its).congr (h := roIx r m en) fun k => (roIx_id (by omega) hr4 hr3 k).symm)
                  have HR1 := Lib.hid HR.out; have HC1 := Lib.hid HC.out
                  obtain ⟨hp1, hsp, hsa, hsb, hsc, hsd⟩ := HDONE.out _ HM1.out
                  have HP1 := Lib.hid hp1; have HSP := Lib.hid hsp; have HSA := Lib.hid hsa; have HSB := Lib.hid hsb; have HSC := Lib.hid hsc; have HSD := Lib.hid hsd
                  clear hp1 hsp hsa hsb hsc hsd
                  have HP2 := Lib.hid (PermOn.refl a c its)
                  have HT2 := Lib.hid (show SortedOn a c its from by
                    have e1 : r = c := by omega
                    rw [e1] at HSA; exact HSA.out)
                  have HR2 := Lib.hid HR1.out; have HC2 := Lib.hid HC1.out
                  have HP3 := Lib.hid (PermOn.refl c b its)
                  have HT3 := Lib.hid (show SortedOn c b its from by
                    have e1 : en = c := by omega
                    have k := HSD.out.same HP2.out (.inr (by omega)); rw [e1] at k; exact k)
                  have HR3 := Lib.hid HR2.out; have HC3 := Lib.hid HC2.out
                  have HJ := Lib.hid (merge_join HP1.out HSP.out HP2.out HT2.out HP3.out HT3.out (Nat.le_of_lt hmd1) (Nat.le_of_lt hmd2))
                  go_wp2
                  first | go_end0 | (refine bodyPost_ret (results_none rfl _ _ _) rfl ?_)
                  exact ⟨rfl, its, HJ.out.1, HJ.out.2, HR3.out, HC3.out⟩
            · skip
              have va : ¬ (a : Int) < (r : Int) := by omega
              by_cases x1 : c < en
              · by_cases x2 : en < b
                · skip
                  have xa : (c : Int) < (en : Int) := by omega
                  have xb : (en : Int) < (b : Int) := by omega
                  have HM1 := Lib.hid ((Moved.refl its).congr (h := roIx r m en) fun k => (roIx_id (by omega) hr4 hr3 k).symm)
                  have HR1 := Lib.hid HR.out; have HC1 := Lib.hid HC.out
                  obtain ⟨hp1, hsp, hsa, hsb, hsc, hsd⟩ := HDONE.out _ HM1.out
                  have HP1 := Lib.hid hp1; have HSP := Lib.hid hsp; have HSA := Lib.hid hsa; have HSB := Lib.hid hsb; have HSC := Lib.hid hsc; have HSD := Lib.hid hsd
                  clear hp1 hsp hsa hsb hsc hsd
                  have HP2 := Lib.hid (PermOn.refl a c its)
                  have HT2 := Lib.hid (show SortedOn a c its from by
                    have e1 : r = a := by omega
                    rw [e1] at HSB; exact HSB.out)
                  have HR2 := Lib.hid HR1.out; have HC2 := Lib.hid HC1.out
                  have hcall := HI.out its F g o cap c en b wr HBL.out.2 HR2.out (by omega) x1 x2 (by omega) (HSC.out.same HP2.out (.inr (Nat.le_refl _))) (HSD.out.same HP2.out (.inr (by omega)))
                  have HCALL3 := Lib.hid hcall; clear hcall
                  go_wp2_with fail
                  refine HCALL3.out.mono ?_
                  rintro e w3 ⟨rfl, n3, hp3, hs3, hrr, hcc⟩
                  have HR3 := Lib.hid hrr; have HC3 := Lib.hid (HC2.out.trans hcc); have HP3 := Lib.hid hp3; have HT3 := Lib.hid hs3
                  clear hrr hcc hp3 hs3 HCALL3
                  have HJ := Lib.hid (merge_join HP1.out HSP.out HP2.out HT2.out HP3.out HT3.out (Nat.le_of_lt hmd1) (Nat.le_of_lt hmd2))
                  go_wp2
                  first | go_end0 | (refine bodyPost_ret (results_none rfl _ _ _) rfl ?_)
                  exact ⟨rfl, n3, HJ.out.1, HJ.out.2, HR3.out, HC3.out⟩
                · skip
                  have xa : (c : Int) < (en : Int) := by omega
                  have xb : ¬ (en : Int) < (b : Int) := by omega
                  have HM1 := Lib.hid ((Moved.refl its).congr (h := roIx r m en) fun k => (roIx_id (by omega) hr4 hr3 k).symm)
                  have HR1 := Lib.hid HR.out; have HC1 := Lib.hid HC.out
                  obtain ⟨hp1, hsp, hsa, hsb, hsc, hsd⟩ := HDONE.out _ HM1.out
                  have HP1 := Lib.hid hp1; have HSP := Lib.hid hsp; have HSA := Lib.hid hsa; have HSB := Lib.hid hsb; have HSC := Lib.hid hsc; have HSD := Lib.hid hsd
                  clear hp1 hsp hsa hsb hsc hsd
                  have HP2 := Lib.hid (PermOn.refl a c its)
                  have HT2 := Lib.hid (show SortedOn a c its from by
                    have e1 : r = a := by omega
                    rw [e1] at HSB; exact HSB.out)
                  have HR2 := Lib.hid HR1.out; have HC2 := Lib.hid HC1.out
                  have HP3 := Lib.hid (PermOn.refl c b its)
                  have HT3 := Lib.hid (show SortedOn c b its from by
                    have e1 : en = b := by omega
                    have k := HSC.out.same HP2.out (.inr (Nat.le_refl _)); rw [e1] at k; exact k)
                  have HR3 := Lib.hid HR2.out; have HC3 := Lib.hid HC2.out
                  have HJ := Lib.hid (merge_join HP1.out HSP.out HP2.out HT2.out HP3.out HT3.out (Nat.le_of_lt hmd1) (Nat.le_of_lt hmd2))
                  go_wp2
                  first | go_end0 | (refine bodyPost_ret (results_none rfl _ _ _) rfl ?_)
                  exact ⟨rfl, its, HJ.out.1, HJ.out.2, HR3.out, HC3.out⟩
              · skip
                have xa : ¬ (c : Int) < (en : Int) := by omega
                have HM1 := Lib.hid ((Moved.refl its).congr (h := roIx r m en) fun k => (roIx_id (by omega) hr4 hr3 k).symm)
                have HR1 := Lib.hid HR.out; have HC1 := Lib.hid HC.out
                obtain ⟨hp1, hsp, hsa, hsb, hsc, hsd⟩ := HDONE.out _ HM1.out
                have HP1 := Lib.hid hp1; have HSP := Lib.hid hsp; have HSA := Lib.hid hsa; have HSB := Lib.hid hsb; have HSC := Lib.hid hsc; have HSD := Lib.hid hsd
                clear hp1 hsp hsa hsb hsc hsd
                have HP2 := Lib.hid (PermOn.refl a c its)
                have HT2 := Lib.hid (show SortedOn a c its from by
                  have e1 : r = a := by omega
                  rw [e1] at HSB; exact HSB.out)
                have HR2 := Lib.hid HR1.out; have HC2 := Lib.hid HC1.out
                have HP3 := Lib.hid (PermOn.refl c b its)
                have HT3 := Lib.hid (show SortedOn c b its from by
                  have e1 : en = c := by omega
                  have k := HSD.out.same HP2.out (.inr (by omega)); rw [e1] at k; exact k)
                have HR3 := Lib.hid HR2.out; have HC3 := Lib.hid HC2.out
                have HJ := Lib.hid (merge_join HP1.out HSP.out HP2.out HT2.out HP3.out HT3.out (Nat.le_of_lt hmd1) (Nat.le_of_lt hmd2))
                go_wp2
                first | go_end0 | (refine bodyPost_ret (results_none rfl _ _ _) rfl ?_)
                exact ⟨rfl, its, HJ.out.1, HJ.out.2, HR3.out, HC3.out⟩
        · skip
          have ua : ¬ (r : Int) < (m : Int) := by omega
          by_cases v1 : a < r
          · by_cases v2 : r < c
            · skip
              have va : (a : Int) < (r : Int) := by omega
              have vb : (r : Int) < (c : Int) := by omega
              by_cases x1 : c < en
              · by_cases x2 : en < b
                · skip
                  have xa : (c : Int) < (en : Int) := by omega
                  have xb : (en : Int) < (b : Int) := by omega
                  have HM1 := Lib.hid ((Moved.refl its).congr (h := roIx r m en) fun k => (roIx_id (by omega) hr4 hr3 k).symm)
                  have HR1 := Lib.hid HR.out; have HC1 := Lib.hid HC.out
                  obtain ⟨hp1, hsp, hsa, hsb, hsc, hsd⟩ := HDONE.out _ HM1.out
                  have HP1 := Lib.hid hp1; have HSP := Lib.hid hsp; have HSA := Lib.hid hsa; have HSB := Lib.hid hsb; have HSC := Lib.hid hsc; have HSD := Lib.hid hsd
                  clear hp1 hsp hsa hsb hsc hsd
                  have hcall := HI.out its F g o cap a r c wr HBL.out.1 HR1.out (by omega) v1 v2 (by omega) HSA.out HSB.out
                  have HCALL2 := Lib.hid hcall; clear hcall
                  go_wp2_with fail
                  refine HCALL2.out.mono ?_
                  rintro e w2 ⟨rfl, n2, hp2, hs2, hrr, hcc⟩
                  have HR2 := Lib.hid hrr; have HC2 := Lib.hid (HC1.out.trans hcc); have HP2 := Lib.hid hp2; have HT2 := Lib.hid hs2; have hln2 : n2.length = its.length := hp2.len
                  clear hrr hcc hp2 hs2 HCALL2
                  have hcall := HI.out n2 F g o cap c en b w2 HBL.out.2 HR2.out (by omega) x1 x2 (by omega) (HSC.out.same HP2.out (.inr (Nat.le_refl _))) (HSD.out.same HP2.out (.inr (by omega)))
                  rw [hln2] at hcall
                  have HCALL3 := Lib.hid hcall; clear hcall
                  go_wp2_with fail
                  refine HCALL3.out.mono ?_
                  rintro e w3 ⟨rfl, n3, hp3, hs3, hrr, hcc⟩
                  have HR3 := Lib.hid hrr; have HC3 := Lib.hid (HC2.out.trans hcc); have HP3 := Lib.hid hp3; have HT3 := Lib.hid hs3
                  clear hrr hcc hp3 hs3 HCALL3
                  have HJ := Lib.hid (merge_join HP1.out HSP.out HP2.out HT2.out HP3.out HT3.out (Nat.le_of_lt hmd1) (Nat.le_of_lt hmd2))
                  go_wp2
                  first | go_end0 | (refine bodyPost_ret (results_none rfl _ _ _) rfl ?_)
                  exact ⟨rfl, n3, HJ.out.1, HJ.out.2, HR3.out, HC3.out⟩
                · skip
                  have xa : (c : Int) < (en : Int) := by omega
                  have xb : ¬ (en : Int) < (b : Int) := by omega
                  have HM1 := Lib.hid ((Moved.refl its).congr (h := roIx r m en) fun k => (roIx_id (by omega) hr4 hr3 k).symm)
                  have HR1 := Lib.hid HR.out; have HC1 := Lib.hid HC.out
                  obtain ⟨hp1, hsp, hsa, hsb, hsc, hsd⟩ := HDONE.out _ HM1.out
                  have HP1 := Lib.hid hp1; have HSP := Lib.hid hsp; have HSA := Lib.hid hsa; have HSB := Lib.hid hsb; have HSC := Lib.hid hsc; have HSD := Lib.hid hsd
                  clear hp1 hsp hsa hsb hsc hsd
                  have hcall := HI.out its F g o cap a r c wr HBL.out.1 HR1.out (by omega) v1 v2 (by omega) HSA.out HSB.out
                  have HCALL2 := Lib.hid hcall; clear hcall
                  go_wp2_with fail
                  refine HCALL2.out.mono ?_
                  rintro e w2 ⟨rfl, n2, hp2, hs2, hrr, hcc⟩
                  have HR2 := Lib.hid hrr; have HC2 := Lib.hid (HC1.out.trans hcc); have HP2 := Lib.hid hp2; have HT2 := Lib.hid hs2; have hln2 : n2.length = its.length := hp2.len
                  clear hrr hcc hp2 hs2 HCALL2
                  have HP3 := Lib.hid (PermOn.refl c b n2)
                  have HT3 := Lib.hid (show SortedOn c b n2 from by
                    have e1 : en = b := by omega
                    have k := HSC.out.same HP2.out (.inr (Nat.le_refl _)); rw [e1] at k; exact k)
                  have HR3 := Lib.hid HR2.out; have HC3 := Lib.hid HC2.out
                  have HJ := Lib.hid (merge_join HP1.out HSP.out HP2.out HT2.out HP3.out HT3.out (Nat.le_of_lt hmd1) (Nat.le_of_lt hmd2))
                  go_wp2
                  first | go_end0 | (refine bodyPost_ret (results_none rfl _ _ _) rfl ?_)
                  exact ⟨rfl, n2, HJ.out.1, HJ.out.2, HR3.out, HC3.out⟩
              · skip
                have xa : ¬ (c : Int) < (en : Int) := by omega
                have HM1 := Lib.hid ((Moved.refl its).congr (h := roIx r m en) fun k => (roIx_id (by omega) hr4 hr3 k).symm)
                have HR1 := Lib.hid HR.out; have HC1 := Lib.hid HC.out
                obtain ⟨hp1, hsp, hsa, hsb, hsc, hsd⟩ := HDONE.out _ HM1.out
                have HP1 := Lib.hid hp1; have HSP := Lib.hid hsp; have HSA := Lib.hid hsa; have HSB := Lib.hid hsb; have HSC := Lib.hid hsc; have HSD := Lib.hid hsd
                clear hp1 hsp hsa hsb hsc hsd
                have hcall := HI.out its F g o cap a r c wr HBL.out.1 HR1.out (by omega) v1 v2 (by omega) HSA.out HSB.out
                have HCALL2 := Lib.hid hcall; clear hcall
                go_wp2_with fail
                refine HCALL2.out.mono ?_
                rintro e w2 ⟨rfl, n2, hp2, hs2, hrr, hcc⟩
                have HR2 := Lib.hid hrr; have HC2 := Lib.hid (HC1.out.trans hcc); have HP2 := Lib.hid hp2; have HT2 := Lib.hid hs2; have hln2 : n2.length = its.length := hp2.len
                clear hrr hcc hp2 hs2 HCALL2
                have HP3 := Lib.hid (PermOn.refl c b n2)
                have HT3 := Lib.hid (show SortedOn c b n2 from by
                  have e1 : en = c := by omega
                  have k := HSD.out.same HP2.out (.inr (by omega)); rw [e1] at k; exact k)
                have HR3 := Lib.hid HR2.out; have HC3 := Lib.hid HC2.out
                have HJ := Lib.hid (merge_join HP1.out HSP.out HP2.out HT2.out HP3.out HT3.out (Nat.le_of_lt hmd1) (Nat.le_of_lt hmd2))
                go_wp2
                first | go_end0 | (refine bodyPost_ret (results_none rfl _ _ _) rfl ?_)
                exact ⟨rfl, n2, HJ.out.1, HJ.out.2, HR3.out, HC3.out⟩
            · skip
              have va : (a : Int) < (r : Int) := by omega
              have vb : ¬ (r : Int) < (c : Int) := by omega
              by_cases x1 : c < en
              · by_cases x2 : en < b
                · skip
                  have xa : (c : Int) < (en : Int) := by omega
                  have xb : (en : Int) < (b : Int) := by omega
                  have HM1 := Lib.hid ((Moved.refl its).congr (h := roIx r m en) fun k => (roIx_id (by omega) hr4 hr3 k).symm)
                  have HR1 := Lib.hid HR.out; have HC1 := Lib.hid HC.out
                  obtain ⟨hp1, hsp, hsa, hsb, hsc, hsd⟩ := HDONE.out _ HM1.out
                  have HP1 := Lib.hid hp1; have HSP := Lib.hid hsp; have HSA := Lib.hid hsa; have HSB := Lib.hid hsb; have HSC := Lib.hid hsc; have HSD := Lib.hid hsd
                  clear hp1 hsp hsa hsb hsc hsd
                  have HP2 := Lib.hid (PermOn.refl a c its)
                  have HT2 := Lib.hid (show SortedOn a c its from by
                    have e1 : r = c := by omega
                    rw [e1] at HSA; exact HSA.out)
                  have HR2 := Lib.hid HR1.out; have HC2 := Lib.hid HC1.out
                  have hcall := HI.out its F g o cap c en b wr HBL.out.2 HR2.out (by omega) x1 x2 (by omega) (HSC.out.same HP2.out (.inr (Nat.le_refl _))) (HSD.out.same HP2.out (.inr (by omega)))
                  have HCALL3 := Lib.hid hcall; clear hcall
                  go_wp2_with fail
                  refine HCALL3.out.mono ?_
                  rintro e w3 ⟨rfl, n3, hp3, hs3, hrr, hcc⟩
                  have HR3 := Lib.hid hrr; have HC3 := Lib.hid (HC2.out.trans hcc); have HP3 := Lib.hid hp3; have HT3 := Lib.hid hs3
                  clear hrr hcc hp3 hs3 HCALL3
                  have HJ := Lib.hid (merge_join HP1.out HSP.out HP2.out HT2.out HP3.out HT3.out (Nat.le_of_lt hmd1) (Nat.le_of_lt hmd2))
                  go_wp2
                  first | go_end0 | (refine bodyPost_ret (results_none rfl _ _ _) rfl ?_)
                  exact ⟨rfl, n3, HJ.out.1, HJ.out.2, HR3.out, HC3.out⟩
                · skip
                  have xa : (c : Int) < (en : Int) := by omega
                  have xb : ¬ (en : Int) < (b : Int) := by omega
                  have HM1 := Lib.hid ((Moved.refl its).congr (h := roIx r m en) fun k => (roIx_id (by omega) hr4 hr3 k).symm)
                  have HR1 := Lib.hid HR.out; have HC1 := Lib.hid HC.out
                  obtain ⟨hp1, hsp, hsa, hsb, hsc, hsd⟩ := HDONE.out _ HM1.out
                  have HP1 := Lib.hid hp1; have HSP := Lib.hid hsp; have HSA := Lib.hid hsa; have HSB := Lib.hid hsb; have HSC := Lib.hid hsc; have HSD := Lib.hid hsd
                  clear hp1 hsp hsa hsb hsc hsd
                  have HP2 := Lib.hid (PermOn.refl a c its)
                  have HT2 := Lib.hid (show SortedOn a c its from by
                    have e1 : r = c := by omega
                    rw [e1] at HSA; exact HSA.out)
                  have HR2 := Lib.hid HR1.out; have HC2 := Lib.hid HC1.out
                  have HP3 := Lib.hid (PermOn.refl c b its)
                  have HT3 := Lib.hid (show SortedOn c b its from by
                    have e1 : en = b := by omega
                    have k := HSC.out.same HP2.out (.inr (Nat.le_refl _)); rw [e1] at k; exact k)
                  have HR3 := Lib.hid HR2.out; have HC3 := Lib.hid HC2.out
                  have HJ := Lib.hid (merge_join HP1.out HSP.out HP2.out HT2.out HP3.out HT3.out (Nat.le_of_lt hmd1) (Nat.le_of_lt hmd2))
                  go_wp2
                  first | go_end0 | (refine bodyPost_ret (results_none rfl _ _ _) rfl ?_)
                  exact ⟨rfl, its, HJ.out.1, HJ.out.2, HR3.out, HC3.out⟩
              · skip
                have xa : ¬ (c : Int) < (en : Int) := by omega
                have HM1 := Lib.hid ((Moved.refl its).congr (h := roIx r m en) fun k => (roIx_id (by omega) hr4 hr3 k).symm)
                have HR1 := Lib.hid HR.out; have HC1 := Lib.hid HC.out
                obtain ⟨hp1, hsp, hsa, hsb, hsc, hsd⟩ := HDONE.out _ HM1.out
                have HP1 := Lib.hid hp1; have HSP := Lib.hid hsp; have HSA := Lib.hid hsa; have HSB := Lib.hid hsb; have HSC := Lib.hid hsc; have HSD := Lib.hid hsd
                clear hp1 hsp hsa hsb hsc hsd
                have HP2 := Lib.hid (PermOn.refl a c its)
                have HT2 := Lib.hid (show SortedOn a c its from by
                  have e1 : r = c := by omega
                  rw [e1] at HSA; exact HSA.out)
                have HR2 := Lib.hid HR1.out; have HC2 := Lib.hid HC1.out
                have HP3 := Lib.hid (PermOn.refl c b its)
                have HT3 := Lib.hid (show SortedOn c b its from by
                  have e1 : en = c := by omega
                  have k := HSD.out.same HP2.out (.inr (by omega)); rw [e1] at k; exact k)
                have HR3 := Lib.hid HR2.out; have HC3 := Lib.hid HC2.out
                have HJ := Lib.hid (merge_join HP1.out HSP.out HP2.out HT2.out HP3.out HT3.out (Nat.le_of_lt hmd1) (Nat.le_of_lt hmd2))
                go_wp2
                first | go_end0 | (refine bodyPost_ret (results_none rfl _ _ _) rfl ?_)
                exact ⟨rfl, its, HJ.out.1, HJ.out.2, HR3.out, HC3.out⟩
          · skip
            have va : ¬ (a : Int) < (r : Int) := by omega
            by_cases x1 : c < en
            · by_cases x2 : en < b
              · skip
                have xa : (c : Int) < (en : Int) := by omega
                have xb : (en : Int) < (b : Int) := by omega
                have HM1 := Lib.hid ((Moved.refl its).congr (h := roIx r m en) fun k => (roIx_id (by omega) hr4 hr3 k).symm)
                have HR1 := Lib.hid HR.out; have HC1 := Lib.hid HC.out
                obtain ⟨hp1, hsp, hsa, hsb, hsc, hsd⟩ := HDONE.out _ HM1.out
                have HP1 := Lib.hid hp1; have HSP := Lib.hid hsp; have HSA := Lib.hid hsa; have HSB := Lib.hid hsb; have HSC := Lib.hid hsc; have HSD := Lib.hid hsd
                clear hp1 hsp hsa hsb hsc hsd
                have HP2 := Lib.hid (PermOn.refl a c its)
                have HT2 := Lib.hid (show SortedOn a c its from by
                  have e1 : r = a := by omega
                  rw [e1] at HSB; exact HSB.out)
                have HR2 := Lib.hid HR1.out; have HC2 := Lib.hid HC1.out
                have hcall := HI.out its F g o cap c en b wr HBL.out.2 HR2.out (by omega) x1 x2 (by omega) (HSC.out.same HP2.out (.inr (Nat.le_refl _))) (HSD.out.same HP2.out (.inr (by omega)))
                have HCALL3 := Lib.hid hcall; clear hcall
                go_wp2_with fail
                refine HCALL3.out.mono ?_
                rintro e w3 ⟨rfl, n3, hp3, hs3, hrr, hcc⟩
                have HR3 := Lib.hid hrr; have HC3 := Lib.hid (HC2.out.trans hcc); have HP3 := Lib.hid hp3; have HT3 := Lib.hid hs3
                clear hrr hcc hp3 hs3 HCALL3
                have HJ := Lib.hid (merge_join HP1.out HSP.out HP2.out HT2.out HP3.out HT3.out (Nat.le_of_lt hmd1) (Nat.le_of_lt hmd2))
                go_wp2
                first | go_end0 | (refine bodyPost_ret (results_none rfl _ _ _) rfl ?_)
                exact ⟨rfl, n3, HJ.out.1, HJ.out.2, HR3.out, HC3.out⟩
              · skip
                have xa : (c : Int) < (en : Int) := by omega
                have xb : ¬ (en : Int) < (b : Int) := by omega
                have HM1 := Lib.hid ((Moved.refl its).congr (h := roIx r m en) fun k => (roIx_id (by omega) hr4 hr3 k).symm)
                have HR1 := Lib.hid HR.out; have HC1 := Lib.hid HC.out
                obtain ⟨hp1, hsp, hsa, hsb, hsc, hsd⟩ := HDONE.out _ HM1.out
                have HP1 := Lib.hid hp1; have HSP := Lib.hid hsp; have HSA := Lib.hid hsa; have HSB := Lib.hid hsb; have HSC := Lib.hid hsc; have HSD := Lib.hid hsd
                clear hp1 hsp hsa hsb hsc hsd
                have HP2 := Lib.hid (PermOn.refl a c its)
                have HT2 := Lib.hid (show SortedOn a c its from by
                  have e1 : r = a := by omega
                  rw [e1] at HSB; exact HSB.out)
                have HR2 := Lib.hid HR1.out; have HC2 := Lib.hid HC1.out
                have HP3 := Lib.hid (PermOn.refl c b its)
                have HT3 := Lib.hid (show SortedOn c b its from by
                  have e1 : en = b := by omega
                  have k := HSC.out.same HP2.out (.inr (Nat.le_refl _)); rw [e1] at k; exact k)
                have HR3 := Lib.hid HR2.out; have HC3 := Lib.hid HC2.out
                have HJ := Lib.hid (merge_join HP1.out HSP.out HP2.out HT2.out HP3.out HT3.out (Nat.le_of_lt hmd1) (Nat.le_of_lt hmd2))
                go_wp2
                first | go_end0 | (refine bodyPost_ret (results_none rfl _ _ _) rfl ?_)
                exact ⟨rfl, its, HJ.out.1, HJ.out.2, HR3.out, HC3.out⟩
            · skip
              have xa : ¬ (c : Int) < (en : Int) := by omega
              have HM1 := Lib.hid ((Moved.refl its).congr (h := roIx r m en) fun k => (roIx_id (by omega) hr4 hr3 k).symm)
              have HR1 := Lib.hid HR.out; have HC1 := Lib.hid HC.out
              obtain ⟨hp1, hsp, hsa, hsb, hsc, hsd⟩ := HDONE.out _ HM1.out
              have HP1 := Lib.hid hp1; have HSP := Lib.hid hsp; have HSA := Lib.hid hsa; have HSB := Lib.hid hsb; have HSC := Lib.hid hsc; have HSD := Lib.hid hsd
              clear hp1 hsp hsa hsb hsc hsd
              have HP2 := Lib.hid (PermOn.refl a c its)
              have HT2 := Lib.hid (show SortedOn a c its from by
                have e1 : r = a := by omega
                rw [e1] at HSB; exact HSB.out)
              have HR2 := Lib.hid HR1.out; have HC2 := Lib.hid HC1.out
              have HP3 := Lib.hid (PermOn.refl c b its)
              have HT3 := Lib.hid (show SortedOn c b its from by
                have e1 : en = c := by omega
                have k := HSD.out.same HP2.out (.inr (by omega)); rw [e1] at k; exact k)
              have HR3 := Lib.hid HR2.out; have HC3 := Lib.hid HC2.out
              have HJ := Lib.hid (merge_join HP1.out HSP.out HP2.out HT2.out HP3.out HT3.out (Nat.le_of_lt hmd1) (Nat.le_of_lt hmd2))
              go_wp2
              first | go_end0 | (refine bodyPost_ret (results_none rfl _ _ _) rfl ?_)
              exact ⟨rfl, its, HJ.out.1, HJ.out.2, HR3.out, HC3.out⟩
end
section
theorem symMerge_full : ∀ n, MergeAll n
  | 0 => fun its F g o cap a m b w hn _ _ ham hmb => by omega
  | n + 1 => fun its F g o cap a m b w hn h hl ham hmb hb h1 h2 => by
    by_cases e1 : m = a + 1
    · exact merge_up its F g o cap a m b w h hl e1 hmb hb h2
    · by_cases e2 : b = m + 1
      · exact merge_dn its F g o cap a m b w h hl (by omega) e2 hb h1
      · exact merge_mid n (symMerge_full n) its F g o cap a m b w hn h hl (by omega) (by omega) hb h1 h2
end
section
/-- the whole runs of t items below c are in order -/
def RunD (t c : Nat) (l : List It) : Prop := ∀ i, i * t + t ≤ c → SortedOn (i * t) (i * t + t) l
/-- the runs of t items from c on are in order -/
def RunR (t c n : Nat) (l : List It) : Prop := ∀ i, c ≤ i * t → SortedOn (i * t) (min (i * t + t) n) l
theorem SortedOn.mono {a b a' b' : Nat} {l : List It} (h : SortedOn a b l) (ha : a ≤ a') (hb : b' ≤ b) : SortedOn a' b' l :=
  fun i j x y h1 h2 h3 => h i j x y (by omega) h2 (by omega)
theorem RunD.zero {t : Nat} (ht : 0 < t) (l : List It) : RunD t 0 l := fun i h => absurd h (by omega)
theorem RunD.end {t c n q : Nat} {l : List It} (hq : c = q * t) (hd : RunD t c l) (hs : SortedOn c n l) : RunR t 0 n l := by
  intro i _
  by_cases h : i * t + t ≤ c
  · exact (hd i h).mono (Nat.le_refl _) (Nat.min_le_left _ _)
  · have hqi : q ≤ i := by
      refine Nat.le_of_not_lt fun hlt => h ?_
      have := Nat.mul_le_mul_right t (show i + 1 ≤ q from hlt)
      rw [Nat.add_mul, Nat.one_mul] at this
      omega
    have := Nat.mul_le_mul_right t hqi
    exact hs.mono (by omega) (Nat.min_le_right _ _)
theorem RunD.next {t c q : Nat} {l m : List It} (hq : c = q * t) (hd : RunD t c l) (hp : PermOn c (c + t) l m) (hs : SortedOn c (c + t) m) : RunD t (c + t) m := by
  intro i hi
  by_cases h : i * t + t ≤ c
  · exact (hd i h).same hp (.inl h)
  · have hqi : q ≤ i := by
      refine Nat.le_of_not_lt fun hlt => h ?_
      have := Nat.mul_le_mul_right t (show i + 1 ≤ q from hlt)
      rw [Nat.add_mul, Nat.one_mul] at this
      omega
    have h1 := Nat.mul_le_mul_right t hqi
    exact hs.mono (by omega) (by omega)
theorem RunD.past {t c n : Nat} {l m : List It} (hd : RunD t c l) (hp : PermOn c n l m) : RunD t c m := fun i hi => (hd i hi).same hp (.inl hi)
theorem RunR.past {t c d n : Nat} {l m : List It} (hd : RunR t c n l) (hp : PermOn c d l m) (hcd : c ≤ d) : RunR t d n m := fun i hi => (hd i (by omega)).same hp (.inr hi)
theorem mul2 (q s : Nat) : q * (2 * s) = 2 * q * s ∧ q * (2 * s) + s = (2 * q + 1) * s := by
  constructor
  · rw [Nat.mul_comm 2 q, Nat.mul_assoc]
  · rw [Nat.add_mul, Nat.one_mul, Nat.mul_comm 2 q, Nat.mul_assoc]
theorem RunR.two {s c n q : Nat} {l : List It} (h : RunR s c n l) (hq : c = q * (2 * s)) : SortedOn c (min (c + s) n) l ∧ SortedOn (c + s) (min (c + 2 * s) n) l := by
  obtain ⟨e1, e2⟩ := mul2 q s
  constructor
  · have := h (2 * q) (by omega)
    rwa [← e1, ← hq] at this
  · have := h (2 * q + 1) (by omega)
    rwa [← e2, ← hq, show c + s + s = c + 2 * s by omega] at this
open Go Go.RowKit
set_option maxHeartbeats 4000000
set_option maxRecDepth 100000
theorem stable_full (its : List It) (F : Blk) (g o cap : Nat) (w : World) (h : RowI w F g o its) (hl : its.length ≤ 2 ^ 30) :
    Calls Tryz.prog 187 #[.slice (some ⟨g, o, none⟩) its.length cap, .int .i64 its.length, byF] w fun e w' => e = .returned (.tuple #[]) ∧ ∃ its', PermOn 0 its.length its its' ∧ SortedOn 0 its.length its' ∧ RowI w' F g o its' ∧ Chg (fun b => b = g) w w' := by
  have HH := Lib.hid h; clear h
  obtain ⟨n, hn⟩ : ∃ n, its.length = n := ⟨_, rfl⟩
  rw [hn] at hl ⊢
  go_enter Tryz.func187, Tryz.ntmps187
  go_wp2_with fail
  go_loopw [7, 8] (fun i k wr => ∃ (a q : Nat) (m : List It), a ≤ n ∧ a = q * 20 ∧ i = .int .i64 a ∧ k = .int .i64 (a + 20 : Nat) ∧ PermOn 0 n its m ∧ RunD 20 a m ∧ RowI wr F g o m ∧ Chg (fun b => b = g) w wr) (fun _ k _ => n + 20 - (intOf k).toNat)
  case atStart => exact ⟨0, 0, its, Nat.zero_le _, rfl, rfl, rfl, PermOn.refl _ _ _, RunD.zero (by decide) _, HH.out, Chg.refl _ _⟩
  case round =>
    clear HH
    obtain ⟨a, q, m, ha, hq, rfl, rfl, hp, hd, hr, hc⟩ := hrel
    have hlm := hp.len
    rw [hn] at hlm
    have HP := Lib.hid hp; have HD := Lib.hid hd; have HR := Lib.hid hr; have HC := Lib.hid hc; have HQ := Lib.hid hq
    clear hp hd hr hc hq
    by_cases hlt : a + 20 ≤ n
    · have i1 : ((a + 20 : Nat) : Int) ≤ (n : Int) := by omega
      have hI := insertion_full m F g o cap a (a + 20) wr HR.out (by omega) (by omega) (by omega)
      rw [hlm] at hI
      have HIN := Lib.hid hI; clear hI hlm
      go_wp2_with fail
      refine HIN.out.mono ?_
      rintro e w2 ⟨rfl, m2, hp2, hs2, hr2, hc2⟩
      have HP2 := Lib.hid (HP.out.trans (hp2.mono (Nat.zero_le _) hlt))
      have HD2 := Lib.hid (HD.out.next HQ.out hp2 hs2)
      have HR2 := Lib.hid hr2; have HC2 := Lib.hid (HC.out.trans hc2)
      clear hp2 hs2 hr2 hc2
      go_wp2
      go_roundw
      case rel => exact ⟨a + 20, q + 1, m2, hlt, by have := HQ.out; omega, rfl, by go_num, HP2.out, HD2.out, HR2.out, HC2.out⟩
      case measure => simp [intOf]; omega
    · have i1 : ¬ ((a + 20 : Nat) : Int) ≤ (n : Int) := by omega
      have hI := insertion_full m F g o cap a n wr HR.out (by omega) ha (by omega)
      rw [hlm] at hI
      have HIN := Lib.hid hI; clear hI hlm
      go_wp2_with fail
      refine HIN.out.mono ?_
      rintro e w2 ⟨rfl, m2, hp2, hs2, hr2, hc2⟩
      have HP2 := Lib.hid (HP.out.trans (hp2.mono (Nat.zero_le _) (Nat.le_refl _)))
      have HRR := Lib.hid (RunD.end HQ.out (HD.out.past hp2) hs2)
      have HR2 := Lib.hid hr2; have HC2 := Lib.hid (HC.out.trans hc2)
      clear hp2 hs2 hr2 hc2 i1 hlt HP HD HR HC HQ HIN
      go_wp2_with fail
      go_loopw [6] (fun k wr => ∃ (s : Nat) (m : List It), 20 ≤ s ∧ s ≤ 2 ^ 47 ∧ k = .int .i64 s ∧ PermOn 0 n its m ∧ RunR s 0 n m ∧ RowI wr F g o m ∧ Chg (fun b => b = g) w wr) (fun k _ => n - (intOf k).toNat)
      case atStart => exact ⟨20, m2, Nat.le_refl _, by omega, rfl, HP2.out, HRR.out, HR2.out, HC2.out⟩
      case round =>
        clear HP2 HRR HR2 HC2
        obtain ⟨s, m3, hs1, hs2, rfl, hp, hd, hr, hc⟩ := hrel
        have HP := Lib.hid hp; have HD := Lib.hid hd; have HR := Lib.hid hr; have HC := Lib.hid hc
        clear hp hd hr hc
        by_cases hsl : s < n
        · have i1 : (s : Int) < (n : Int) := by omega
          obtain ⟨wo, hwo⟩ : ∃ wo : World, wo = wr := ⟨_, rfl⟩
          subst hwo
          go_wp2_with fail
          go_loopw [7, 8] (fun i k wr => ∃ (c q : Nat) (m : List It), c ≤ n ∧ c = q * (2 * s) ∧ i = .int .i64 c ∧ k = .int .i64 (c + 2 * s : Nat) ∧ PermOn 0 n its m ∧ RunD (2 * s) c m ∧ RunR s c n m ∧ RowI wr F g o m ∧ Chg (fun b => b = g) w wr) (fun _ k _ => n + 2 * s - (intOf k).toNat)
          case atStart => exact ⟨0, 0, m3, Nat.zero_le _, by rw [Nat.zero_mul], rfl, by go_num, HP.out, RunD.zero (by omega) _, HD.out, HR.out, HC.out⟩
          case round =>
            clear HP HD HR HC
            obtain ⟨c, q, m, hc, hq, rfl, rfl, hp, hd, hrr, hr, hcc⟩ := hrel
            have hlm := hp.len
            rw [hn] at hlm
            obtain ⟨t1, t2⟩ := hrr.two hq
            have HP := Lib.hid hp; have HD := Lib.hid hd; have HRR := Lib.hid hrr; have HR := Lib.hid hr; have HC := Lib.hid hcc; have HQ := Lib.hid hq
            have HT1 := Lib.hid t1; have HT2 := Lib.hid t2
            clear hp hd hrr hr hcc hq t1 t2
            have e1 : (c : Int) + (s : Int) = ((c + s : Nat) : Int) := by omega
            have HE1 := Lib.hid e1; clear e1
            by_cases hcl : c + 2 * s ≤ n
            · have i2 : ((c + 2 * s : Nat) : Int) ≤ (n : Int) := by omega
              have hI := symMerge_full m.length m F g o cap c (c + s) (c + 2 * s) wr (by omega) HR.out (by omega) (by omega) (by omega) (by omega) (HT1.out.mono (Nat.le_refl _) (by omega)) (HT2.out.mono (Nat.le_refl _) (by omega))
              rw [hlm] at hI
              have HIN := Lib.hid hI; clear hI hlm
              go_wp2_with fail
              rw [HE1.out]
              refine HIN.out.mono ?_
              rintro e w2 ⟨rfl, m2, hp2, hs2, hr2, hc2⟩
              have HP2 := Lib.hid (HP.out.trans (hp2.mono (Nat.zero_le _) hcl))
              have HD2 := Lib.hid (HD.out.next HQ.out hp2 hs2)
              have HRR2 := Lib.hid (HRR.out.past hp2 (by omega))
              have HR2 := Lib.hid hr2; have HC2 := Lib.hid (HC.out.trans hc2)
              have HQ2 := Lib.hid (show c + 2 * s = (q + 1) * (2 * s) by rw [Nat.add_mul, Nat.one_mul, ← HQ.out])
              clear hp2 hs2 hr2 hc2
              go_wp2
              go_roundw
              case rel => exact ⟨c + 2 * s, q + 1, m2, hcl, HQ2.out, rfl, by go_num, HP2.out, HD2.out, HRR2.out, HR2.out, HC2.out⟩
              case measure => simp [intOf]; omega
            · have i2 : ¬ ((c + 2 * s : Nat) : Int) ≤ (n : Int) := by omega
              by_cases hm : c + s < n
              · have i3 : (c : Int) + (s : Int) < (n : Int) := by omega
                have hI := symMerge_full m.length m F g o cap c (c + s) n wr (by omega) HR.out (by omega) (by omega) hm (by omega) (HT1.out.mono (Nat.le_refl _) (by omega)) (HT2.out.mono (Nat.le_refl _) (by omega))
                rw [hlm] at hI
                have HIN := Lib.hid hI; clear hI hlm
                go_wp2_with fail
                rw [HE1.out]
                refine HIN.out.mono ?_
                rintro e w2 ⟨rfl, m2, hp2, hs2, hr2, hc2⟩
                have HP2 := Lib.hid (HP.out.trans (hp2.mono (Nat.zero_le _) (Nat.le_refl _)))
                have HRR2 := Lib.hid (RunD.end HQ.out (HD.out.past hp2) hs2)
                have HR2 := Lib.hid hr2; have HC2 := Lib.hid (HC.out.trans hc2)
                clear hp2 hs2 hr2 hc2 i2 i3
                go_wp2
                go_roundw
                case rel => exact ⟨2 * s, m2, by omega, by omega, by go_num, HP2.out, HRR2.out, HR2.out, HC2.out⟩
                case measure => simp [intOf]; omega
              · have i3 : ¬ (c : Int) + (s : Int) < (n : Int) := by omega
                have HRR2 := Lib.hid (RunD.end (n := n) HQ.out HD.out (HT1.out.mono (Nat.le_refl _) (by omega)))
                go_wp2
                go_roundw
                case rel => exact ⟨2 * s, m, by omega, by omega, by go_num, HP.out, HRR2.out, HR.out, HC.out⟩
                case measure => simp [intOf]; omega
        · have i1 : ¬ (s : Int) < (n : Int) := by omega
          have HS := Lib.hid (show SortedOn 0 n m3 by have := HD.out 0 (by omega); rw [Nat.zero_mul, Nat.zero_add] at this; exact this.mono (Nat.le_refl _) (by omega))
          go_wp2
          go_end0
          exact ⟨rfl, m3, HP.out, HS.out, HR.out, HC.out⟩
/-- in order, with room for entries of one outline -/
def P.le (a b : P.Ent) : Prop := P.cmp a.1 b.1 ≤ 0
theorem sorted_pair {its : List It} (h : SortedOn 0 its.length its) : (its.map (·.e)).Pairwise P.le := by
  rw [List.pairwise_map, List.pairwise_iff_getElem]
  intro i j hi hj hij
  exact h i j _ _ (Nat.zero_le _) hij hj (List.getElem?_eq_getElem hi) (List.getElem?_eq_getElem hj)
/-- what a sort leaves -/
def SortPost (F : Blk) (u : Value) (l : P.Dic) (w : World) (e : Ending) (w' : World) : Prop :=
  e = .returned (.tuple #[]) ∧ ∃ m : P.Dic, m.Perm l ∧ m.Pairwise P.le ∧ Ents w' F u m ∧ Chg F w w'
theorem sortStable_full (u : Value) (l : P.Dic) (F : Blk) (w : World) (hu : Ents w F u l) :
    Calls Tryz.prog 152 #[u, byF] w (SortPost F u l w) := by
  by_cases hne : l = []
  · subst hne
    refine (sortStable_up u [] w hu.read (by intro i j hj; simp at hj)).mono ?_
    rintro e w2 ⟨rfl, hb⟩
    exact ⟨rfl, [], List.Perm.refl _, List.Pairwise.nil, hu.below entE_ok hb, Below.chg hb F⟩
  · obtain ⟨ad, cap, rfl, hl, hcp, hrow0⟩ := hu
    obtain ⟨g, o, G, C, rfl, hrow⟩ := hrow0.resolve_left hne
    clear hrow0
    obtain ⟨its, rfl, hr⟩ := RowI.of hrow
    have hFg := Lib.hid hrow.own
    rw [List.length_map] at hl hcp ⊢
    have HR := Lib.hid hr; have HCP := Lib.hid hcp
    clear hrow hr hcp
    go_enter Tryz.func152, Tryz.ntmps152
    go_wp2_with fail
    refine (stable_full its F g o cap _ HR.out hl).mono ?_
    rintro e w2 ⟨rfl, m, hp, hs, hr, hc⟩
    have HP := Lib.hid hp; have HS := Lib.hid hs; have HR2 := Lib.hid hr; have HC := Lib.hid hc
    clear hp hs hr hc HR
    go_wp2
    go_end0
    have hlen := HP.out.len
    obtain ⟨G', C', hrow'⟩ := HR2.out.to
    refine ⟨rfl, m.map (·.e), HP.out.perm.map _, sorted_pair (by rw [hlen]; exact HS.out), ⟨_, cap, by rw [List.length_map, hlen], by rw [List.length_map, hlen]; exact hl, ⟨by rintro ⟨⟩, by rw [List.length_map, hlen]; exact HCP.out.2⟩, .inr ⟨g, o, G', C', rfl, hrow'⟩⟩, HC.out.mono fun b _ hb => by subst hb; exact hFg.out⟩
end
section
open Go Go.RowKit
set_option maxHeartbeats 2000000
set_option maxRecDepth 100000
/-- a dictionary of the same entries, in order -/
def SortedPost (l : P.Dic) (w : World) (e : Ending) (w' : World) : Prop := ∃ m : P.Dic, m.Perm l ∧ m.Pairwise P.le ∧ DicPost m w e w'
theorem dictionaryOf_full (u : Value) (l : P.Dic) (w : World) (hu : EntR w u l) (hl : l.length ≤ 2 ^ 20) (hle : ∀ e ∈ l, e.1.length ≤ 2 ^ 20) :
    Calls Tryz.prog 97 #[u] w (SortedPost l w) := by
  obtain ⟨i0, hi, hz0, hz1, hz2⟩ := info_parts info_ent
  have HU := Lib.hid hu
  have HLE := Lib.hid hle; clear hle
  have hB0 : Below w.heap.size w ((w.alloc (.cells #[.slice none 0 0] 32)).alloc (.cells #[] 36)) := ((Below.refl w.heap.size w).alloc (Nat.le_refl _) _).alloc (by simp) _
  have HB0 := Lib.hid hB0; clear hB0
  have HA0 := Lib.hid (show Acc 36 2 entE (w.heap.size + 1) ((w.alloc (.cells #[.slice none 0 0] 32)).alloc (.cells #[] 36)) (.slice (some ⟨w.heap.size + 1, 0, none⟩) 0 0) [] [] from
    Acc.nil (by have h := World.ownsRow_lit (base := w.heap.size + 1) (e := 36) (size := 2) (w.alloc (.cells #[.slice none 0 0] 32)) #[] 0 (by simp) (Nat.zero_le _) (by simp); simpa using h) (by simp))
  have r0 : ((w.alloc (.cells #[.slice none 0 0] 32)).alloc (.cells #[] 36)).cell? ⟨w.heap.size, 0, none⟩ = some (.slice none 0 0) := by go_simp
  have s0 : ((w.alloc (.cells #[.slice none 0 0] 32)).alloc (.cells #[] 36)).frozen? ⟨w.heap.size, 0, none⟩ = false := by go_simp
  have R0 := Lib.hid r0; have S0 := Lib.hid s0
  clear r0 s0
  obtain ⟨ad, cap, rfl, _, _⟩ := hu
  go_enter Tryz.func97, Tryz.ntmps97
  go_wp2_with fail
  go_loopw [3, 9] (fun s i wr => ∃ (j : Nat) (xs : List Value), j ≤ l.length ∧ i = .int .i64 j ∧ wr.cell? ⟨w.heap.size, 0, none⟩ = some (.slice none 0 0) ∧ wr.frozen? ⟨w.heap.size, 0, none⟩ = false ∧ Acc 36 2 entE (w.heap.size + 1) wr s (l.take j) xs ∧ Below w.heap.size w wr) (fun _ i _ => l.length - (intOf i).toNat)
  case atStart => exact ⟨0, [], Nat.zero_le _, rfl, R0.out, S0.out, HA0.out, HB0.out⟩
  case round =>
    obtain ⟨j, xs, hj, rfl, r0, s0, hacc, hb⟩ := hrel
    clear HA0 R0 S0 HB0
    have HBZ := Lib.hid (show w.heap.size + 1 ≤ wr.heap.size by obtain ⟨_, _, _, _, h, _⟩ := hacc; exact h)
    have hlt0 : (l.take j).length = j := by rw [List.length_take]; omega
    have HA := Lib.hid hacc; have HB := Lib.hid hb
    have HL0 := Lib.hid hlt0
    obtain ⟨uad, ucap, hu'⟩ := hacc.form
    rw [hlt0] at hu'
    subst hu'
    clear hlt0 hacc
    by_cases hlt : j < l.length
    · obtain ⟨g, o, hga, hgs, x, c0, c1, hx⟩ := (HU.out.below hb).at j hlt
      have HEN := Lib.hid (take_snoc l j hlt)
      have hll := HLE.out _ (List.getElem_mem hlt)
      have hba := (Below.refl wr.heap.size wr).alloc (Nat.le_refl _) (.cells #[x, .string (S l[j].2)] 36)
      have HX := Lib.hid (hx.below hba)
      have HBA := Lib.hid hba
      have HR := Lib.hid ((hba.cell (p := ⟨w.heap.size, 0, none⟩) (by have := HBZ.out; show w.heap.size < _; omega)).trans r0)
      have HSF := Lib.hid ((hba.frozen (p := ⟨w.heap.size, 0, none⟩) (by have := HBZ.out; show w.heap.size < _; omega)).trans s0)
      obtain ⟨xd, xc, rfl, _, _⟩ := hx
      subst hga
      generalize l[j] = en at *
      obtain ⟨eo, et⟩ := en
      simp only at hll HX HBA HR HSF c1
      have i1 : (j : Int) < (l.length : Int) := by omega
      clear hb hba r0 s0
      go_wp2_with fail
      refine (copied _ eo et _ HX.out (by omega)).mono ?_
      rintro e v1 ⟨x1, rfl, hI, hb1⟩
      have hzz : wr.heap.size + 1 ≤ v1.heap.size := by have := hb1.size; simp at this; omega
      have HZ1 := Lib.hid hzz
      have HB1 := Lib.hid (show Below wr.heap.size wr v1 from HBA.out.trans (hb1.mono (by simp)))
      have HI := Lib.hid hI
      have HR1 := Lib.hid ((hb1.cell (p := ⟨w.heap.size, 0, none⟩) (by have := HBZ.out; simp; omega)).trans HR.out)
      have HF1 := Lib.hid ((hb1.frozen (p := ⟨w.heap.size, 0, none⟩) (by have := HBZ.out; simp; omega)).trans HSF.out)
      obtain ⟨x1d, x1c, rfl, _, _⟩ := hI
      clear hb1
      have HA2 := Lib.hid ((HA.out.keep entE_ok HB1.out).keep entE_ok ((Below.refl v1.heap.size v1).alloc (Nat.le_refl _) (.cells #[.slice x1d eo.length x1c, .string (S et)] 36)))
      have HOW := Lib.hid (show (v1.alloc (.cells #[.slice x1d eo.length x1c, .string (S et)] 36)).ownsRow (w.heap.size + 1) 36 2 (.slice uad j ucap) j xs by have := HA2.out.owns; rwa [HL0.out] at this)
      go_wp2_with (at_builtin; refine wpList_append_lies _ rfl _ _ 30 rfl (w.heap.size + 1) 36 i0 (.agg #[.slice none 0 0, .string ⟨#[]⟩]) 2 40 Tryz.underlying30 hi hz0 hz1 hz2 rfl (by decide) (.slice uad j ucap) j xs rfl HOW.out ⟨v1.heap.size, 0, none⟩ 1 1 [.slice x1d eo.length x1c, .string (S et)] rfl rfl ?_ ?_ (Nat.zero_lt_one) ?_ ?_ ?_ _ rfl ?_)
      · intro i y hy
        match i, hy with
        | 0, hy => injection hy with hy; subst hy; rw [add0]; go_simp
        | 1, hy => injection hy with hy; subst hy; rw [add0]; go_simp
      · intro y hy
        simp only [List.mem_cons, List.not_mem_nil, or_false] at hy
        rcases hy with rfl | rfl <;> rfl
      · unfold maxLen; omega
      · omega
      · have h1 := HZ1.out; have h2 := HBZ.out; simp; omega
      intro g1 cap1 v3 hown hgr hat hlt3
      have HB3 := Lib.hid (show Below (w.heap.size + 1) (v1.alloc (.cells #[.slice x1d eo.length x1c, .string (S et)] 36)) v3 from
        (Below.refl _ _).grown hgr (by have h1 := HZ1.out; have h2 := HBZ.out; simp; omega) (fun k hk => (World.ownsRow.lt HA2.out.owns k hk).1))
      have HAC := Lib.hid (HA.out.snoc (a := (eo, et)) (cs := [.slice x1d eo.length x1c, .string (S et)]) (v1 := v1) (v2 := v1.alloc (.cells #[.slice x1d eo.length x1c, .string (S et)] 36)) (v3 := v3) (g := g1) (cap := cap1) (F := Bet (wr.heap.size + 1) v1.heap.size) entE_ok HB1.out (fun b hb => ⟨by have := hb.1; omega, hb.2⟩) (entE_mk (by have := HI.out; simpa using this)) rfl ((Below.refl _ _).alloc (Nat.le_refl _) _) (by rw [HL0.out]; exact hown) hgr (by simpa using hat))
      have hb2 : Below w.heap.size w v3 := ((HB.out.trans (HB1.out.mono (by have := HBZ.out; omega))).trans ((Below.refl w.heap.size v1).alloc (by have h1 := HZ1.out; have h2 := HBZ.out; omega) _)).trans (HB3.out.mono (by omega))
      have HBW := Lib.hid hb2
      have HR3 := Lib.hid (show v3.cell? ⟨w.heap.size, 0, none⟩ = some (.slice none 0 0) from
        (HB3.out.cell (p := ⟨w.heap.size, 0, none⟩) (by show w.heap.size < w.heap.size + 1; omega)).trans ((((Below.refl (w.heap.size + 1) v1).alloc (by have h1 := HZ1.out; have h2 := HBZ.out; omega) _).cell (p := ⟨w.heap.size, 0, none⟩) (by show w.heap.size < w.heap.size + 1; omega)).trans HR1.out))
      have HF3 := Lib.hid (show v3.frozen? ⟨w.heap.size, 0, none⟩ = false from
        (HB3.out.frozen (p := ⟨w.heap.size, 0, none⟩) (by show w.heap.size < w.heap.size + 1; omega)).trans ((((Below.refl (w.heap.size + 1) v1).alloc (by have h1 := HZ1.out; have h2 := HBZ.out; omega) _).frozen (p := ⟨w.heap.size, 0, none⟩) (by show w.heap.size < w.heap.size + 1; omega)).trans HF1.out))
      clear hown hgr hat hlt3 hb2 hzz
      go_wp2
      go_roundw
      case rel => exact ⟨j + 1, _, by omega, by go_num, HR3.out, HF3.out, by rw [HEN.out]; have h := HAC.out; rw [HL0.out] at h; exact h, HBW.out⟩
      case measure => simp [intOf]; omega
    · have hjl : l.length = j := by omega
      have HT := Lib.hid (show l.take j = l from List.take_of_length_le (by omega))
      have HROW := Lib.hid (show Ents wr (Bet (w.heap.size + 1) wr.heap.size) (.slice uad j ucap) l from by have h := HA.out; rw [HT.out] at h; exact h.row (by omega))
      clear hb
      go_wp2_with fail
      refine (sortStable_full _ l _ _ HROW.out).mono ?_
      rintro e v1 ⟨rfl, m, hpm, hsm, hrm, hcm⟩
      have hnf : ∀ b, b = w.heap.size → ¬ Bet (w.heap.size + 1) wr.heap.size b := by intro b hb hc; have := hc.1; omega
      have r1 := (hcm.cell (p := ⟨w.heap.size, 0, none⟩) (by have := HBZ.out; show w.heap.size < _; omega) (hnf _ rfl)).trans r0
      have s1 := (hcm.frozen (p := ⟨w.heap.size, 0, none⟩) (by have := HBZ.out; show w.heap.size < _; omega) (hnf _ rfl)).trans s0
      have HR := Lib.hid hrm
      have HPM := Lib.hid hpm; have HSM := Lib.hid hsm
      have HBW := Lib.hid (HB.out.trans (hcm.below (B := w.heap.size) HB.out.size (fun b hb => by have := hb.1; omega)))
      have HZ := Lib.hid hcm.size
      clear hrm hpm hsm hcm r0 s0 HROW
      go_wp2
      refine bodyPost_ret (v := .agg #[.slice uad j ucap]) (by simp [results, Tryz.results97, go_sem, r1]) rfl ⟨m, HPM.out, HSM.out, _, rfl, ?_, HBW.out.setCell (Nat.le_refl _) _⟩
      have hr2 := HR.out
      exact (hr2.stand entE_ok (X := fun b => b = w.heap.size) ((Chg.refl (fun b => b = w.heap.size) v1).setCell (p := ⟨w.heap.size, 0, none⟩) rfl (.slice uad j ucap)) (by intro b hb; have := hb.1; omega)).wide (fun b hb => ⟨by have := hb.1; omega, by have h1 := hb.2; have h2 := HZ.out; simp [World.setCell]; omega⟩) (fun b hb => hb.2)
/-- entries of different outlines have one order -/
theorem P.sorted_one {l m p : P.Dic} (hp : p.Perm l) (hs : p.Pairwise P.le) (hm : m.Pairwise P.lt) (hml : ∀ x, x ∈ m ↔ x ∈ l) (hd : l.Pairwise fun a b => a.1 ≠ b.1) : p = m := by
  have hd' : p.Pairwise fun a b => a.1 ≠ b.1 := (hp.pairwise_iff (fun h => Ne.symm h)).2 hd
  refine P.rising_one p m ?_ hm fun x => by rw [hml, hp.mem_iff]
  refine (hs.and hd').imp ?_
  rintro a b ⟨h1, h2⟩
  unfold P.le at h1
  unfold P.lt
  have : P.cmp a.1 b.1 ≠ 0 := fun h => h2 (P.cmp_eq _ _ h)
  omega
theorem dictionaryOf_as (u : Value) (l m : P.Dic) (w : World) (hu : EntR w u l) (hl : l.length ≤ 2 ^ 20) (hle : ∀ e ∈ l, e.1.length ≤ 2 ^ 20) (hm : m.Pairwise P.lt) (hml : ∀ x, x ∈ m ↔ x ∈ l) (hd : l.Pairwise fun a b => a.1 ≠ b.1) :
    Calls Tryz.prog 97 #[u] w (DicPost m w) := by
  refine (dictionaryOf_full u l w hu hl hle).mono ?_
  rintro e w' ⟨p, hp, hs, h⟩
  rwa [P.sorted_one hp hs hm hml hd] at h
end
end Go.Proofs.YtonhkglilnplbaaGreatDoor
