/- The law of look-ups in a trie and in its dictionary. -/
import Derived.Deep.DeepCutAuto
import Derived.Deep.RegionHeld
import Derived.Test.YtojcfpjoikmgcaaGreatDoorDrawS
import Derived.Test.YtojcfpjoikmgcaaGreatDoorLongT
import Derived.Test.YtojcfpjoikmgcaaGreatDoorWalkT
import Derived.Test.YtojcfpjoikmgcaaGreatDoorEntT
import Derived.Test.YtojcfpjoikmgcaaGreatDoorShadB
import Derived.Test.YtojcfpjoikmgcaaGreatDoorLook1
namespace Go.Proofs.YtojcfpjoikmgcaaGreatDoor
namespace P
theorem longR_look {d : Option Dic} {st : List Int} {n : Int} {x : Bs} (hd : ∀ l, d = some l → dic l = true) (h : longR d st = (n, x, true)) : ∃ l, d = some l ∧ 0 ≤ n ∧ n.toNat ≤ st.length ∧ lookD (st.take n.toNat) l = (x, true) := by
  cases hdd : d with
  | none => rw [hdd] at h; cases h
  | some l =>
    have hl := hd l hdd
    rw [hdd] at h
    unfold longR at h
    simp only at h
    split at h
    · unfold longA at h
      injection h with h1 h2
      injection h2 with h2 h3
      have hb := of_decide_eq_true h3
      refine ⟨l, rfl, by omega, ?_, ?_⟩
      · have := best_le l st st.length; omega
      · rw [← h1, Int.toNat_natCast]
        unfold lookD
        rw [if_pos hl, best_has hb, h2]
    · cases h
theorem lookD_nil (o : List Int) : (lookD o []).1 = [] := by unfold lookD; split <;> rfl
theorem lookR_some {l : Dic} (h : dic l = true) (o : List Int) : lookR (some l) o = lookD o l := by unfold lookD; rw [if_pos h]; rfl
end P
open Go Go.RowKit
set_option maxHeartbeats 8000000
set_option maxRecDepth 100000
theorem IntR.first {v : World} {ad : Option Addr} {cap k : Nat} {l : List Int} (h : IntR v (.slice ad l.length cap) l) (hk : k ≤ l.length) : IntR v (.slice ad k cap) (l.take k) := by
  obtain ⟨ad', cap', he, h1, hn, h3⟩ := h
  injection he with e1 e2 e3
  subst e1 e3
  have hlk : (l.take k).length = k := by rw [List.length_take]; omega
  refine ⟨ad, cap, by rw [hlk], by omega, hn, ?_⟩
  rcases h3 with h3 | ⟨g, o, h4, h5, h6⟩
  · left; rw [h3]; simp
  · refine .inr ⟨g, o, h4, h5, fun j hj => ?_⟩
    have hj' : j < l.length := by omega
    rw [List.getElem_take]
    exact h6 j hj'
theorem law_trieLookup (v : Value) (w : World) (hc : CodeAny w v) (hE : Env w) :
    Calls Tryz.prog 10 #[v] w fun e w' => e = .returned (.bool true) ∧ Below w.heap.size w w' := by
  obtain ⟨ad, n, cap, rfl, hn, hr⟩ := hc
  have HE := Lib.hid hE
  clear hE
  go_enter Tryz.func10, Tryz.ntmps10
  go_wp2_with fail
  refine (rBig _ n ad cap rfl hn _).mono ?_
  rintro e w' ⟨rfl, rfl⟩
  cases hbig : decide (65536 < n)
  · have hn2 : n ≤ 65536 := by have := of_decide_eq_false hbig; omega
    have HCD := Lib.hid (show CodeIs w (.slice ad n cap) from ⟨ad, n, cap, rfl, hn2, hr⟩)
    clear hbig hr
    go_wp2_with fail
    refine (drawLongest _ _ HCD.out).mono ?_
    rintro e w1 ⟨t, o, u, ov, rfl, hdt, ho, hu, hov, hb⟩
    have HDT := Lib.hid hdt; have HO := Lib.hid ho
    have HX := Lib.hid (show ∀ n ∈ t, n.2.2.2.length ≤ 2 ^ 30 from fun n hn => by have := hdt.txt n hn; omega)
    have hba : Below w1.heap.size w1 (w1.alloc (.cells #[u] 30)) := (Below.refl _ _).alloc (Nat.le_refl _) _
    have HB1 := Lib.hid (hb.trans (hba.mono hb.size))
    have HU1 := Lib.hid (hu.now.below hba); have HV1 := Lib.hid ((Ints.read hov).below hba)
    have HT1 := Lib.hid (DBx.new u 30 w1)
    have HE1 := Lib.hid (HE.out.below HB1.out HE.out.size)
    obtain ⟨ua, uc, rfl, _, _⟩ := hu.now
    obtain ⟨oa, oc, rfl, _, ⟨_, hcap⟩, _⟩ := id hov
    have HCAP := Lib.hid hcap; clear hcap
    clear hdt ho hu hov hba hb HE
    go_wp2_with fail
    refine (impl_longest _ _ t o _ HU1.out HV1.out HX.out HE1.out).mono ?_
    rintro e w2 ⟨rfl, hb⟩
    have HLR := Lib.hid (fun n x (h : P.longR (P.dictI t) o = (n, x, true)) => P.longR_look (fun l hl => (P.dictI_of hl).1) h)
    have HLN := Lib.hid (fun h : P.dictI t = none => show P.longR (P.dictI t) o = (0, [], false) by rw [h]; rfl)
    obtain ⟨r, hrr⟩ : ∃ r, P.longR (P.dictI t) o = r := ⟨_, rfl⟩
    have HRR := Lib.hid hrr
    rw [hrr] at HLR HLN ⊢
    obtain ⟨r1, r2, r3⟩ := r
    simp only
    have HB2 := Lib.hid (HB1.out.trans (hb.mono HB1.out.size)); have HU2 := Lib.hid (HU1.out.below hb); have HV2 := Lib.hid (HV1.out.below hb); have HT2 := Lib.hid (HT1.out.below hb); have HE2 := Lib.hid (HE1.out.below hb HE1.out.size)
    clear hb hrr HB1 HU1 HV1 HT1 HE1
    obtain ⟨k0, _⟩ := HT2.out
    go_wp2_with fail
    refine (spec_longest _ _ t o _ HU2.out HV2.out HX.out).mono ?_
    rintro e w3 ⟨rfl, hb⟩
    rw [HRR.out]
    have HB3 := Lib.hid (HB2.out.trans (hb.mono HB2.out.size)); have HU3 := Lib.hid (HU2.out.below hb); have HV3 := Lib.hid (HV2.out.below hb); have HT3 := Lib.hid (HT2.out.below hb); have HE3 := Lib.hid (HE2.out.below hb HE2.out.size)
    clear hb k0 HB2 HU2 HV2 HT2 HE2
    obtain ⟨k0, _⟩ := HT3.out
    go_wp2_with fail
    refine (impl_trieEntries _ t _ HU3.out HX.out HE3.out).mono ?_
    rintro e w4 ⟨x4, rfl, hO, hb⟩
    have HSM := Lib.hid (small_getD HX.out)
    have hno : (P.dictI t).isSome = false → ((r1, r2, r3) : Int × P.Bs × Bool) = (0, [], false) := fun h => HLN.out (by cases hd : P.dictI t with
      | none => rfl
      | some l => rw [hd] at h; cases h)
    have hyes : r3 = true → 0 ≤ r1 ∧ r1.toNat ≤ o.length ∧ P.lookD (o.take r1.toNat) ((P.dictI t).getD []) = (r2, true) := fun h => by
      subst h
      obtain ⟨l, h1, h2, h3, h4⟩ := HLR.out r1 r2 rfl
      rw [h1]
      exact ⟨h2, h3, h4⟩
    obtain ⟨dl, hdl⟩ : ∃ dl, (P.dictI t).getD [] = dl := ⟨_, rfl⟩
    obtain ⟨od, hod⟩ : ∃ od, (P.dictI t).isSome = od := ⟨_, rfl⟩
    rw [hdl] at HSM hyes hO
    rw [hod] at hno ⊢
    have HNO := Lib.hid hno; have HYES := Lib.hid hyes
    clear hdl hod hno hyes
    have hba : Below w4.heap.size w4 (w4.alloc (.cells #[x4] 26)) := (Below.refl _ _).alloc (Nat.le_refl _) _
    have hb2 := hb.trans (hba.mono hb.size)
    have HB4 := Lib.hid (HB3.out.trans (hb2.mono HB3.out.size)); have HV4 := Lib.hid (HV3.out.below hb2); have HE4 := Lib.hid (HE3.out.below hb2 HE3.out.size)
    have HQ4 := Lib.hid (show EntR _ x4 dl from (Ents.read hO).below hba); have HY4 := Lib.hid (DBx.new x4 26 w4)
    obtain ⟨xa, xc, rfl, _, _⟩ := Ents.read hO
    clear hb hb2 hba hO k0 HB3 HU3 HV3 HT3 HE3 HLR HLN HRR
    cases od
    · have h0 := HNO.out rfl
      injection h0 with h1 h2
      injection h2 with h2 h3
      subst h1 h2 h3
      go_wp2
      go_ret
      exact ⟨rfl, HB4.out⟩
    · go_upto_if 66 with fail
      go_cut [] (fun wx => Below w.heap.size w wx ∧ Env wx)
      case first =>
        cases r3
        · go_wp2
          go_meet
          exact ⟨HB4.out, HE4.out⟩
        · obtain ⟨h1, h2, h3⟩ := HYES.out rfl
          obtain ⟨k, rfl⟩ : ∃ k : Nat, r1 = (k : Int) := ⟨r1.toNat, by omega⟩
          rw [Int.toNat_natCast] at h2 h3
          have HLK := Lib.hid h3
          have i1 : k ≤ oc := by have := HCAP.out; omega
          have hdd := (Below.refl (w4.alloc (.cells #[.slice xa dl.length xc] 26)).heap.size (w4.alloc (.cells #[.slice xa dl.length xc] 26))).drew
          have HB5 := Lib.hid (HB4.out.trans (hdd.mono HB4.out.size)); have HV5 := Lib.hid (IntR.first (HV4.out.below hdd) h2); have HE5 := Lib.hid (HE4.out.below hdd HE4.out.size)
          have HQ5 := Lib.hid (HQ4.out.below hdd); have HY5 := Lib.hid (HY4.out.below hdd)
          clear hdd h1 h2 h3 HB4 HV4 HE4 HQ4 HY4
          go_upto_region 12 with fail
          refine wp_region_held_drew (S := fun v : World => v.cell? ⟨w4.heap.size, 0, none⟩ = some (.slice xa dl.length xc) ∧ w4.heap.size < v.heap.size) (by kernel_rfl) ⟨HY5.out.1, HY5.out.2.2⟩ (fun hS0 => ?_)
          generalize (w4.alloc (.cells #[.slice xa dl.length xc] 26)).drew = v0 at *
          refine wpAnyH_take (i := 0) (v := .agg #[.slice xa dl.length xc]) rfl (by kernel_rfl) (by kernel_rfl) (by kernel_rfl) (fun _ _ _ h => h) (Or.inl ⟨by rfl, fun z hz => ?_⟩) hS0 ?_
          · obtain ⟨z1, z2⟩ := hz
            go_simp
          try simp only [List.getElem_toArray, List.getElem_cons_zero, Act.put, List.setIfInBounds_toArray, List.set_cons_zero, List.set_cons_succ]
          refine wpAnyH_take (i := 1) (v := .slice oa o.length oc) rfl (by kernel_rfl) (by kernel_rfl) (by kernel_rfl) (fun _ _ _ h => h) (Or.inl ⟨by rfl, fun z hz => ?_⟩) hS0 ?_
          · obtain ⟨z1, z2⟩ := hz
            go_simp
          try simp only [List.getElem_toArray, List.getElem_cons_zero, List.getElem_cons_succ, Act.put, List.setIfInBounds_toArray, List.set_cons_zero, List.set_cons_succ]
          refine wpAnyH_take (i := 2) (v := .int .i64 (k : Int)) rfl (by kernel_rfl) (by kernel_rfl) (by kernel_rfl) (fun _ _ _ h => h) (Or.inl ⟨by rfl, fun z hz => ?_⟩) hS0 ?_
          · obtain ⟨z1, z2⟩ := hz
            go_simp
          try simp only [List.getElem_toArray, List.getElem_cons_zero, List.getElem_cons_succ, Act.put, List.setIfInBounds_toArray, List.set_cons_zero, List.set_cons_succ]
          refine wpAnyH_take (i := 3) (v := .slice oa k oc) rfl (by kernel_rfl) (by kernel_rfl) (by kernel_rfl) (fun _ _ _ h => h) (Or.inl ⟨by rfl, fun z hz => ?_⟩) hS0 ?_
          · obtain ⟨z1, z2⟩ := hz
            go_simp
          try simp only [List.getElem_toArray, List.getElem_cons_zero, List.getElem_cons_succ, Act.put, List.setIfInBounds_toArray, List.set_cons_zero, List.set_cons_succ]
          refine wpAnyH_ready (rs := [4]) (by kernel_rfl) (by simp) ?_
          refine AllReadyH.cons rfl (fun K hK => ?_) AllReadyH.nil
          go_simp
          refine (impl_lookup _ _ dl (o.take k) _ HQ5.out HV5.out HSM.out HE5.out).mono ?_
          rintro e v1 ⟨rfl, hb⟩
          rw [HLK.out]
          refine hK.out _ _ ⟨(hb.cell (p := ⟨w4.heap.size, 0, none⟩) hS0.2).trans hS0.1, Nat.lt_of_lt_of_le hS0.2 hb.size⟩ (fun hS1 => ?_)
          have HB6 := Lib.hid (HB5.out.trans (hb.mono HB5.out.size)); have HE6 := Lib.hid (HE5.out.below hb HE5.out.size)
          clear hK K hb HB5 HV5 HE5 HQ5 HY5
          try simp only [List.getElem_toArray, List.getElem_cons_zero, List.getElem_cons_succ, Act.put, List.setIfInBounds_toArray, List.set_cons_zero, List.set_cons_succ]
          refine wpAnyH_take (i := 5) (v := .tuple #[.string (S r2), .bool true]) rfl (by kernel_rfl) (by kernel_rfl) (by kernel_rfl) (fun _ _ _ h => h) (Or.inl ⟨by rfl, fun z hz => ?_⟩) hS1 ?_
          · obtain ⟨z1, z2⟩ := hz
            go_simp
          try simp only [List.getElem_toArray, List.getElem_cons_zero, List.getElem_cons_succ, Act.put, List.setIfInBounds_toArray, List.set_cons_zero, List.set_cons_succ]
          refine wpAnyH_take (i := 6) (v := .string (S r2)) rfl (by kernel_rfl) (by kernel_rfl) (by kernel_rfl) (fun _ _ _ h => h) (Or.inl ⟨by rfl, fun z hz => ?_⟩) hS1 ?_
          · obtain ⟨z1, z2⟩ := hz
            go_simp
          try simp only [List.getElem_toArray, List.getElem_cons_zero, List.getElem_cons_succ, Act.put, List.setIfInBounds_toArray, List.set_cons_zero, List.set_cons_succ]
          refine wpAnyH_take (i := 7) (v := .bool true) rfl (by kernel_rfl) (by kernel_rfl) (by kernel_rfl) (fun _ _ _ h => h) (Or.inl ⟨by rfl, fun z hz => ?_⟩) hS1 ?_
          · obtain ⟨z1, z2⟩ := hz
            go_simp
          try simp only [List.getElem_toArray, List.getElem_cons_zero, List.getElem_cons_succ, Act.put, List.setIfInBounds_toArray, List.set_cons_zero, List.set_cons_succ]
          refine wpAnyH_take (i := 8) (v := .string (S r2)) rfl (by kernel_rfl) (by kernel_rfl) (by kernel_rfl) (fun _ _ _ h => h) (Or.inl ⟨by rfl, fun z hz => ?_⟩) hS1 ?_
          · obtain ⟨z1, z2⟩ := hz
            go_simp
          try simp only [List.getElem_toArray, List.getElem_cons_zero, List.getElem_cons_succ, Act.put, List.setIfInBounds_toArray, List.set_cons_zero, List.set_cons_succ]
          refine wpAnyH_take (i := 9) (v := .bool true) rfl (by kernel_rfl) (by kernel_rfl) (by kernel_rfl) (fun _ _ _ h => h) (Or.inl ⟨by rfl, fun z hz => ?_⟩) hS1 ?_
          · obtain ⟨z1, z2⟩ := hz
            go_simp
          try simp only [List.getElem_toArray, List.getElem_cons_zero, List.getElem_cons_succ, Act.put, List.setIfInBounds_toArray, List.set_cons_zero, List.set_cons_succ]
          refine wpAnyH_done (by kernel_rfl) ?_ _
          clear hS0 hS1
          go_wp2
          go_meet
          exact ⟨HB6.out, HE6.out⟩
      case rest =>
        obtain ⟨hbx, hex⟩ := hcut
        have HB6 := Lib.hid hbx; have HE6 := Lib.hid hex
        have HC6 := Lib.hid (CodeIs.on HCD.out (hbx.mono (Nat.le_refl _)))
        clear hbx hex HB4 HV4 HE4 HQ4 HY4 HSM HNO HYES HDT HO HX HCAP HCD
        go_wp2_with fail
        refine (rCut _ 1 _ HC6.out (.inl rfl)).mono ?_
        rintro e w5 ⟨x, rfl, hc5, hb⟩
        have HC7 := Lib.hid hc5; have HB7 := Lib.hid (HB6.out.trans (hb.mono HB6.out.size)); have HE7 := Lib.hid (HE6.out.below hb HE6.out.size)
        clear hc5 hb HC6 HB6 HE6
        go_wp2_with fail
        refine (drawLookupTrie _ _ HC7.out).mono ?_
        rintro e w6 ⟨t, o, u, ov, rfl, hdt, ho, hu, hov, hb⟩
        have HX := Lib.hid (show ∀ n ∈ t, n.2.2.2.length ≤ 2 ^ 30 from fun n hn => by have := hdt.txt n hn; omega)
        have hba : Below w6.heap.size w6 (w6.alloc (.cells #[u] 30)) := (Below.refl _ _).alloc (Nat.le_refl _) _
        have hb2 := hb.trans (hba.mono hb.size)
        have HB8 := Lib.hid (HB7.out.trans (hb2.mono HB7.out.size)); have HE8 := Lib.hid (HE7.out.below hb2 HE7.out.size)
        have HU8 := Lib.hid (hu.now.below hba); have HV8 := Lib.hid ((Ints.read hov).below hba)
        have HT8 := Lib.hid (DBx.new u 30 w6)
        obtain ⟨ua, uc, rfl, _, _⟩ := hu.now
        obtain ⟨oa, oc, rfl, _, _⟩ := id hov
        clear hdt ho hu hov hba hb hb2 HB7 HE7 HC7
        obtain ⟨k0, _⟩ := HT8.out
        go_wp2_with fail
        refine (impl_lookupTrie _ _ t o _ HU8.out HV8.out HX.out HE8.out).mono ?_
        rintro e w7 ⟨rfl, hb⟩
        have HB9 := Lib.hid (HB8.out.trans (hb.mono HB8.out.size)); have HE9 := Lib.hid (HE8.out.below hb HE8.out.size)
        have HU9 := Lib.hid (HU8.out.below hb); have HV9 := Lib.hid (HV8.out.below hb); have HT9 := Lib.hid (HT8.out.below hb)
        clear hb k0 HB8 HE8 HU8 HV8 HT8
        have HSM := Lib.hid (small_getD HX.out)
        have hq : ((P.lookR (P.dictI t) o).2 = ((P.dictI t).isSome && (P.lookD o ((P.dictI t).getD [])).2)) ∧ (P.lookR (P.dictI t) o).1 = (P.lookD o ((P.dictI t).getD [])).1 := by
          cases hd : P.dictI t with
          | none => exact ⟨rfl, (P.lookD_nil o).symm⟩
          | some l => rw [P.lookR_some (P.dictI_of hd).1]; exact ⟨by simp, rfl⟩
        have hq1 := hq.1
        have hq2 := hq.2
        rw [hq1, hq2]
        obtain ⟨dl, hdl⟩ : ∃ dl, (P.dictI t).getD [] = dl := ⟨_, rfl⟩
        obtain ⟨od, hod⟩ : ∃ od, (P.dictI t).isSome = od := ⟨_, rfl⟩
        have HDL := Lib.hid hdl; have HOD := Lib.hid hod
        rw [hdl] at HSM ⊢
        rw [hod]
        clear hq hq1 hq2 hdl hod
        obtain ⟨ra, hra⟩ : ∃ ra, P.lookD o dl = ra := ⟨_, rfl⟩
        have HRA := Lib.hid hra
        rw [hra]
        obtain ⟨ra1, ra2⟩ := ra
        simp only
        clear hra
        obtain ⟨k0, _⟩ := HT9.out
        go_wp2_with fail
        refine (impl_trieEntries _ t _ HU9.out HX.out HE9.out).mono ?_
        rintro e w8 ⟨x8, rfl, hO, hb⟩
        rw [HDL.out] at hO
        rw [HOD.out]
        have hba : Below w8.heap.size w8 (w8.alloc (.cells #[x8] 26)) := (Below.refl _ _).alloc (Nat.le_refl _) _
        have hb2 := hb.trans (hba.mono hb.size)
        have HBA := Lib.hid (HB9.out.trans (hb2.mono HB9.out.size)); have HEA := Lib.hid (HE9.out.below hb2 HE9.out.size)
        have HVA := Lib.hid (HV9.out.below hb2)
        have HQA := Lib.hid (show EntR _ x8 dl from (Ents.read hO).below hba); have HYA := Lib.hid (DBx.new x8 26 w8)
        obtain ⟨xa, xc, rfl, _, _⟩ := Ents.read hO
        clear hb hb2 hba hO k0 HB9 HE9 HU9 HV9 HT9
        obtain ⟨k0, _⟩ := HYA.out
        go_wp2_with fail
        refine (impl_lookup _ _ dl o _ HQA.out HVA.out HSM.out HEA.out).mono ?_
        rintro e w9 ⟨rfl, hb⟩
        rw [HRA.out]
        have HBB := Lib.hid (HBA.out.trans (hb.mono HBA.out.size))
        clear hb k0 HBA HEA HVA HQA HYA
        cases od
        all_goals
          cases ra2
          all_goals
            go_wp2
            go_ret
            exact ⟨rfl, HBB.out⟩
  · have hn2 := of_decide_eq_true hbig
    go_wp2
    go_ret
    exact ⟨rfl, Below.refl _ _⟩
end Go.Proofs.YtojcfpjoikmgcaaGreatDoor
