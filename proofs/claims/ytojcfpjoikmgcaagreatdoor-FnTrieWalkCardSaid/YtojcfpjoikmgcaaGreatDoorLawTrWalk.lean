/- The law of a walk in a trie and of its continuations. -/
import Derived.Test.YtojcfpjoikmgcaaGreatDoorMore
import Derived.Deep.DeepCutAuto
import Derived.Deep.RegionHeld
import Derived.Test.YtojcfpjoikmgcaaGreatDoorDrawS
import Derived.Test.YtojcfpjoikmgcaaGreatDoorWalkT
import Derived.Test.YtojcfpjoikmgcaaGreatDoorEntT
import Derived.Test.YtojcfpjoikmgcaaGreatDoorPlainKids
namespace Go.Proofs.YtojcfpjoikmgcaaGreatDoor
open Go Go.RowKit
set_option maxHeartbeats 16000000
set_option maxRecDepth 100000
set_option linter.unusedSimpArgs false
theorem law_trieWalk (v : Value) (w : World) (hc : CodeAny w v) (hE : Env w) :
    Calls Tryz.prog 9 #[v] w fun e w' => e = .returned (.bool true) ∧ Below w.heap.size w w' := by
  obtain ⟨ad, n, cap, rfl, hn, hr⟩ := hc
  have HE := Lib.hid hE
  clear hE
  go_enter Tryz.func9, Tryz.ntmps9
  go_wp2_with fail
  refine (rBig _ n ad cap rfl hn _).mono ?_
  rintro e w' ⟨rfl, rfl⟩
  cases hbig : decide (65536 < n)
  rotate_left
  · have hn2 := of_decide_eq_true hbig
    go_wp2
    go_ret
    exact ⟨rfl, Below.refl _ _⟩
  have hn2 : n ≤ 65536 := by have := of_decide_eq_false hbig; omega
  have HCD := Lib.hid (show CodeIs w (.slice ad n cap) from ⟨ad, n, cap, rfl, hn2, hr⟩)
  clear hbig hr
  go_wp2_with fail
  refine (drawWalkTrie _ _ HCD.out).mono ?_
  rintro e w1 ⟨t, o, u, ov, rfl, hdt, ho, hu, hov, hb⟩
  have HDT := Lib.hid hdt; have HOL := Lib.hid ho
  have HX := Lib.hid (show ∀ n ∈ t, n.2.2.2.length ≤ 2 ^ 30 from fun n hn => by have := hdt.txt n hn; omega)
  have HSM := Lib.hid (show SmallT t from ⟨by have := hdt.len; omega, fun n hn => ⟨by have := hdt.str n hn; omega, by have := hdt.chi n hn; omega⟩⟩)
  have hba : Below w1.heap.size w1 (w1.alloc (.cells #[u] 30)) := (Below.refl _ _).alloc (Nat.le_refl _) _
  have HB1 := Lib.hid (hb.trans (hba.mono hb.size))
  have HU1 := Lib.hid (hu.now.below hba); have HV1 := Lib.hid ((Ints.read hov).below hba)
  have HT1 := Lib.hid (DBx.new u 30 w1)
  have HE1 := Lib.hid (HE.out.below HB1.out HE.out.size)
  obtain ⟨ua, uc, rfl, _, _⟩ := hu.now
  obtain ⟨oa, oc, rfl, _, _⟩ := id hov
  clear hdt ho hu hov hba hb HE HCD HDT
  go_wp2_with fail
  refine (impl_walkTrie _ _ t o _ HU1.out HV1.out HX.out HE1.out).mono ?_
  rintro e w2 ⟨rfl, hb⟩
  obtain ⟨r, hrr⟩ : ∃ r, P.walkR t (P.dictI t) o = r := ⟨_, rfl⟩
  have HRR := Lib.hid hrr
  rw [hrr]
  obtain ⟨r1, r2⟩ := r
  simp only
  have HB2 := Lib.hid (HB1.out.trans (hb.mono HB1.out.size)); have HU2 := Lib.hid (HU1.out.below hb); have HV2 := Lib.hid (HV1.out.below hb); have HT2 := Lib.hid (HT1.out.below hb); have HE2 := Lib.hid (HE1.out.below hb HE1.out.size)
  clear hb hrr HB1 HU1 HV1 HT1 HE1
  obtain ⟨k0, _⟩ := HT2.out
  go_wp2_with fail
  refine (spec_walkTrie _ _ t o _ HU2.out HV2.out HX.out).mono ?_
  rintro e w3 ⟨rfl, hb⟩
  rw [HRR.out]
  have HB3 := Lib.hid (HB2.out.trans (hb.mono HB2.out.size)); have HU3 := Lib.hid (HU2.out.below hb); have HV3 := Lib.hid (HV2.out.below hb); have HT3 := Lib.hid (HT2.out.below hb); have HE3 := Lib.hid (HE2.out.below hb HE2.out.size)
  clear hb k0 HB2 HU2 HV2 HT2 HE2
  cases r2
  · go_wp2
    go_ret
    exact ⟨rfl, HB3.out⟩
  obtain ⟨k, hk, hkt, hlm, hst⟩ := P.walk_kids HRR.out
  have hco : P.contOk t (k : Int) = true := by
    have h := HRR.out
    unfold P.contOk
    cases hd : P.dictI t with
    | none => rw [hd] at h; cases h
    | some l => simp; omega
  have hcl : P.contL t (k : Int) = (t.getD k P.nd0).1 := by unfold P.contL; rw [Int.toNat_natCast]
  have hnd : t.getD k P.nd0 = t[k]'hkt := by rw [List.getD_eq_getElem?_getD, List.getElem?_eq_getElem hkt]; rfl
  obtain ⟨L, hL⟩ : ∃ L, (t.getD k P.nd0).1 = L := ⟨_, rfl⟩
  obtain ⟨M, hM⟩ : ∃ M, (t.getD k P.nd0).2.1 = M := ⟨_, rfl⟩
  have HKM := Lib.hid (show ∀ h : k < t.length, (t[k]'h).2.1 = M from fun h => by rw [← hnd]; exact hM)
  have hst2 : ∀ (i : Nat) (h1 : i < L.length) (h2 : i < M.length), o.length < 60 → P.walkR t (P.dictI t) (o ++ [L[i]'h1]) = (M[i]'h2, true) := by
    subst hL hM
    exact hst
  have HSTP := Lib.hid hst2
  rw [hL, hM] at hlm
  rw [hL] at hcl
  have HLM := Lib.hid hlm; have HKT := Lib.hid hkt; have HCO := Lib.hid hco; have HCL := Lib.hid hcl
  subst hk
  clear hst hst2 hlm hkt hco hcl hnd hL hM
  obtain ⟨k0, _⟩ := HT3.out
  go_wp2_with fail
  refine (impl_continuations _ t (k : Int) _ HU3.out HSM.out HX.out HE3.out).mono ?_
  rintro e w4 ⟨x4, rfl, hI, hb⟩
  rw [HCO.out, HCL.out] at hI
  rw [HCO.out]
  have HB4 := Lib.hid (HB3.out.trans (hb.mono HB3.out.size)); have HU4 := Lib.hid (HU3.out.below hb); have HV4 := Lib.hid (HV3.out.below hb); have HT4 := Lib.hid (HT3.out.below hb); have HE4 := Lib.hid (HE3.out.below hb HE3.out.size)
  have HI4 := Lib.hid (show IntR w4 x4 L from Ints.read hI)
  obtain ⟨xa, xc, rfl, _, _⟩ := (show IntR w4 x4 L from Ints.read hI)
  clear hb hI k0 HB3 HU3 HV3 HT3 HE3
  obtain ⟨k0, _⟩ := HT4.out
  obtain ⟨gt, ot, hga, hgl, xx, yy, d0, d1, d2, d3, hxx, hyy⟩ := HU4.out.at k HKT.out
  subst hga
  rw [HKM.out HKT.out] at hyy
  obtain ⟨ya, yc, hye, _, _⟩ := id hyy
  subst hye
  have p1 : (k : Int) < (t.length : Int) := by have := HKT.out; omega
  rw [← HLM.out] at d1
  clear d0 d2 d3 hxx
  go_wp2_with fail
  clear k0 d1 hyy p1 hgl
  go_loopw [11] (fun i wr => ∃ j : Nat, j ≤ L.length ∧ i = .int .i64 j ∧ Below w4.heap.size w4 wr) (fun i _ => L.length - (intOf i).toNat)
  case atStart => exact ⟨0, Nat.zero_le _, rfl, Below.refl _ _⟩
  case round =>
    obtain ⟨j, hj, rfl, hb⟩ := hrel
    have HBW := Lib.hid hb
    by_cases hlt : j < L.length
    · by_cases h60 : o.length < 60
      · have i1 : (j : Int) < (L.length : Int) := by omega
        have i2 : (o.length : Int) < 60 := by omega
        have HJM := Lib.hid (show j < M.length by have := HLM.out; omega)
        obtain ⟨s, hs⟩ : ∃ s, L[j]'hlt = s := ⟨_, rfl⟩
        obtain ⟨cm, hcm⟩ : ∃ cm, M[j]'HJM.out = cm := ⟨_, rfl⟩
        have HCM := Lib.hid hcm
        have HST := Lib.hid (show P.walkR t (P.dictI t) (o ++ [s]) = (cm, true) by rw [← hs, ← hcm]; exact HSTP.out j hlt HJM.out h60)
        obtain ⟨gx, ox, hgx, hgxl, x0⟩ := (HI4.out.below hb).at j hlt
        subst hgx
        rw [hs] at x0
        have hdd := (Below.refl wr.heap.size wr).drew
        have hbd := hb.trans (hdd.mono hb.size)
        have HU0 := Lib.hid (HU4.out.below hbd); have HO0 := Lib.hid (HV4.out.below hbd); have HE0 := Lib.hid (HE4.out.below hbd HE4.out.size); have HT0 := Lib.hid (HT4.out.below hbd)
        have HKS := Lib.hid (show KTn w1.heap.size gx (ox + j) (.slice (some ⟨gt, ot, none⟩) t.length uc) (.int .i64 s) wr.drew from ⟨(HT4.out.below hbd).1, x0, (HT4.out.below hbd).2.2, hgxl⟩)
        have HBW' := Lib.hid hbd
        obtain ⟨j0, hj', hy0, hy1, hy2⟩ := info_parts info_int
        have hj := hj'
        clear hs hcm hdd hbd hb x0 hgxl hj' HBW
        go_upto_region 16 with fail
        refine Left.region [] (S := KTn w1.heap.size gx (ox + j) (.slice (some ⟨gt, ot, none⟩) t.length uc) (.int .i64 s)) (by kernel_rfl) HKS.out (fun hS0 => ?_)
        have HBW := Lib.hid HBW'.out
        clear HBW'
        generalize wr.drew = v0 at *
        refine Left.take (i := 0) (v := .agg #[.slice (some ⟨gt, ot, none⟩) t.length uc]) rfl (by kernel_rfl) (by kernel_rfl) (by kernel_rfl) (by kernel_rfl) (fun _ _ _ h => h) (Or.inl ⟨by rfl, fun z hz => ?_⟩) hS0 ?_
        · obtain ⟨z1, z2, z3, z4⟩ := hz
          go_simp
        try simp only [List.getElem_toArray, List.getElem_cons_zero, Act.put, List.setIfInBounds_toArray, List.set_cons_zero, List.set_cons_succ]
        refine Left.take (i := 2) (v := .slice oa o.length oc) rfl (by kernel_rfl) (by kernel_rfl) (by kernel_rfl) (by kernel_rfl) (fun _ _ _ h => h) (Or.inl ⟨by rfl, fun z hz => ?_⟩) hS0 ?_
        · obtain ⟨z1, z2, z3, z4⟩ := hz
          go_simp
        try simp only [List.getElem_toArray, List.getElem_cons_zero, List.getElem_cons_succ, Act.put, List.setIfInBounds_toArray, List.set_cons_zero, List.set_cons_succ]
        refine Left.take (i := 4) (v := .slice (some ⟨gx, ox, none⟩) L.length xc) rfl (by kernel_rfl) (by kernel_rfl) (by kernel_rfl) (by kernel_rfl) (fun _ _ _ h => h) (Or.inl ⟨by rfl, fun z hz => ?_⟩) hS0 ?_
        · obtain ⟨z1, z2, z3, z4⟩ := hz
          go_simp
        try simp only [List.getElem_toArray, List.getElem_cons_zero, List.getElem_cons_succ, Act.put, List.setIfInBounds_toArray, List.set_cons_zero, List.set_cons_succ]
        refine Left.take (i := 5) (v := .int .i64 j) rfl (by kernel_rfl) (by kernel_rfl) (by kernel_rfl) (by kernel_rfl) (fun _ _ _ h => h) (Or.inl ⟨by rfl, fun z hz => ?_⟩) hS0 ?_
        · obtain ⟨z1, z2, z3, z4⟩ := hz
          go_simp
        try simp only [List.getElem_toArray, List.getElem_cons_zero, List.getElem_cons_succ, Act.put, List.setIfInBounds_toArray, List.set_cons_zero, List.set_cons_succ]
        refine Left.take (i := 6) (v := .pointer (some ⟨gx, ox + j, none⟩)) rfl (by kernel_rfl) (by kernel_rfl) (by kernel_rfl) (by kernel_rfl) (fun _ _ _ h => h) (Or.inl ⟨by rfl, fun z hz => ?_⟩) hS0 ?_
        · obtain ⟨z1, z2, z3, z4⟩ := hz
          go_simp
        try simp only [List.getElem_toArray, List.getElem_cons_zero, List.getElem_cons_succ, Act.put, List.setIfInBounds_toArray, List.set_cons_zero, List.set_cons_succ]
        refine Left.take (i := 7) (v := .int .i64 s) rfl (by kernel_rfl) (by kernel_rfl) (by kernel_rfl) (by kernel_rfl) (fun _ _ _ h => h) (Or.inl ⟨by rfl, fun z hz => ?_⟩) hS0 ?_
        · obtain ⟨z1, z2, z3, z4⟩ := hz
          go_simp
        try simp only [List.getElem_toArray, List.getElem_cons_zero, List.getElem_cons_succ, Act.put, List.setIfInBounds_toArray, List.set_cons_zero, List.set_cons_succ]
        have HBv0 := Lib.hid (Below.refl v0.heap.size v0)
        have ZZv0 := Lib.hid (Nat.le_refl v0.heap.size)
        clear hS0
        refine Left.ready (rs := [1, 8]) (by kernel_rfl) (by simp) ?_
        refine Nexts.cons rfl (fun K hK => ?_) (Nexts.cons rfl (fun K hK => ?_) Nexts.nil)
        · skip
          go_simp
          have hba := (Below.refl v0.heap.size v0).alloc (Nat.le_refl _) (.cells #[] 3)
          have zzn1 : v0.heap.size < (v0.alloc (.cells #[] 3)).heap.size := by simp
          have ZZn1 := Lib.hid zzn1; clear zzn1
          have OWNn1 := Lib.hid (World.ownsRow_lit (base := v0.heap.size) (e := 3) (size := 1) v0 #[] 0 HBv0.out.size (Nat.zero_le _) (by simp))
          have HBn1 := Lib.hid (HBv0.out.trans (hba.mono HBv0.out.size))
          refine on_held hK (by decide) (HKS.out.below HBn1.out) (fun hSn1 => ?_)
          clear hK K hba
          generalize v0.alloc (.cells #[] 3) = n1 at *
          try simp only [List.getElem_toArray, List.getElem_cons_zero, List.getElem_cons_succ, Act.put, List.setIfInBounds_toArray, List.set_cons_zero, List.set_cons_succ]
          refine Left.ready (rs := [3, 8]) (by kernel_rfl) (by simp) ?_
          refine Nexts.cons rfl (fun K hK => ?_) (Nexts.cons rfl (fun K hK => ?_) Nexts.nil)
          · skip
            refine step_append_src rfl _ _ 41 rfl v0.heap.size 3 j0 (.int .i64 0) 1 8 Tryz.underlying41 hj hy0 hy1 hy2 rfl (by decide) (.slice (some ⟨v0.heap.size, 0, none⟩) 0 0) 0 [] rfl OWNn1.out (.slice oa o.length oc) o.length (ints o) rfl (src_of_ints (HO0.out.below HBn1.out)) (by have := HOL.out; unfold maxLen; omega) (by have := HOL.out; omega) HBn1.out.size ?_
            intro cv n2 hown hgr
            have HBn2 := Lib.hid (HBn1.out.grown hgr HBn1.out.size (fun k hk => (World.ownsRow.lt OWNn1.out k hk).1))
            have ZZn2 := Lib.hid (show n1.heap.size ≤ n2.heap.size from hgr.size)
            rw [Nat.zero_add, List.nil_append] at hown
            obtain ⟨cd, cc, rfl⟩ := own_form hown
            have CPn2 := Lib.hid hown
            refine on_held hK (by decide) (HKS.out.below HBn2.out) (fun hSn2 => ?_)
            clear hK K hown hgr
            try simp only [List.getElem_toArray, List.getElem_cons_zero, List.getElem_cons_succ, Act.put, List.setIfInBounds_toArray, List.set_cons_zero, List.set_cons_succ]
            refine Left.ready (rs := [8]) (by kernel_rfl) (by simp) ?_
            refine Nexts.cons rfl (fun K hK => ?_) Nexts.nil
            go_simp
            have hba := (Below.refl n2.heap.size n2).alloc (Nat.le_refl _) (.cells #[.int .i64 s] 3)
            have zzn3 : n2.heap.size < (n2.alloc (.cells #[.int .i64 s] 3)).heap.size := by simp
            have ZZn3 := Lib.hid zzn3; clear zzn3
            have STRn3 := Lib.hid (show (n2.alloc (.cells #[.int .i64 s] 3)).cell? ⟨n2.heap.size, 0, none⟩ = some (.int .i64 s) by go_simp)
            have HBn3 := Lib.hid (HBn2.out.trans (hba.mono HBn2.out.size))
            have CPn3 := Lib.hid (owns_st CPn2.out (Below.chg hba fun _ => False) (fun _ _ h => h))
            refine on_held hK (by decide) (HKS.out.below HBn3.out) (fun hSn3 => ?_)
            clear hK K hba
            generalize n2.alloc (.cells #[.int .i64 s] 3) = n3 at *
            try simp only [List.getElem_toArray, List.getElem_cons_zero, List.getElem_cons_succ, Act.put, List.setIfInBounds_toArray, List.set_cons_zero, List.set_cons_succ]
            refine Left.ready (rs := [9]) (by kernel_rfl) (by simp) ?_
            refine Nexts.cons rfl (fun K hK => ?_) Nexts.nil
            refine step_append_lies _ rfl _ _ 41 rfl v0.heap.size 3 j0 (.int .i64 0) 1 8 Tryz.underlying41 hj hy0 hy1 hy2 rfl (by decide) (.slice cd o.length cc) o.length (ints o) rfl CPn3.out ⟨n2.heap.size, 0, none⟩ 1 1 [.int .i64 s] rfl rfl ?_ ?_ (by decide) (by have := HOL.out; unfold maxLen; omega) (by have := HOL.out; omega) HBn3.out.size _ rfl ?_
            · intro k2 y hy
              match k2, hy with
              | 0, hy => injection hy with hy; subst hy; rw [add0]; exact STRn3.out
            · intro y hy
              simp only [List.mem_cons, List.not_mem_nil, or_false] at hy
              subst hy; rfl
            intro g3 cap3 z hown hgr hat hlt3
            have HBz := Lib.hid (HBn3.out.grown hgr HBn3.out.size (fun k hk => (World.ownsRow.lt CPn3.out k hk).1))
            have HIz := Lib.hid (Ints.read (ints_of_owns (B := v0.heap.size) (l := o ++ [s]) (u := .slice (some ⟨g3, 0, none⟩) (o.length + 1) cap3) (v := z) (by rw [List.length_append, show ints (o ++ [s]) = ints o ++ [.int .i64 s] by simp]; exact hown) (by have := HOL.out; simp; omega)))
            refine on_held hK (by decide) (HKS.out.below HBz.out) (fun hSz => ?_)
            clear hK K hown hgr hat
            try simp only [List.getElem_toArray, List.getElem_cons_zero, List.getElem_cons_succ, Act.put, List.setIfInBounds_toArray, List.set_cons_zero, List.set_cons_succ]
            refine Left.ready (rs := [10]) (by kernel_rfl) (by simp) ?_
            refine Nexts.cons rfl (fun K hK => ?_) Nexts.nil
            go_simp
            refine (impl_walkTrie _ _ t (o ++ [s]) _ (HU0.out.below HBz.out) HIz.out HX.out (HE0.out.below HBz.out HE0.out.size)).mono ?_
            rintro e y ⟨rfl, hb⟩
            rw [HST.out]
            have HBy := Lib.hid (HBz.out.trans (hb.mono HBz.out.size))
            refine on_held hK (by decide) (HKS.out.below HBy.out) (fun hSy => ?_)
            clear hK K hb
            try simp only [List.getElem_toArray, List.getElem_cons_zero, List.getElem_cons_succ, Act.put, List.setIfInBounds_toArray, List.set_cons_zero, List.set_cons_succ]
            refine Left.take (i := 11) (v := .tuple #[.int .i64 cm, .bool true]) rfl (by kernel_rfl) (by kernel_rfl) (by kernel_rfl) (by kernel_rfl) (fun _ _ _ h => h) (Or.inl ⟨by rfl, fun z hz => ?_⟩) hSy ?_
            · obtain ⟨z1, z2, z3, z4⟩ := hz
              go_simp
            try simp only [List.getElem_toArray, List.getElem_cons_zero, List.getElem_cons_succ, Act.put, List.setIfInBounds_toArray, List.set_cons_zero, List.set_cons_succ]
            refine Left.take (i := 12) (v := .int .i64 cm) rfl (by kernel_rfl) (by kernel_rfl) (by kernel_rfl) (by kernel_rfl) (fun _ _ _ h => h) (Or.inl ⟨by rfl, fun z hz => ?_⟩) hSy ?_
            · obtain ⟨z1, z2, z3, z4⟩ := hz
              go_simp
            try simp only [List.getElem_toArray, List.getElem_cons_zero, List.getElem_cons_succ, Act.put, List.setIfInBounds_toArray, List.set_cons_zero, List.set_cons_succ]
            refine Left.take (i := 13) (v := .bool true) rfl (by kernel_rfl) (by kernel_rfl) (by kernel_rfl) (by kernel_rfl) (fun _ _ _ h => h) (Or.inl ⟨by rfl, fun z hz => ?_⟩) hSy ?_
            · obtain ⟨z1, z2, z3, z4⟩ := hz
              go_simp
            try simp only [List.getElem_toArray, List.getElem_cons_zero, List.getElem_cons_succ, Act.put, List.setIfInBounds_toArray, List.set_cons_zero, List.set_cons_succ]
            refine Left.take (i := 14) (v := .int .i64 cm) rfl (by kernel_rfl) (by kernel_rfl) (by kernel_rfl) (by kernel_rfl) (fun _ _ _ h => h) (Or.inl ⟨by rfl, fun z hz => ?_⟩) hSy ?_
            · obtain ⟨z1, z2, z3, z4⟩ := hz
              go_simp
            try simp only [List.getElem_toArray, List.getElem_cons_zero, List.getElem_cons_succ, Act.put, List.setIfInBounds_toArray, List.set_cons_zero, List.set_cons_succ]
            refine Left.take (i := 15) (v := .bool true) rfl (by kernel_rfl) (by kernel_rfl) (by kernel_rfl) (by kernel_rfl) (fun _ _ _ h => h) (Or.inl ⟨by rfl, fun z hz => ?_⟩) hSy ?_
            · obtain ⟨z1, z2, z3, z4⟩ := hz
              go_simp
            try simp only [List.getElem_toArray, List.getElem_cons_zero, List.getElem_cons_succ, Act.put, List.setIfInBounds_toArray, List.set_cons_zero, List.set_cons_succ]
            refine Left.done (by kernel_rfl) ?_ _
            clear hSy hSz
            obtain ⟨q0, _⟩ := HT0.out.below HBy.out
            obtain ⟨gt2, ot2, hga, hgl, xx, yy, d0, d1, d2, d3, hxx, hyy⟩ := (HU0.out.below HBy.out).at k HKT.out
            injection hga with hga
            injection hga with e1 e2 e3
            subst e1 e2
            rw [HKM.out HKT.out] at hyy
            obtain ⟨ya, yc, hye, _, _⟩ := id hyy
            subst hye
            obtain ⟨gy, oy, hga2, hgl2, d4⟩ := hyy.at j HJM.out
            subst hga2
            rw [HCM.out] at d4
            clear d0 d2 d3 hxx
            have p1 : (k : Int) < (t.length : Int) := by have := HKT.out; omega
            have p2 : (j : Int) < (M.length : Int) := by have := HJM.out; omega
            go_wp2
            go_roundw
            case rel => exact ⟨j + 1, by omega, by go_num, HBW.out.trans (HBy.out.mono HBW.out.size)⟩
            case measure => simp [intOf]; omega
          · skip
            go_simp
            have hba := (Below.refl n1.heap.size n1).alloc (Nat.le_refl _) (.cells #[.int .i64 s] 3)
            have zzn4 : n1.heap.size < (n1.alloc (.cells #[.int .i64 s] 3)).heap.size := by simp
            have ZZn4 := Lib.hid zzn4; clear zzn4
            have STRn4 := Lib.hid (show (n1.alloc (.cells #[.int .i64 s] 3)).cell? ⟨n1.heap.size, 0, none⟩ = some (.int .i64 s) by go_simp)
            have HBn4 := Lib.hid (HBn1.out.trans (hba.mono HBn1.out.size))
            have OWNn4 := Lib.hid (owns_st OWNn1.out (Below.chg hba fun _ => False) (fun _ _ h => h))
            refine on_held hK (by decide) (HKS.out.below HBn4.out) (fun hSn4 => ?_)
            clear hK K hba
            generalize n1.alloc (.cells #[.int .i64 s] 3) = n4 at *
            try simp only [List.getElem_toArray, List.getElem_cons_zero, List.getElem_cons_succ, Act.put, List.setIfInBounds_toArray, List.set_cons_zero, List.set_cons_succ]
            refine Left.ready (rs := [3]) (by kernel_rfl) (by simp) ?_
            refine Nexts.cons rfl (fun K hK => ?_) Nexts.nil
            refine step_append_src rfl _ _ 41 rfl v0.heap.size 3 j0 (.int .i64 0) 1 8 Tryz.underlying41 hj hy0 hy1 hy2 rfl (by decide) (.slice (some ⟨v0.heap.size, 0, none⟩) 0 0) 0 [] rfl OWNn4.out (.slice oa o.length oc) o.length (ints o) rfl (src_of_ints (HO0.out.below HBn4.out)) (by have := HOL.out; unfold maxLen; omega) (by have := HOL.out; omega) HBn4.out.size ?_
            intro cv n5 hown hgr
            have HBn5 := Lib.hid (HBn4.out.grown hgr HBn4.out.size (fun k hk => (World.ownsRow.lt OWNn4.out k hk).1))
            have ZZn5 := Lib.hid (show n4.heap.size ≤ n5.heap.size from hgr.size)
            rw [Nat.zero_add, List.nil_append] at hown
            have STRn5 := Lib.hid (((chg_grown hgr).cell (p := ⟨n1.heap.size, 0, none⟩) (by have := ZZn4.out; show n1.heap.size < n4.heap.size; omega) (fun e => by have e2 : v0.heap.size = n1.heap.size := by { simpa [Value.ownBlock] using e }; have := ZZn1.out; omega)).trans STRn4.out)
            obtain ⟨cd, cc, rfl⟩ := own_form hown
            have CPn5 := Lib.hid hown
            refine on_held hK (by decide) (HKS.out.below HBn5.out) (fun hSn5 => ?_)
            clear hK K hown hgr
            try simp only [List.getElem_toArray, List.getElem_cons_zero, List.getElem_cons_succ, Act.put, List.setIfInBounds_toArray, List.set_cons_zero, List.set_cons_succ]
            refine Left.ready (rs := [9]) (by kernel_rfl) (by simp) ?_
            refine Nexts.cons rfl (fun K hK => ?_) Nexts.nil
            refine step_append_lies _ rfl _ _ 41 rfl v0.heap.size 3 j0 (.int .i64 0) 1 8 Tryz.underlying41 hj hy0 hy1 hy2 rfl (by decide) (.slice cd o.length cc) o.length (ints o) rfl CPn5.out ⟨n1.heap.size, 0, none⟩ 1 1 [.int .i64 s] rfl rfl ?_ ?_ (by decide) (by have := HOL.out; unfold maxLen; omega) (by have := HOL.out; omega) HBn5.out.size _ rfl ?_
            · intro k2 y hy
              match k2, hy with
              | 0, hy => injection hy with hy; subst hy; rw [add0]; exact STRn5.out
            · intro y hy
              simp only [List.mem_cons, List.not_mem_nil, or_false] at hy
              subst hy; rfl
            intro g3 cap3 z hown hgr hat hlt3
            have HBz := Lib.hid (HBn5.out.grown hgr HBn5.out.size (fun k hk => (World.ownsRow.lt CPn5.out k hk).1))
            have HIz := Lib.hid (Ints.read (ints_of_owns (B := v0.heap.size) (l := o ++ [s]) (u := .slice (some ⟨g3, 0, none⟩) (o.length + 1) cap3) (v := z) (by rw [List.length_append, show ints (o ++ [s]) = ints o ++ [.int .i64 s] by simp]; exact hown) (by have := HOL.out; simp; omega)))
            refine on_held hK (by decide) (HKS.out.below HBz.out) (fun hSz => ?_)
            clear hK K hown hgr hat
            try simp only [List.getElem_toArray, List.getElem_cons_zero, List.getElem_cons_succ, Act.put, List.setIfInBounds_toArray, List.set_cons_zero, List.set_cons_succ]
            refine Left.ready (rs := [10]) (by kernel_rfl) (by simp) ?_
            refine Nexts.cons rfl (fun K hK => ?_) Nexts.nil
            go_simp
            refine (impl_walkTrie _ _ t (o ++ [s]) _ (HU0.out.below HBz.out) HIz.out HX.out (HE0.out.below HBz.out HE0.out.size)).mono ?_
            rintro e y ⟨rfl, hb⟩
            rw [HST.out]
            have HBy := Lib.hid (HBz.out.trans (hb.mono HBz.out.size))
            refine on_held hK (by decide) (HKS.out.below HBy.out) (fun hSy => ?_)
            clear hK K hb
            try simp only [List.getElem_toArray, List.getElem_cons_zero, List.getElem_cons_succ, Act.put, List.setIfInBounds_toArray, List.set_cons_zero, List.set_cons_succ]
            refine Left.take (i := 11) (v := .tuple #[.int .i64 cm, .bool true]) rfl (by kernel_rfl) (by kernel_rfl) (by kernel_rfl) (by kernel_rfl) (fun _ _ _ h => h) (Or.inl ⟨by rfl, fun z hz => ?_⟩) hSy ?_
            · obtain ⟨z1, z2, z3, z4⟩ := hz
              go_simp
            try simp only [List.getElem_toArray, List.getElem_cons_zero, List.getElem_cons_succ, Act.put, List.setIfInBounds_toArray, List.set_cons_zero, List.set_cons_succ]
            refine Left.take (i := 12) (v := .int .i64 cm) rfl (by kernel_rfl) (by kernel_rfl) (by kernel_rfl) (by kernel_rfl) (fun _ _ _ h => h) (Or.inl ⟨by rfl, fun z hz => ?_⟩) hSy ?_
            · obtain ⟨z1, z2, z3, z4⟩ := hz
              go_simp
            try simp only [List.getElem_toArray, List.getElem_cons_zero, List.getElem_cons_succ, Act.put, List.setIfInBounds_toArray, List.set_cons_zero, List.set_cons_succ]
            refine Left.take (i := 13) (v := .bool true) rfl (by kernel_rfl) (by kernel_rfl) (by kernel_rfl) (by kernel_rfl) (fun _ _ _ h => h) (Or.inl ⟨by rfl, fun z hz => ?_⟩) hSy ?_
            · obtain ⟨z1, z2, z3, z4⟩ := hz
              go_simp
            try simp only [List.getElem_toArray, List.getElem_cons_zero, List.getElem_cons_succ, Act.put, List.setIfInBounds_toArray, List.set_cons_zero, List.set_cons_succ]
            refine Left.take (i := 14) (v := .int .i64 cm) rfl (by kernel_rfl) (by kernel_rfl) (by kernel_rfl) (by kernel_rfl) (fun _ _ _ h => h) (Or.inl ⟨by rfl, fun z hz => ?_⟩) hSy ?_
            · obtain ⟨z1, z2, z3, z4⟩ := hz
              go_simp
            try simp only [List.getElem_toArray, List.getElem_cons_zero, List.getElem_cons_succ, Act.put, List.setIfInBounds_toArray, List.set_cons_zero, List.set_cons_succ]
            refine Left.take (i := 15) (v := .bool true) rfl (by kernel_rfl) (by kernel_rfl) (by kernel_rfl) (by kernel_rfl) (fun _ _ _ h => h) (Or.inl ⟨by rfl, fun z hz => ?_⟩) hSy ?_
            · obtain ⟨z1, z2, z3, z4⟩ := hz
              go_simp
            try simp only [List.getElem_toArray, List.getElem_cons_zero, List.getElem_cons_succ, Act.put, List.setIfInBounds_toArray, List.set_cons_zero, List.set_cons_succ]
            refine Left.done (by kernel_rfl) ?_ _
            clear hSy hSz
            obtain ⟨q0, _⟩ := HT0.out.below HBy.out
            obtain ⟨gt2, ot2, hga, hgl, xx, yy, d0, d1, d2, d3, hxx, hyy⟩ := (HU0.out.below HBy.out).at k HKT.out
            injection hga with hga
            injection hga with e1 e2 e3
            subst e1 e2
            rw [HKM.out HKT.out] at hyy
            obtain ⟨ya, yc, hye, _, _⟩ := id hyy
            subst hye
            obtain ⟨gy, oy, hga2, hgl2, d4⟩ := hyy.at j HJM.out
            subst hga2
            rw [HCM.out] at d4
            clear d0 d2 d3 hxx
            have p1 : (k : Int) < (t.length : Int) := by have := HKT.out; omega
            have p2 : (j : Int) < (M.length : Int) := by have := HJM.out; omega
            go_wp2
            go_roundw
            case rel => exact ⟨j + 1, by omega, by go_num, HBW.out.trans (HBy.out.mono HBW.out.size)⟩
            case measure => simp [intOf]; omega
        · skip
          go_simp
          have hba := (Below.refl v0.heap.size v0).alloc (Nat.le_refl _) (.cells #[.int .i64 s] 3)
          have zzn6 : v0.heap.size < (v0.alloc (.cells #[.int .i64 s] 3)).heap.size := by simp
          have ZZn6 := Lib.hid zzn6; clear zzn6
          have STRn6 := Lib.hid (show (v0.alloc (.cells #[.int .i64 s] 3)).cell? ⟨v0.heap.size, 0, none⟩ = some (.int .i64 s) by go_simp)
          have HBn6 := Lib.hid (HBv0.out.trans (hba.mono HBv0.out.size))
          refine on_held hK (by decide) (HKS.out.below HBn6.out) (fun hSn6 => ?_)
          clear hK K hba
          generalize v0.alloc (.cells #[.int .i64 s] 3) = n6 at *
          try simp only [List.getElem_toArray, List.getElem_cons_zero, List.getElem_cons_succ, Act.put, List.setIfInBounds_toArray, List.set_cons_zero, List.set_cons_succ]
          refine Left.ready (rs := [1]) (by kernel_rfl) (by simp) ?_
          refine Nexts.cons rfl (fun K hK => ?_) Nexts.nil
          go_simp
          have hba := (Below.refl n6.heap.size n6).alloc (Nat.le_refl _) (.cells #[] 3)
          have zzn7 : n6.heap.size < (n6.alloc (.cells #[] 3)).heap.size := by simp
          have ZZn7 := Lib.hid zzn7; clear zzn7
          have OWNn7 := Lib.hid (World.ownsRow_lit (base := v0.heap.size) (e := 3) (size := 1) n6 #[] 0 HBn6.out.size (Nat.zero_le _) (by simp))
          have HBn7 := Lib.hid (HBn6.out.trans (hba.mono HBn6.out.size))
          have STRn7 := Lib.hid ((hba.cell (p := ⟨v0.heap.size, 0, none⟩) (by have := ZZn6.out; show v0.heap.size < n6.heap.size; omega)).trans STRn6.out)
          refine on_held hK (by decide) (HKS.out.below HBn7.out) (fun hSn7 => ?_)
          clear hK K hba
          generalize n6.alloc (.cells #[] 3) = n7 at *
          try simp only [List.getElem_toArray, List.getElem_cons_zero, List.getElem_cons_succ, Act.put, List.setIfInBounds_toArray, List.set_cons_zero, List.set_cons_succ]
          refine Left.ready (rs := [3]) (by kernel_rfl) (by simp) ?_
          refine Nexts.cons rfl (fun K hK => ?_) Nexts.nil
          refine step_append_src rfl _ _ 41 rfl v0.heap.size 3 j0 (.int .i64 0) 1 8 Tryz.underlying41 hj hy0 hy1 hy2 rfl (by decide) (.slice (some ⟨n6.heap.size, 0, none⟩) 0 0) 0 [] rfl OWNn7.out (.slice oa o.length oc) o.length (ints o) rfl (src_of_ints (HO0.out.below HBn7.out)) (by have := HOL.out; unfold maxLen; omega) (by have := HOL.out; omega) HBn7.out.size ?_
          intro cv n8 hown hgr
          have HBn8 := Lib.hid (HBn7.out.grown hgr HBn7.out.size (fun k hk => (World.ownsRow.lt OWNn7.out k hk).1))
          have ZZn8 := Lib.hid (show n7.heap.size ≤ n8.heap.size from hgr.size)
          rw [Nat.zero_add, List.nil_append] at hown
          have STRn8 := Lib.hid (((chg_grown hgr).cell (p := ⟨v0.heap.size, 0, none⟩) (by have := ZZn6.out; show v0.heap.size < n7.heap.size; have := ZZn7.out; omega) (fun e => by have e2 : n6.heap.size = v0.heap.size := by { simpa [Value.ownBlock] using e }; have := ZZn6.out; omega)).trans STRn7.out)
          obtain ⟨cd, cc, rfl⟩ := own_form hown
          have CPn8 := Lib.hid hown
          refine on_held hK (by decide) (HKS.out.below HBn8.out) (fun hSn8 => ?_)
          clear hK K hown hgr
          try simp only [List.getElem_toArray, List.getElem_cons_zero, List.getElem_cons_succ, Act.put, List.setIfInBounds_toArray, List.set_cons_zero, List.set_cons_succ]
          refine Left.ready (rs := [9]) (by kernel_rfl) (by simp) ?_
          refine Nexts.cons rfl (fun K hK => ?_) Nexts.nil
          refine step_append_lies _ rfl _ _ 41 rfl v0.heap.size 3 j0 (.int .i64 0) 1 8 Tryz.underlying41 hj hy0 hy1 hy2 rfl (by decide) (.slice cd o.length cc) o.length (ints o) rfl CPn8.out ⟨v0.heap.size, 0, none⟩ 1 1 [.int .i64 s] rfl rfl ?_ ?_ (by decide) (by have := HOL.out; unfold maxLen; omega) (by have := HOL.out; omega) HBn8.out.size _ rfl ?_
          · intro k2 y hy
            match k2, hy with
            | 0, hy => injection hy with hy; subst hy; rw [add0]; exact STRn8.out
          · intro y hy
            simp only [List.mem_cons, List.not_mem_nil, or_false] at hy
            subst hy; rfl
          intro g3 cap3 z hown hgr hat hlt3
          have HBz := Lib.hid (HBn8.out.grown hgr HBn8.out.size (fun k hk => (World.ownsRow.lt CPn8.out k hk).1))
          have HIz := Lib.hid (Ints.read (ints_of_owns (B := v0.heap.size) (l := o ++ [s]) (u := .slice (some ⟨g3, 0, none⟩) (o.length + 1) cap3) (v := z) (by rw [List.length_append, show ints (o ++ [s]) = ints o ++ [.int .i64 s] by simp]; exact hown) (by have := HOL.out; simp; omega)))
          refine on_held hK (by decide) (HKS.out.below HBz.out) (fun hSz => ?_)
          clear hK K hown hgr hat
          try simp only [List.getElem_toArray, List.getElem_cons_zero, List.getElem_cons_succ, Act.put, List.setIfInBounds_toArray, List.set_cons_zero, List.set_cons_succ]
          refine Left.ready (rs := [10]) (by kernel_rfl) (by simp) ?_
          refine Nexts.cons rfl (fun K hK => ?_) Nexts.nil
          go_simp
          refine (impl_walkTrie _ _ t (o ++ [s]) _ (HU0.out.below HBz.out) HIz.out HX.out (HE0.out.below HBz.out HE0.out.size)).mono ?_
          rintro e y ⟨rfl, hb⟩
          rw [HST.out]
          have HBy := Lib.hid (HBz.out.trans (hb.mono HBz.out.size))
          refine on_held hK (by decide) (HKS.out.below HBy.out) (fun hSy => ?_)
          clear hK K hb
          try simp only [List.getElem_toArray, List.getElem_cons_zero, List.getElem_cons_succ, Act.put, List.setIfInBounds_toArray, List.set_cons_zero, List.set_cons_succ]
          refine Left.take (i := 11) (v := .tuple #[.int .i64 cm, .bool true]) rfl (by kernel_rfl) (by kernel_rfl) (by kernel_rfl) (by kernel_rfl) (fun _ _ _ h => h) (Or.inl ⟨by rfl, fun z hz => ?_⟩) hSy ?_
          · obtain ⟨z1, z2, z3, z4⟩ := hz
            go_simp
          try simp only [List.getElem_toArray, List.getElem_cons_zero, List.getElem_cons_succ, Act.put, List.setIfInBounds_toArray, List.set_cons_zero, List.set_cons_succ]
          refine Left.take (i := 12) (v := .int .i64 cm) rfl (by kernel_rfl) (by kernel_rfl) (by kernel_rfl) (by kernel_rfl) (fun _ _ _ h => h) (Or.inl ⟨by rfl, fun z hz => ?_⟩) hSy ?_
          · obtain ⟨z1, z2, z3, z4⟩ := hz
            go_simp
          try simp only [List.getElem_toArray, List.getElem_cons_zero, List.getElem_cons_succ, Act.put, List.setIfInBounds_toArray, List.set_cons_zero, List.set_cons_succ]
          refine Left.take (i := 13) (v := .bool true) rfl (by kernel_rfl) (by kernel_rfl) (by kernel_rfl) (by kernel_rfl) (fun _ _ _ h => h) (Or.inl ⟨by rfl, fun z hz => ?_⟩) hSy ?_
          · obtain ⟨z1, z2, z3, z4⟩ := hz
            go_simp
          try simp only [List.getElem_toArray, List.getElem_cons_zero, List.getElem_cons_succ, Act.put, List.setIfInBounds_toArray, List.set_cons_zero, List.set_cons_succ]
          refine Left.take (i := 14) (v := .int .i64 cm) rfl (by kernel_rfl) (by kernel_rfl) (by kernel_rfl) (by kernel_rfl) (fun _ _ _ h => h) (Or.inl ⟨by rfl, fun z hz => ?_⟩) hSy ?_
          · obtain ⟨z1, z2, z3, z4⟩ := hz
            go_simp
          try simp only [List.getElem_toArray, List.getElem_cons_zero, List.getElem_cons_succ, Act.put, List.setIfInBounds_toArray, List.set_cons_zero, List.set_cons_succ]
          refine Left.take (i := 15) (v := .bool true) rfl (by kernel_rfl) (by kernel_rfl) (by kernel_rfl) (by kernel_rfl) (fun _ _ _ h => h) (Or.inl ⟨by rfl, fun z hz => ?_⟩) hSy ?_
          · obtain ⟨z1, z2, z3, z4⟩ := hz
            go_simp
          try simp only [List.getElem_toArray, List.getElem_cons_zero, List.getElem_cons_succ, Act.put, List.setIfInBounds_toArray, List.set_cons_zero, List.set_cons_succ]
          refine Left.done (by kernel_rfl) ?_ _
          clear hSy hSz
          obtain ⟨q0, _⟩ := HT0.out.below HBy.out
          obtain ⟨gt2, ot2, hga, hgl, xx, yy, d0, d1, d2, d3, hxx, hyy⟩ := (HU0.out.below HBy.out).at k HKT.out
          injection hga with hga
          injection hga with e1 e2 e3
          subst e1 e2
          rw [HKM.out HKT.out] at hyy
          obtain ⟨ya, yc, hye, _, _⟩ := id hyy
          subst hye
          obtain ⟨gy, oy, hga2, hgl2, d4⟩ := hyy.at j HJM.out
          subst hga2
          rw [HCM.out] at d4
          clear d0 d2 d3 hxx
          have p1 : (k : Int) < (t.length : Int) := by have := HKT.out; omega
          have p2 : (j : Int) < (M.length : Int) := by have := HJM.out; omega
          go_wp2
          go_roundw
          case rel => exact ⟨j + 1, by omega, by go_num, HBW.out.trans (HBy.out.mono HBW.out.size)⟩
          case measure => simp [intOf]; omega
      · have i1 : (j : Int) < (L.length : Int) := by omega
        have i2 : ¬ (o.length : Int) < 60 := by omega
        clear hb
        go_wp2
        go_ret
        exact ⟨rfl, HB4.out.trans (HBW.out.mono HB4.out.size)⟩
    · have i1 : ¬ (j : Int) < (L.length : Int) := by omega
      clear hb
      go_wp2
      go_ret
      exact ⟨rfl, HB4.out.trans (HBW.out.mono HB4.out.size)⟩
end Go.Proofs.YtojcfpjoikmgcaaGreatDoor
