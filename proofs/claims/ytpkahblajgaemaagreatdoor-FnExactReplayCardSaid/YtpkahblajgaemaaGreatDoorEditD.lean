/- Rows of edits in the laws: held equal, marked, told. -/
import Derived.Deep.DeepCutAuto
import Derived.Deep.RegionHeld
import Derived.Test.YtpkahblajgaemaaGreatDoorFldD
namespace Go.Proofs.YtpkahblajgaemaaGreatDoor
namespace P
theorem markF_get (k : Int) : ∀ (n j : Nat) (h : j < (markF k n).length), (markF k n)[j] = (k + 2 * j, mtext (k + 2 * j + 1))
  | 0, j, h => absurd h (Nat.not_lt_zero _)
  | n + 1, j, h => by
    have hn : j < n + 1 := by rw [markF_len] at h; exact h
    have e : markF k (n + 1) = markF k n ++ [(k + 2 * (n : Int), mtext (k + 2 * n + 1))] := rfl
    by_cases hj : j < n
    · rw [List.getElem_of_eq e, List.getElem_append_left (by rw [markF_len]; exact hj)]
      exact markF_get k n j _
    · have : j = n := by omega
      subst this
      rw [List.getElem_of_eq e, List.getElem_append_right (by rw [markF_len]; exact Nat.le_refl _)]
      simp
end P
open Go Go.RowKit
set_option maxHeartbeats 2000000
set_option maxRecDepth 100000
theorem eqEdit (n : Int) (t : Str) (w : World) :
    Calls Tryz.prog 35 #[.agg #[.int .i64 n, .string (S t)], .agg #[.int .i64 n, .string (S t)]] w fun e w' => e = .returned (.bool true) ∧ Below w.heap.size w w' := by
  have hb0 : Below w.heap.size w ((w.alloc (.cells #[.int .i64 n, .string (S t)] 38)).alloc (.cells #[.int .i64 n, .string (S t)] 38)) :=
    ((Below.refl w.heap.size w).alloc (Nat.le_refl _) _).alloc (by simp) _
  have HB0 := Lib.hid hb0; clear hb0
  go_enter Tryz.func35, Tryz.ntmps35
  go_wp2
  go_ret
  exact ⟨rfl, by first | exact HB0.out | exact below_drewN HB0.out _⟩
theorem eqEditS (u v : Value) (l : P.Folds) (w : World) (hu : FldR w u l) (hv : FldR w v l) :
    Calls Tryz.prog 41 #[u, v] w fun e w' => e = .returned (.bool true) ∧ Below w.heap.size w w' := by
  have HU := Lib.hid hu; have HV := Lib.hid hv
  obtain ⟨ad, cap, rfl, hla, _⟩ := hu
  obtain ⟨bd, dap, rfl, _, _⟩ := hv
  go_enter Tryz.func41, Tryz.ntmps41
  go_wp2
  go_loopw [5] (fun i wr => ∃ j : Nat, j ≤ l.length ∧ i = .int .i64 j ∧ Below w.heap.size w wr) (fun i _ => l.length - (intOf i).toNat)
  case atStart => exact ⟨0, Nat.zero_le _, rfl, Below.refl _ _⟩
  case round =>
    obtain ⟨j, hj, rfl, hb⟩ := hrel
    have HB := Lib.hid hb
    by_cases hlt : j < l.length
    · obtain ⟨c, p, hga, hgl, c0, c1⟩ := (HU.out.below hb).at j hlt
      obtain ⟨g, q, hgb, hgl', d0, d1⟩ := (HV.out.below hb).at j hlt
      subst hga hgb
      have HS := Lib.hid (show KF w c (p + j * 2) g (q + j * 2) l[j].1 l[j].2 wr.drew from KF.step ⟨c0, c1, d0, d1, hgl, hgl', hb.size, hb⟩ (Below.refl _ _).drew)
      generalize l[j] = en at *
      obtain ⟨eo, et⟩ := en
      simp only at c0 c1 d0 d1 HS
      clear hb
      have i1 : (j : Int) < (l.length : Int) := by omega
      go_upto_region 6 with fail
      refine wp_region_held_drew (S := KF w c (p + j * 2) g (q + j * 2) eo et) (by kernel_rfl) HS.out (fun hS0 => ?_)
      refine wpAnyH_take (i := 0) (v := .slice (some ⟨c, p, none⟩) l.length cap) rfl (by kernel_rfl) (by kernel_rfl) (by kernel_rfl) (fun _ _ _ h => h) (Or.inl ⟨by rfl, fun z hz => ?_⟩) hS0 ?_
      · obtain ⟨z1, z2, z3, z4, z5, z6⟩ := hz
        go_simp
      try simp only [List.getElem_toArray, List.getElem_cons_zero, Act.put, List.setIfInBounds_toArray, List.set_cons_zero, List.set_cons_succ]
      refine wpAnyH_take (i := 1) (v := .int .i64 j) rfl (by kernel_rfl) (by kernel_rfl) (by kernel_rfl) (fun _ _ _ h => h) (Or.inl ⟨by rfl, fun z hz => ?_⟩) hS0 ?_
      · obtain ⟨z1, z2, z3, z4, z5, z6⟩ := hz
        go_simp
      try simp only [List.getElem_toArray, List.getElem_cons_zero, List.getElem_cons_succ, Act.put, List.setIfInBounds_toArray, List.set_cons_zero, List.set_cons_succ]
      refine wpAnyH_take (i := 2) (v := .pointer (some ⟨c, p + j * 2, none⟩)) rfl (by kernel_rfl) (by kernel_rfl) (by kernel_rfl) (fun _ _ _ h => h) (Or.inl ⟨by rfl, fun z hz => ?_⟩) hS0 ?_
      · obtain ⟨z1, z2, z3, z4, z5, z6⟩ := hz
        go_simp
      try simp only [List.getElem_toArray, List.getElem_cons_zero, List.getElem_cons_succ, Act.put, List.setIfInBounds_toArray, List.set_cons_zero, List.set_cons_succ]
      refine wpAnyH_take (i := 3) (v := .agg #[.int .i64 eo, .string (S et)]) rfl (by kernel_rfl) (by kernel_rfl) (by kernel_rfl) (fun _ _ _ h => h) (Or.inl ⟨by rfl, fun z hz => ?_⟩) hS0 ?_
      · obtain ⟨z1, z2, z3, z4, z5, z6⟩ := hz
        go_simp
      try simp only [List.getElem_toArray, List.getElem_cons_zero, List.getElem_cons_succ, Act.put, List.setIfInBounds_toArray, List.set_cons_zero, List.set_cons_succ]
      refine wpAnyH_take (i := 4) (v := .slice (some ⟨g, q, none⟩) l.length dap) rfl (by kernel_rfl) (by kernel_rfl) (by kernel_rfl) (fun _ _ _ h => h) (Or.inl ⟨by rfl, fun z hz => ?_⟩) hS0 ?_
      · obtain ⟨z1, z2, z3, z4, z5, z6⟩ := hz
        go_simp
      try simp only [List.getElem_toArray, List.getElem_cons_zero, List.getElem_cons_succ, Act.put, List.setIfInBounds_toArray, List.set_cons_zero, List.set_cons_succ]
      refine wpAnyH_take (i := 5) (v := .int .i64 j) rfl (by kernel_rfl) (by kernel_rfl) (by kernel_rfl) (fun _ _ _ h => h) (Or.inl ⟨by rfl, fun z hz => ?_⟩) hS0 ?_
      · obtain ⟨z1, z2, z3, z4, z5, z6⟩ := hz
        go_simp
      try simp only [List.getElem_toArray, List.getElem_cons_zero, List.getElem_cons_succ, Act.put, List.setIfInBounds_toArray, List.set_cons_zero, List.set_cons_succ]
      refine wpAnyH_take (i := 6) (v := .pointer (some ⟨g, q + j * 2, none⟩)) rfl (by kernel_rfl) (by kernel_rfl) (by kernel_rfl) (fun _ _ _ h => h) (Or.inl ⟨by rfl, fun z hz => ?_⟩) hS0 ?_
      · obtain ⟨z1, z2, z3, z4, z5, z6⟩ := hz
        go_simp
      try simp only [List.getElem_toArray, List.getElem_cons_zero, List.getElem_cons_succ, Act.put, List.setIfInBounds_toArray, List.set_cons_zero, List.set_cons_succ]
      refine wpAnyH_take (i := 7) (v := .agg #[.int .i64 eo, .string (S et)]) rfl (by kernel_rfl) (by kernel_rfl) (by kernel_rfl) (fun _ _ _ h => h) (Or.inl ⟨by rfl, fun z hz => ?_⟩) hS0 ?_
      · obtain ⟨z1, z2, z3, z4, z5, z6⟩ := hz
        go_simp
      try simp only [List.getElem_toArray, List.getElem_cons_zero, List.getElem_cons_succ, Act.put, List.setIfInBounds_toArray, List.set_cons_zero, List.set_cons_succ]
      refine wpAnyH_ready (rs := [8]) (by kernel_rfl) (by simp) ?_
      refine AllReadyH.cons rfl (fun K hK => ?_) AllReadyH.nil
      have HS1 := Lib.hid hS0
      go_simp
      refine (eqEdit eo et _).mono ?_
      rintro e v ⟨rfl, hb⟩
      refine hK.out _ _ (HS1.out.step hb) (fun hS1 => ?_)
      clear hK K hb
      try simp only [List.getElem_toArray, List.getElem_cons_zero, List.getElem_cons_succ, Act.put, List.setIfInBounds_toArray, List.set_cons_zero, List.set_cons_succ]
      refine wpAnyH_take (i := 9) (v := .bool false) rfl (by kernel_rfl) (by kernel_rfl) (by kernel_rfl) (fun _ _ _ h => h) (Or.inl ⟨by rfl, fun z hz => ?_⟩) hS1 ?_
      · obtain ⟨z1, z2, z3, z4, z5, z6⟩ := hz
        go_simp
      try simp only [List.getElem_toArray, List.getElem_cons_zero, List.getElem_cons_succ, Act.put, List.setIfInBounds_toArray, List.set_cons_zero, List.set_cons_succ]
      refine wpAnyH_done (by kernel_rfl) ?_ _
      have HB2 := Lib.hid (hS1.2.2.2.2.2.2.2)
      clear hS0 hS1 HS1
      go_wp2
      go_roundw
      case rel => exact ⟨j + 1, by omega, by go_num, HB2.out⟩
      case measure => simp [intOf]; omega
    · clear hb
      go_wp2
      go_ret
      exact ⟨rfl, HB.out⟩
theorem markEditS (u : Value) (l : P.Folds) (k : Int) (F : Blk) (w : World) (hu : Flds w F u l) (hk0 : 0 ≤ k) (hk : k ≤ 2 ^ 40) :
    Calls Tryz.prog 42 #[u, .int .i64 k] w fun e w' => e = .returned (.int .i64 (k + 2 * l.length)) ∧ Flds w' F u (P.markF k l.length) ∧ Chg F w w' := by
  obtain ⟨ad, cap, rfl, hl, hnil, hc0⟩ := hu
  have HNIL := Lib.hid hnil; clear hnil
  have HC := Lib.hid (show MarkF w F ad k 0 l w from ⟨Chg.refl _ _, hc0.imp id fun ⟨g, o, G, C, h1, h2⟩ => ⟨g, o, G, C, l, h1, rfl, rfl, h2⟩⟩)
  clear hc0
  go_enter Tryz.func42, Tryz.ntmps42
  go_wp2
  go_loopw [1, 5] (fun kk i wr => ∃ j : Nat, j ≤ l.length ∧ i = .int .i64 j ∧ kk = .int .i64 (k + 2 * j) ∧ MarkF w F ad k j l wr) (fun _ i _ => l.length - (intOf i).toNat)
  case atStart => exact ⟨0, Nat.zero_le _, rfl, by simp, HC.out⟩
  case round =>
    obtain ⟨j, hj, rfl, rfl, hm⟩ := hrel
    have HM := Lib.hid hm; clear hm
    by_cases hlt : j < l.length
    · obtain ⟨g, o, x, y, rfl, hgs, c0, c1, f0, f1, hput⟩ := HM.out.cells hlt
      have HPUT := Lib.hid hput; clear hput
      have i1 : (j : Int) < (l.length : Int) := by omega
      obtain ⟨kk, hkk⟩ : ∃ kk : Int, kk = k + 2 * j := ⟨_, rfl⟩
      have HKK := Lib.hid hkk
      have k0 : 0 ≤ kk := by omega
      have k1 : kk ≤ 2 ^ 40 + 2 ^ 31 := by omega
      rw [← hkk] at HPUT ⊢
      clear hkk
      go_wp2_with fail
      refine (markText _ _ (by omega) (by omega)).mono ?_
      rintro e v2 ⟨rfl, hb2⟩
      have hcell2 : v2.cell? ⟨g, o + j * 2 + 1, none⟩ = some y := (hb2.cell (p := ⟨g, o + j * 2 + 1, none⟩) (by simpa [World.setCell] using hgs)).trans (by go_simp)
      have hfrz2 : v2.frozen? ⟨g, o + j * 2 + 1, none⟩ = false := (hb2.frozen (p := ⟨g, o + j * 2 + 1, none⟩) (by simpa [World.setCell] using hgs)).trans (by go_simp)
      have HN := Lib.hid (HPUT.out v2 hb2)
      clear hb2
      generalize P.mtext (kk + 1) = tx at *
      go_wp2
      go_roundw
      case rel => exact ⟨j + 1, by omega, by go_num, by rw [HKK.out]; go_num, HN.out⟩
      case measure => simp [intOf]; omega
    · have hjl : j = l.length := by omega
      subst hjl
      go_wp2
      go_ret
      obtain ⟨hch, h⟩ := HM.out
      refine ⟨rfl, ⟨ad, cap, by rw [P.markF_len], by rw [P.markF_len]; exact hl, ⟨HNIL.out.1, by rw [P.markF_len]; exact HNIL.out.2⟩, ?_⟩, hch⟩
      rcases h with rfl | ⟨g, o, G, C, m, hg, hm, ht, hr⟩
      · exact .inl rfl
      · rw [List.take_of_length_le (by omega)] at ht
        subst ht
        exact .inr ⟨g, o, G, C, hg, hr⟩
theorem heldEditS (u : Value) (n : Nat) (k : Int) (w : World) (hu : FldR w u (P.markF k n)) (hk0 : 0 ≤ k) (hk : k ≤ 2 ^ 40) (hn : n ≤ 2 ^ 30) :
    Calls Tryz.prog 43 #[u, .int .i64 k] w fun e w' => e = .returned (.int .i64 (k + 2 * n)) ∧ Below w.heap.size w w' := by
  have HU := Lib.hid hu
  obtain ⟨ad, cap, rfl, _, _⟩ := hu
  rw [P.markF_len] at HU
  rw [P.markF_len]
  go_enter Tryz.func43, Tryz.ntmps43
  go_wp2
  go_loopw [1, 5] (fun kk i wr => ∃ j : Nat, j ≤ n ∧ i = .int .i64 j ∧ kk = .int .i64 (k + 2 * j) ∧ Below w.heap.size w wr) (fun _ i _ => n - (intOf i).toNat)
  case atStart => exact ⟨0, Nat.zero_le _, rfl, by simp, Below.refl _ _⟩
  case round =>
    obtain ⟨j, hj, rfl, rfl, hb⟩ := hrel
    have HB := Lib.hid hb
    by_cases hlt : j < n
    · obtain ⟨g, o, hga, hgs, c0, c1⟩ := (FldR.below HU.out hb).at j (by rw [P.markF_len]; exact hlt)
      rw [P.markF_get] at c0 c1
      subst hga
      simp only at c0 c1
      obtain ⟨kk, hkk⟩ : ∃ kk : Int, kk = k + 2 * j := ⟨_, rfl⟩
      have HKK := Lib.hid hkk
      have k0 : 0 ≤ kk := by omega
      have k1 : kk ≤ 2 ^ 40 + 2 ^ 31 := by omega
      rw [← hkk] at c0 c1 ⊢
      clear hkk
      have hbz := hb.size
      have i1 : (j : Int) < (n : Int) := by omega
      have HS := Lib.hid (show HeldS w g (o + j * 2 + 1) (.string (S (P.mtext (kk + 1)))) wr.drew from ⟨c1, hgs, hbz, HB.out.drew⟩)
      clear hb
      go_upto_region 7 with fail
      refine wp_region_held_drew (S := HeldS w g (o + j * 2 + 1) (.string (S (P.mtext (kk + 1))))) (by kernel_rfl) HS.out (fun hS0 => ?_)
      refine wpAnyH_take (i := 0) (v := .slice (some ⟨g, o, none⟩) n cap) rfl (by kernel_rfl) (by kernel_rfl) (by kernel_rfl) (fun _ _ _ h => h) (Or.inl ⟨by rfl, fun z hz => ?_⟩) hS0 ?_
      · obtain ⟨z1, z2, z3, z4⟩ := hz
        go_simp
      try simp only [List.getElem_toArray, List.getElem_cons_zero, Act.put, List.setIfInBounds_toArray, List.set_cons_zero, List.set_cons_succ]
      refine wpAnyH_take (i := 1) (v := .int .i64 j) rfl (by kernel_rfl) (by kernel_rfl) (by kernel_rfl) (fun _ _ _ h => h) (Or.inl ⟨by rfl, fun z hz => ?_⟩) hS0 ?_
      · obtain ⟨z1, z2, z3, z4⟩ := hz
        go_simp
      try simp only [List.getElem_toArray, List.getElem_cons_zero, List.getElem_cons_succ, Act.put, List.setIfInBounds_toArray, List.set_cons_zero, List.set_cons_succ]
      refine wpAnyH_take (i := 2) (v := .pointer (some ⟨g, o + j * 2, none⟩)) rfl (by kernel_rfl) (by kernel_rfl) (by kernel_rfl) (fun _ _ _ h => h) (Or.inl ⟨by rfl, fun z hz => ?_⟩) hS0 ?_
      · obtain ⟨z1, z2, z3, z4⟩ := hz
        go_simp
      try simp only [List.getElem_toArray, List.getElem_cons_zero, List.getElem_cons_succ, Act.put, List.setIfInBounds_toArray, List.set_cons_zero, List.set_cons_succ]
      refine wpAnyH_take (i := 3) (v := .pointer (some ⟨g, o + j * 2 + 1, none⟩)) rfl (by kernel_rfl) (by kernel_rfl) (by kernel_rfl) (fun _ _ _ h => h) (Or.inl ⟨by rfl, fun z hz => ?_⟩) hS0 ?_
      · obtain ⟨z1, z2, z3, z4⟩ := hz
        go_simp
      try simp only [List.getElem_toArray, List.getElem_cons_zero, List.getElem_cons_succ, Act.put, List.setIfInBounds_toArray, List.set_cons_zero, List.set_cons_succ]
      refine wpAnyH_take (i := 4) (v := .string (S (P.mtext (kk + 1)))) rfl (by kernel_rfl) (by kernel_rfl) (by kernel_rfl) (fun _ _ _ h => h) (Or.inl ⟨by rfl, fun z hz => ?_⟩) hS0 ?_
      · obtain ⟨z1, z2, z3, z4⟩ := hz
        go_simp
      try simp only [List.getElem_toArray, List.getElem_cons_zero, List.getElem_cons_succ, Act.put, List.setIfInBounds_toArray, List.set_cons_zero, List.set_cons_succ]
      refine wpAnyH_take (i := 5) (v := .int .i64 (kk + 1)) rfl (by kernel_rfl) (by kernel_rfl) (by kernel_rfl) (fun _ _ _ h => h) (Or.inl ⟨by rfl, fun z hz => ?_⟩) hS0 ?_
      · obtain ⟨z1, z2, z3, z4⟩ := hz
        go_simp
      try simp only [List.getElem_toArray, List.getElem_cons_zero, List.getElem_cons_succ, Act.put, List.setIfInBounds_toArray, List.set_cons_zero, List.set_cons_succ]
      refine wpAnyH_ready (rs := [6]) (by kernel_rfl) (by simp) ?_
      refine AllReadyH.cons rfl (fun K hK => ?_) AllReadyH.nil
      have HS1 := Lib.hid hS0
      go_simp
      refine (markText _ _ (by omega) (by omega)).mono ?_
      rintro e v ⟨rfl, hb⟩
      refine hK.out _ _ (HS1.out.step hb) (fun hS1 => ?_)
      clear hK K hb
      try simp only [List.getElem_toArray, List.getElem_cons_zero, List.getElem_cons_succ, Act.put, List.setIfInBounds_toArray, List.set_cons_zero, List.set_cons_succ]
      refine wpAnyH_take (i := 7) (v := .bool false) rfl (by kernel_rfl) (by kernel_rfl) (by kernel_rfl) (fun _ _ _ h => h) (Or.inl ⟨by rfl, fun z hz => ?_⟩) hS1 ?_
      · obtain ⟨z1, z2, z3, z4⟩ := hz
        go_simp
      try simp only [List.getElem_toArray, List.getElem_cons_zero, List.getElem_cons_succ, Act.put, List.setIfInBounds_toArray, List.set_cons_zero, List.set_cons_succ]
      refine wpAnyH_done (by kernel_rfl) ?_ _
      have HB2 := Lib.hid (hS1.2.2.2)
      clear hS0 hS1 HS1
      go_wp2
      go_roundw
      case rel => exact ⟨j + 1, by omega, by go_num, by rw [HKK.out]; go_num, HB2.out⟩
      case measure => simp [intOf]; omega
    · have hjl : j = n := by omega
      subst hjl
      clear hb
      go_wp2
      go_ret
      exact ⟨rfl, HB.out⟩
end Go.Proofs.YtpkahblajgaemaaGreatDoor
