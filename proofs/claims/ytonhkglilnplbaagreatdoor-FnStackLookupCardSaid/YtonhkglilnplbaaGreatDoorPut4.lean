/- Walks: an entry put into a dictionary (reference): the result's row as a whole. -/
import Derived.Test.YtonhkglilnplbaaGreatDoorPut3
import Derived.Test.YtonhkglilnplbaaGreatDoorCurE1
set_option linter.all false
namespace Go.Proofs.YtonhkglilnplbaaGreatDoor
open Go Go.RowKit
set_option maxHeartbeats 8000000
set_option maxRecDepth 100000

/-- a dictionary of the call's own, its row known as a whole -/
def DicPostO (l : P.Dic) (w : World) (e : Ending) (w' : World) : Prop := ∃ u, e = .returned (.agg #[u]) ∧ Ents w' (Bet w.heap.size w'.heap.size) u l ∧ (∃ B xs, w.heap.size ≤ B ∧ w'.ownsRow B 36 2 u l.length xs) ∧ Below w.heap.size w w'
theorem PInv.whole {w v : World} {dv x y u : Value} {o : List Int} {t : Str} {C B1 : Nat} {F : Blk} {put : Bool} {row : P.Dic} {xs : List Value} (h : PInv w dv x o t C y F B1 put row u xs v) (hf : PFix w.heap.size C B1 F) (z : Value) : (v.setCell ⟨w.heap.size + 2, 0, none⟩ z).ownsRow B1 36 2 u row.length xs := by
  have h1 := hf.b1
  refine owns_stand h.2.2.2.1.owns ((Chg.refl (fun b => b = w.heap.size + 2) v).setCell (p := ⟨w.heap.size + 2, 0, none⟩) rfl z) fun k hk e => ?_
  have := (World.ownsRow.lt h.2.2.2.1.owns k hk).1
  omega
theorem l6PutO (dv x : Value) (l : P.Dic) (o : List Int) (t : Str) (w : World) (hu : EntR w dv l) (ho : IntR w x o) (hl : l.length ≤ 2 ^ 20) (hle : ∀ e ∈ l, e.1.length ≤ 2 ^ 20) (hol : o.length ≤ 2 ^ 20) :
    Calls Tryz.prog 92 #[.agg #[dv], .agg #[x, .string (S t)]] w (DicPostO (P.putF (o, t) false l) w) := by
  obtain ⟨i0, hi, hz0, hz1, hz2⟩ := info_parts info_ent
  have hb0 : Below w.heap.size w ((((w.alloc (.cells #[dv] 32)).alloc (.cells #[x, .string (S t)] 36)).alloc (.cells #[.slice none 0 0] 32)).alloc (.cells #[.slice none 0 0] 32)) := ((((Below.refl w.heap.size w).alloc (Nat.le_refl _) _).alloc (by simp) _).alloc (by simp; omega) _).alloc (by simp; omega) _
  have HU := Lib.hid hu; have HO := Lib.hid (ho.below hb0); have HOW0 := Lib.hid ho
  have HBX := Lib.hid (show PBx w.heap.size dv x t (.slice none 0 0) ((((w.alloc (.cells #[dv] 32)).alloc (.cells #[x, .string (S t)] 36)).alloc (.cells #[.slice none 0 0] 32)).alloc (.cells #[.slice none 0 0] 32)) by refine ⟨?_, ?_, ?_, ?_, ?_, ?_, ?_⟩ <;> go_simp)
  have HB0 := Lib.hid hb0; clear hb0
  have HZ4 := Lib.hid (show ((((w.alloc (.cells #[dv] 32)).alloc (.cells #[x, .string (S t)] 36)).alloc (.cells #[.slice none 0 0] 32)).alloc (.cells #[.slice none 0 0] 32)).heap.size = w.heap.size + 4 by simp)
  have HLE := Lib.hid hle; clear hle
  obtain ⟨dad, dcap, rfl, _, _⟩ := hu
  obtain ⟨od, oc, rfl, _, _⟩ := ho
  have HOD := Lib.hid (HO.out.below (Below.refl _ _).drew)
  have HBXD := Lib.hid (HBX.out.step (Below.refl _ _).drew)
  have HBD := Lib.hid (HB0.out.trans (Below.refl _ _).drew)
  have HS := Lib.hid (show KR3 w.heap.size (.slice od o.length oc) t ((((w.alloc (.cells #[.slice dad l.length dcap] 32)).alloc (.cells #[.slice od o.length oc, .string (S t)] 36)).alloc (.cells #[.slice none 0 0] 32)).alloc (.cells #[.slice none 0 0] 32)).drew from ⟨HBXD.out.2.1, HBXD.out.2.2.1⟩)
  go_enter Tryz.func92, Tryz.ntmps92
  go_upto_region 3 with fail
  go_cut [7] (fun p wx => ∃ (C : Nat) (y : Value) (F : Blk), p = .pointer (some ⟨C, 0, none⟩) ∧ PAhead w (.slice dad l.length dcap) (.slice od o.length oc) o t C y F wx)
  case first =>
    have zd : ((((w.alloc (.cells #[.slice dad l.length dcap] 32)).alloc (.cells #[.slice od o.length oc, .string (S t)] 36)).alloc (.cells #[.slice none 0 0] 32)).alloc (.cells #[.slice none 0 0] 32)).drew.heap.size = w.heap.size + 4 := HZ4.out
    have ZD := Lib.hid zd; clear zd
    refine wp_region_held_drew (S := KR3 w.heap.size (.slice od o.length oc) t) (by kernel_rfl) HS.out (fun hS0 => ?_)
    refine wpAnyH_take (i := 0) (v := .pointer (some ⟨w.heap.size + 1, 0, none⟩)) rfl (by kernel_rfl) (by kernel_rfl) (by kernel_rfl) (fun _ _ _ h => h) (Or.inl ⟨by rfl, fun z hz => ?_⟩) hS0 ?_
    · obtain ⟨z1, z2⟩ := hz
      go_simp
    try simp only [List.getElem_toArray, List.getElem_cons_zero, Act.put, List.setIfInBounds_toArray, List.set_cons_zero, List.set_cons_succ]
    refine wpAnyH_take (i := 1) (v := .slice od o.length oc) rfl (by kernel_rfl) (by kernel_rfl) (by kernel_rfl) (fun _ _ _ h => h) (Or.inl ⟨by rfl, fun z hz => ?_⟩) hS0 ?_
    · obtain ⟨z1, z2⟩ := hz
      go_simp
    try simp only [List.getElem_toArray, List.getElem_cons_zero, List.getElem_cons_succ, Act.put, List.setIfInBounds_toArray, List.set_cons_zero, List.set_cons_succ]
    refine wpAnyH_take (i := 3) (v := .pointer (some ⟨w.heap.size + 1, 1, none⟩)) rfl (by kernel_rfl) (by kernel_rfl) (by kernel_rfl) (fun _ _ _ h => h) (Or.inl ⟨by rfl, fun z hz => ?_⟩) hS0 ?_
    · obtain ⟨z1, z2⟩ := hz
      go_simp
    try simp only [List.getElem_toArray, List.getElem_cons_zero, List.getElem_cons_succ, Act.put, List.setIfInBounds_toArray, List.set_cons_zero, List.set_cons_succ]
    refine wpAnyH_take (i := 4) (v := .string (S t)) rfl (by kernel_rfl) (by kernel_rfl) (by kernel_rfl) (fun _ _ _ h => h) (Or.inl ⟨by rfl, fun z hz => ?_⟩) hS0 ?_
    · obtain ⟨z1, z2⟩ := hz
      go_simp
    try simp only [List.getElem_toArray, List.getElem_cons_zero, List.getElem_cons_succ, Act.put, List.setIfInBounds_toArray, List.set_cons_zero, List.set_cons_succ]
    refine wpAnyH_ready (rs := [2, 6]) (by kernel_rfl) (by simp) ?_
    refine AllReadyH.cons rfl (fun K hK => ?_) (AllReadyH.cons rfl (fun K hK => ?_) AllReadyH.nil)
    · skip
      go_simp
      refine (l1Own _ o _ HOD.out (by omega)).mono ?_
      rintro e v1 ⟨x1, rfl, hI, hb⟩
      rw [ZD.out] at hI
      have hz1' : w.heap.size + 4 ≤ v1.heap.size := by have := hb.size; rw [ZD.out] at this; exact this
      rw [ZD.out] at hb
      refine hK.out _ _ (hS0.step hb) (fun hS1 => ?_)
      clear hK K
      have HBX1 := Lib.hid (HBXD.out.step hb)
      have HB1 := Lib.hid (HBD.out.trans (hb.mono (by omega)))
      have HI := Lib.hid hI
      obtain ⟨xd, xc, rfl, _, _⟩ := hI
      clear hb
      try simp only [List.getElem_toArray, List.getElem_cons_zero, List.getElem_cons_succ, Act.put, List.setIfInBounds_toArray, List.set_cons_zero, List.set_cons_succ]
      refine wpAnyH_take (i := 5) (v := .agg #[.slice xd o.length xc, .string (S t)]) rfl (by kernel_rfl) (by kernel_rfl) (by kernel_rfl) (fun _ _ _ h => h) (Or.inl ⟨by rfl, fun z hz => ?_⟩) hS1 ?_
      · obtain ⟨z1, z2⟩ := hz
        go_simp
      try simp only [List.getElem_toArray, List.getElem_cons_zero, List.getElem_cons_succ, Act.put, List.setIfInBounds_toArray, List.set_cons_zero, List.set_cons_succ]
      refine wpAnyH_ready (rs := [6]) (by kernel_rfl) (by simp) ?_
      refine AllReadyH.cons rfl (fun K hK => ?_) AllReadyH.nil
      go_simp
      refine hK.out _ _ (hS1.step ((Below.refl _ _).alloc hz1' _)) (fun hS2 => ?_)
      clear hK K
      try simp only [List.getElem_toArray, List.getElem_cons_zero, List.getElem_cons_succ, Act.put, List.setIfInBounds_toArray, List.set_cons_zero, List.set_cons_succ]
      refine wpAnyH_ready (rs := [7]) (by kernel_rfl) (by simp) ?_
      refine AllReadyH.cons rfl (fun K hK => ?_) AllReadyH.nil
      go_simp
      refine hK.out _ _ (hS1.step ((Below.refl _ _).alloc hz1' _)) (fun hS3 => ?_)
      clear hK K
      try simp only [List.getElem_toArray, List.getElem_cons_zero, List.getElem_cons_succ, Act.put, List.setIfInBounds_toArray, List.set_cons_zero, List.set_cons_succ]
      refine wpAnyH_done (by kernel_rfl) ?_ _
      go_wp2_with fail
      go_meet
      refine ⟨v1.heap.size, .slice xd o.length xc, Bet (w.heap.size + 4) v1.heap.size, rfl, ?_, ⟨by go_simp, by go_simp, by simp⟩, ?_, ⟨by simp; omega, hz1', by simp, fun b hb => ⟨hb.1, by have := hb.2; simp; omega, by have := hb.2; omega⟩⟩, ?_⟩
      · exact HBX1.out.step ((Below.refl _ _).alloc hz1' _)
      · exact HI.out.stand intE_ok ((Chg.refl (fun _ => False) v1).alloc _) (fun b hb e => e)
      · exact HB1.out.alloc (by omega) _
    · skip
      go_simp
      have hba := (Below.refl ((((w.alloc (.cells #[.slice dad l.length dcap] 32)).alloc (.cells #[.slice od o.length oc, .string (S t)] 36)).alloc (.cells #[.slice none 0 0] 32)).alloc (.cells #[.slice none 0 0] 32)).drew.heap.size ((((w.alloc (.cells #[.slice dad l.length dcap] 32)).alloc (.cells #[.slice od o.length oc, .string (S t)] 36)).alloc (.cells #[.slice none 0 0] 32)).alloc (.cells #[.slice none 0 0] 32)).drew).alloc (Nat.le_refl _) (.cells #[.slice none 0 0, .string (S [])] 36)
      refine hK.out _ _ (hS0.step (hba.mono (by rw [ZD.out]; exact Nat.le_refl _))) (fun hS1 => ?_)
      clear hK K
      have HOD2 := Lib.hid (HOD.out.below hba)
      have HBXD2 := Lib.hid (HBXD.out.step (hba.mono (by rw [ZD.out]; exact Nat.le_refl _)))
      have HBD2 := Lib.hid (HBD.out.trans (hba.mono (by rw [ZD.out]; omega)))
      have ZD2 := Lib.hid (show (((((w.alloc (.cells #[.slice dad l.length dcap] 32)).alloc (.cells #[.slice od o.length oc, .string (S t)] 36)).alloc (.cells #[.slice none 0 0] 32)).alloc (.cells #[.slice none 0 0] 32)).drew.alloc (.cells #[.slice none 0 0, .string (S [])] 36)).heap.size = w.heap.size + 5 by simp)
      have c0 : (((((w.alloc (.cells #[.slice dad l.length dcap] 32)).alloc (.cells #[.slice od o.length oc, .string (S t)] 36)).alloc (.cells #[.slice none 0 0] 32)).alloc (.cells #[.slice none 0 0] 32)).drew.alloc (.cells #[.slice none 0 0, .string (S [])] 36)).cell? ⟨w.heap.size + 4, 0, none⟩ = some (.slice none 0 0) := by rw [← ZD.out]; go_simp
      have c1 : (((((w.alloc (.cells #[.slice dad l.length dcap] 32)).alloc (.cells #[.slice od o.length oc, .string (S t)] 36)).alloc (.cells #[.slice none 0 0] 32)).alloc (.cells #[.slice none 0 0] 32)).drew.alloc (.cells #[.slice none 0 0, .string (S [])] 36)).cell? ⟨w.heap.size + 4, 1, none⟩ = some (.string (S [])) := by rw [← ZD.out]; go_simp
      have f0 : (((((w.alloc (.cells #[.slice dad l.length dcap] 32)).alloc (.cells #[.slice od o.length oc, .string (S t)] 36)).alloc (.cells #[.slice none 0 0] 32)).alloc (.cells #[.slice none 0 0] 32)).drew.alloc (.cells #[.slice none 0 0, .string (S [])] 36)).frozen? ⟨w.heap.size + 4, 0, none⟩ = false := by rw [← ZD.out]; go_simp
      have f1 : (((((w.alloc (.cells #[.slice dad l.length dcap] 32)).alloc (.cells #[.slice od o.length oc, .string (S t)] 36)).alloc (.cells #[.slice none 0 0] 32)).alloc (.cells #[.slice none 0 0] 32)).drew.alloc (.cells #[.slice none 0 0, .string (S [])] 36)).frozen? ⟨w.heap.size + 4, 1, none⟩ = false := by rw [← ZD.out]; go_simp
      clear hba
      try simp only [List.getElem_toArray, List.getElem_cons_zero, List.getElem_cons_succ, Act.put, List.setIfInBounds_toArray, List.set_cons_zero, List.set_cons_succ]
      refine wpAnyH_ready (rs := [2]) (by kernel_rfl) (by simp) ?_
      refine AllReadyH.cons rfl (fun K hK => ?_) AllReadyH.nil
      go_simp
      refine (l1Own _ o _ HOD2.out (by omega)).mono ?_
      rintro e v1 ⟨x1, rfl, hI, hb⟩
      rw [ZD2.out] at hI
      have hz1' : w.heap.size + 5 ≤ v1.heap.size := by have := hb.size; rw [ZD2.out] at this; exact this
      rw [ZD2.out] at hb
      refine hK.out _ _ (hS1.step (hb.mono (by omega))) (fun hS2 => ?_)
      clear hK K
      have HBX1 := Lib.hid (HBXD2.out.step (hb.mono (by omega)))
      have HB1 := Lib.hid (HBD2.out.trans (hb.mono (by omega)))
      have d0 := (hb.cell (p := ⟨w.heap.size + 4, 0, none⟩) (by show w.heap.size + 4 < w.heap.size + 5; omega)).trans c0
      have d1 := (hb.cell (p := ⟨w.heap.size + 4, 1, none⟩) (by show w.heap.size + 4 < w.heap.size + 5; omega)).trans c1
      have e0 := (hb.frozen (p := ⟨w.heap.size + 4, 0, none⟩) (by show w.heap.size + 4 < w.heap.size + 5; omega)).trans f0
      have e1 := (hb.frozen (p := ⟨w.heap.size + 4, 1, none⟩) (by show w.heap.size + 4 < w.heap.size + 5; omega)).trans f1
      clear c0 c1 f0 f1
      have HI := Lib.hid hI
      obtain ⟨xd, xc, rfl, _, _⟩ := hI
      clear hb
      try simp only [List.getElem_toArray, List.getElem_cons_zero, List.getElem_cons_succ, Act.put, List.setIfInBounds_toArray, List.set_cons_zero, List.set_cons_succ]
      refine wpAnyH_take (i := 5) (v := .agg #[.slice xd o.length xc, .string (S t)]) rfl (by kernel_rfl) (by kernel_rfl) (by kernel_rfl) (fun _ _ _ h => h) (Or.inl ⟨by rfl, fun z hz => ?_⟩) hS2 ?_
      · obtain ⟨z1, z2⟩ := hz
        go_simp
      try simp only [List.getElem_toArray, List.getElem_cons_zero, List.getElem_cons_succ, Act.put, List.setIfInBounds_toArray, List.set_cons_zero, List.set_cons_succ]
      refine wpAnyH_ready (rs := [7]) (by kernel_rfl) (by simp) ?_
      refine AllReadyH.cons rfl (fun K hK => ?_) AllReadyH.nil
      go_simp
      refine hK.out _ _ (hS2.step (below_set2 (Below.refl _ _) (Nat.le_refl _) _ _ _ _)) (fun hS3 => ?_)
      clear hK K
      try simp only [List.getElem_toArray, List.getElem_cons_zero, List.getElem_cons_succ, Act.put, List.setIfInBounds_toArray, List.set_cons_zero, List.set_cons_succ]
      refine wpAnyH_done (by kernel_rfl) ?_ _
      go_wp2_with fail
      go_meet
      refine ⟨w.heap.size + 4, .slice xd o.length xc, Bet (w.heap.size + 5) v1.heap.size, rfl, ?_, ⟨by go_simp, by go_simp, by simp; omega⟩, ?_, ⟨by simp; omega, by omega, by simp; omega, fun b hb => ⟨by have := hb.1; omega, by have := hb.2; simp; omega, by have := hb.1; omega⟩⟩, ?_⟩
      · exact HBX1.out.step (below_set2 (Below.refl _ _) (Nat.le_refl _) _ _ _ _)
      · exact HI.out.stand intE_ok (((Chg.refl (fun b => b = w.heap.size + 4) v1).setCell (by show w.heap.size + 4 = _; rfl) _).setCell (by show w.heap.size + 4 = _; rfl) _) (fun b hb e => by have := hb.1; omega)
      · exact below_set2 HB1.out (show w.heap.size ≤ w.heap.size + 4 by omega) _ _ _ _
  case rest =>
    clear HO HBX HB0 HZ4 HOD HBXD HBD HS
    obtain ⟨C, y, F, rfl, hbx, hob, hown, hfix, hbw⟩ := hcut
    have HF := Lib.hid hfix
    obtain ⟨B1, hB1⟩ : ∃ B1, wc.heap.size = B1 := ⟨_, rfl⟩
    rw [hB1] at HF
    have HP0 := Lib.hid (show PInv w (.slice dad l.length dcap) (.slice od o.length oc) o t C y F B1 false [] (.slice none 0 0) [] wc from
      ⟨hbx, hob, fun _ => hown, AccR.nil (World.ownsRow_nil _ _ _ _) (by omega) (fun b hb => (HF.out.f b hb.2).2.1), hbw⟩)
    clear hfix hbx hob hown hbw hB1
    go_wp2_with fail
    go_loopw [6, 8] (fun p i wr => ∃ (j : Nat) (u : Value) (xs : List Value), j ≤ l.length ∧ i = .int .i64 j ∧ p = .bool (P.putFold (o, t) (l.take j)).2 ∧ PInv w (.slice dad l.length dcap) (.slice od o.length oc) o t C y F B1 (P.putFold (o, t) (l.take j)).2 (P.putFold (o, t) (l.take j)).1 u xs wr) (fun _ i _ => l.length - (intOf i).toNat)
    case atStart => exact ⟨0, _, _, Nat.zero_le _, rfl, rfl, HP0.out⟩
    case round =>
      clear HP0
      obtain ⟨j, u, xs, hj, rfl, rfl, hp⟩ := hrel
      have HP := Lib.hid hp
      obtain ⟨b0, b1, b2, b3, b4, f2, f3⟩ := hp.1
      have HPZ := Lib.hid hp.size
      have hfl := P.putFold_len (o, t) (l.take j)
      have HFL := Lib.hid (show (P.putFold (o, t) (l.take j)).1.length ≤ j + (P.putFold (o, t) (l.take j)).2.toNat by have h : (l.take j).length = j := (by rw [List.length_take]; omega); rw [h] at hfl; exact hfl)
      clear hfl
      by_cases hlt : j < l.length
      · obtain ⟨g, q, hga, hgs, xe, c0, c1, hx⟩ := HU.out.at j hlt
        have hgw : g < w.heap.size := hgs
        have HEN := Lib.hid (take_snoc l j hlt)
        have hll := HLE.out _ (List.getElem_mem hlt)
        have HX := Lib.hid (hx.below hp.2.2.2.2)
        have HOR := Lib.hid (HOW0.out.below hp.2.2.2.2)
        have cc0 := (hp.2.2.2.2.cell (p := ⟨g, _, none⟩) hgs).trans c0
        have cc1 := (hp.2.2.2.2.cell (p := ⟨g, _, none⟩) hgs).trans c1
        have HS := Lib.hid (show KR7 w.heap.size (.slice dad l.length dcap) (.slice od o.length oc) g (q + j * 2) xe wr.drew from KR7.step ⟨b0, b1, cc0, hgw⟩ (Below.refl _ _).drew)
        have HCC := Lib.hid (And.intro cc0 cc1)
        have HCW := Lib.hid (And.intro c0 c1)
        have HXO := Lib.hid hx
        have HFN := Lib.hid (show P.putFold (o, t) (l.take (j + 1)) = P.putStep (o, t) (P.putFold (o, t) (l.take j)) l[j] by rw [take_snoc l j hlt, P.putFold_snoc])
        obtain ⟨xd, xc, rfl, _, _⟩ := hx
        subst hga
        generalize l[j] = en at *
        obtain ⟨eo, et⟩ := en
        simp only at hll HX HS HCC HCW HXO
        generalize P.putFold (o, t) (l.take j) = s at *
        obtain ⟨row, put⟩ := s
        simp only at HP HFL
        have i1 : (j : Int) < (l.length : Int) := by omega
        have HRL := Lib.hid (show row.length ≤ 2 ^ 21 by have h := HFL.out; have h2 : put.toNat ≤ 1 := Bool.toNat_le put; omega)
        clear hp cc0 cc1 c0 c1 b1 b2 b3 b4 f2 f3 HFL
        go_upto_region 7 with fail
        refine wp_region_held_drew (S := KR7 w.heap.size (.slice (some ⟨g, q, none⟩) l.length dcap) (.slice od o.length oc) g (q + j * 2) (.slice xd eo.length xc)) (by kernel_rfl) HS.out (fun hS0 => ?_)
        refine wpAnyH_take (i := 0) (v := .pointer (some ⟨w.heap.size, 0, none⟩)) rfl (by kernel_rfl) (by kernel_rfl) (by kernel_rfl) (fun _ _ _ h => h) (Or.inl ⟨by rfl, fun z hz => ?_⟩) hS0 ?_
        · obtain ⟨z1, z2, z3, z4⟩ := hz
          go_simp
        try simp only [List.getElem_toArray, List.getElem_cons_zero, Act.put, List.setIfInBounds_toArray, List.set_cons_zero, List.set_cons_succ]
        refine wpAnyH_take (i := 1) (v := .slice (some ⟨g, q, none⟩) l.length dcap) rfl (by kernel_rfl) (by kernel_rfl) (by kernel_rfl) (fun _ _ _ h => h) (Or.inl ⟨by rfl, fun z hz => ?_⟩) hS0 ?_
        · obtain ⟨z1, z2, z3, z4⟩ := hz
          go_simp
        try simp only [List.getElem_toArray, List.getElem_cons_zero, List.getElem_cons_succ, Act.put, List.setIfInBounds_toArray, List.set_cons_zero, List.set_cons_succ]
        refine wpAnyH_take (i := 2) (v := .int .i64 j) rfl (by kernel_rfl) (by kernel_rfl) (by kernel_rfl) (fun _ _ _ h => h) (Or.inl ⟨by rfl, fun z hz => ?_⟩) hS0 ?_
        · obtain ⟨z1, z2, z3, z4⟩ := hz
          go_simp
        try simp only [List.getElem_toArray, List.getElem_cons_zero, List.getElem_cons_succ, Act.put, List.setIfInBounds_toArray, List.set_cons_zero, List.set_cons_succ]
        refine wpAnyH_take (i := 3) (v := .pointer (some ⟨g, q + j * 2, none⟩)) rfl (by kernel_rfl) (by kernel_rfl) (by kernel_rfl) (fun _ _ _ h => h) (Or.inl ⟨by rfl, fun z hz => ?_⟩) hS0 ?_
        · obtain ⟨z1, z2, z3, z4⟩ := hz
          go_simp
        try simp only [List.getElem_toArray, List.getElem_cons_zero, List.getElem_cons_succ, Act.put, List.setIfInBounds_toArray, List.set_cons_zero, List.set_cons_succ]
        refine wpAnyH_take (i := 4) (v := .pointer (some ⟨g, q + j * 2, none⟩)) rfl (by kernel_rfl) (by kernel_rfl) (by kernel_rfl) (fun _ _ _ h => h) (Or.inl ⟨by rfl, fun z hz => ?_⟩) hS0 ?_
        · obtain ⟨z1, z2, z3, z4⟩ := hz
          go_simp
        try simp only [List.getElem_toArray, List.getElem_cons_zero, List.getElem_cons_succ, Act.put, List.setIfInBounds_toArray, List.set_cons_zero, List.set_cons_succ]
        refine wpAnyH_take (i := 5) (v := .slice xd eo.length xc) rfl (by kernel_rfl) (by kernel_rfl) (by kernel_rfl) (fun _ _ _ h => h) (Or.inl ⟨by rfl, fun z hz => ?_⟩) hS0 ?_
        · obtain ⟨z1, z2, z3, z4⟩ := hz
          go_simp
        try simp only [List.getElem_toArray, List.getElem_cons_zero, List.getElem_cons_succ, Act.put, List.setIfInBounds_toArray, List.set_cons_zero, List.set_cons_succ]
        refine wpAnyH_take (i := 6) (v := .pointer (some ⟨w.heap.size + 1, 0, none⟩)) rfl (by kernel_rfl) (by kernel_rfl) (by kernel_rfl) (fun _ _ _ h => h) (Or.inl ⟨by rfl, fun z hz => ?_⟩) hS0 ?_
        · obtain ⟨z1, z2, z3, z4⟩ := hz
          go_simp
        try simp only [List.getElem_toArray, List.getElem_cons_zero, List.getElem_cons_succ, Act.put, List.setIfInBounds_toArray, List.set_cons_zero, List.set_cons_succ]
        refine wpAnyH_take (i := 7) (v := .slice od o.length oc) rfl (by kernel_rfl) (by kernel_rfl) (by kernel_rfl) (fun _ _ _ h => h) (Or.inl ⟨by rfl, fun z hz => ?_⟩) hS0 ?_
        · obtain ⟨z1, z2, z3, z4⟩ := hz
          go_simp
        try simp only [List.getElem_toArray, List.getElem_cons_zero, List.getElem_cons_succ, Act.put, List.setIfInBounds_toArray, List.set_cons_zero, List.set_cons_succ]
        refine wpAnyH_ready (rs := [8]) (by kernel_rfl) (by simp) ?_
        refine AllReadyH.cons rfl (fun K hK => ?_) AllReadyH.nil
        have HXD := Lib.hid (HX.out.below (Below.refl _ _).drew)
        have HORD := Lib.hid (HOR.out.below (Below.refl _ _).drew)
        go_simp
        refine (l4Compare _ _ eo o _ HXD.out HORD.out).mono ?_
        rintro e v1 ⟨rfl, hb1⟩
        have HB1 := Lib.hid (show Below wr.heap.size wr v1 from (Below.refl wr.heap.size wr).drew.trans hb1)
        refine hK.out _ _ (hS0.step (hb1.mono (by have h1 := HPZ.out; have h2 := HF.out.b1; show w.heap.size + 4 ≤ wr.heap.size; omega))) (fun hS1 => ?_)
        clear hK K hb1
        try simp only [List.getElem_toArray, List.getElem_cons_zero, List.getElem_cons_succ, Act.put, List.setIfInBounds_toArray, List.set_cons_zero, List.set_cons_succ]
        refine wpAnyH_take (i := 9) (v := .int .i64 (P.cmp eo o)) rfl (by kernel_rfl) (by kernel_rfl) (by kernel_rfl) (fun _ _ _ h => h) (Or.inl ⟨by rfl, fun z hz => ?_⟩) hS1 ?_
        · obtain ⟨z1, z2, z3, z4⟩ := hz
          go_simp
        try simp only [List.getElem_toArray, List.getElem_cons_zero, List.getElem_cons_succ, Act.put, List.setIfInBounds_toArray, List.set_cons_zero, List.set_cons_succ]
        refine wpAnyH_done (by kernel_rfl) ?_ _
        have HP1 := Lib.hid (HP.out.below HF.out HB1.out)
        have HX1 := Lib.hid (HX.out.below HB1.out)
        have hgv : g < wr.heap.size := by have h1 := HPZ.out; have h2 := HF.out.b1; omega
        have HC1 := Lib.hid (And.intro ((HB1.out.cell (p := ⟨g, _, none⟩) hgv).trans HCC.out.1) ((HB1.out.cell (p := ⟨g, _, none⟩) hgv).trans HCC.out.2))
        clear hS0 hS1 HS HXD HORD HX HP HPZ HB1 HCC HOR hgv
        go_upto_region 8 with fail
        go_cut [38] (fun p wx => p = .bool (decide (0 ≤ P.cmp eo o) && !put) ∧ wx = v1)
        case first =>
          by_cases h0 : 0 ≤ P.cmp eo o
          · go_wp2_with fail
            go_meet
            exact ⟨by rw [decide_eq_true h0, Bool.true_and], rfl⟩
          · go_wp2_with fail
            go_meet
            exact ⟨by rw [decide_eq_false (by omega)]; rfl, rfl⟩
        obtain ⟨rfl, rfl⟩ := hcut
        go_upto_if 38 with fail
        go_cut [6] (fun p wx => ∃ (u : Value) (xs : List Value), p = .bool (P.putStep (o, t) (row, put) (eo, et)).2 ∧ PInv w (.slice (some ⟨g, q, none⟩) l.length dcap) (.slice od o.length oc) o t C y F B1 (P.putStep (o, t) (row, put) (eo, et)).2 (if decide (0 ≤ P.cmp eo o) && !put then row ++ [(o, t)] else row) u xs wx ∧ Below w.heap.size w wx)
        case first =>
          cases hcd : decide (0 ≤ P.cmp eo o) && !put
          · have HCD := Lib.hid hcd
            have HST := Lib.hid (show (P.putStep (o, t) (row, put) (eo, et)).2 = put by
              unfold P.putStep
              cases put
              · simpa using hcd
              · simp)
            clear hcd
            go_wp2
            go_meet
            refine ⟨u, xs, by rw [HST.out], ?_, HP1.out.2.2.2.2⟩
            rw [HST.out, if_neg (by rw [HCD.out]; decide)]
            exact HP1.out
          · have h0 : 0 ≤ P.cmp eo o := by simp at hcd; exact hcd.1
            obtain rfl : put = false := by simp at hcd; exact hcd.2
            · have HST := Lib.hid (show (P.putStep (o, t) (row, false) (eo, et)).2 = true by unfold P.putStep; simp [h0])
              have H0 := Lib.hid h0
              clear h0 hcd
              obtain ⟨b0, b1, b2, b3, b4, f2, f3⟩ := HP1.out.1
              obtain ⟨k0, k1, k2⟩ := HP1.out.2.1
              have HY := Lib.hid (HP1.out.2.2.1 rfl)
              have HAC := Lib.hid HP1.out.2.2.2.1
              have HVZ := Lib.hid HP1.out.size
              obtain ⟨uad, ucap, rfl⟩ := HP1.out.2.2.2.1.form
              obtain ⟨yd, yc, rfl, _, _⟩ := HP1.out.2.2.1 rfl
              have hba := (Below.refl wc.heap.size wc).alloc (Nat.le_refl _) (.cells #[.slice yd o.length yc, .string (S t)] 36)
              have HOW := Lib.hid (HAC.out.keep entE_ok hba).owns
              have BX := Lib.hid (HP1.out.1.step (hba.mono (by have := HF.out.b1; have := HVZ.out; omega)))
              clear hba
              go_wp2_with (at_builtin; refine wpList_append_lies _ rfl _ _ 30 rfl B1 36 i0 (.agg #[.slice none 0 0, .string ⟨#[]⟩]) 2 40 Tryz.underlying30 hi hz0 hz1 hz2 rfl (by decide) (.slice uad row.length ucap) row.length xs rfl HOW.out ⟨wc.heap.size, 0, none⟩ 1 1 [.slice yd o.length yc, .string (S t)] rfl rfl ?_ ?_ (Nat.zero_lt_one) ?_ ?_ ?_ _ rfl ?_)
              all_goals first | exact ⟨rfl, rfl⟩ | (intro y hy; simp only [List.mem_cons, List.not_mem_nil, or_false] at hy; rcases hy with rfl | rfl <;> rfl) | (have := HRL.out; unfold maxLen; omega) | (have := HRL.out; omega) | (have h1 := HVZ.out; simp; omega) | (intro i y hy; rcases i with _ | _ | i; (injection hy with hy; subst hy; rw [add0]; go_simp); (injection hy with hy; subst hy; rw [add0]; go_simp); cases hy) | skip
              intro g1 cap1 v3 hown hgr hat hlt3
              have hb3 : Below B1 (wc.alloc (.cells #[.slice yd o.length yc, .string (S t)] 36)) v3 := (Below.refl _ _).grown hgr (by have h1 := HVZ.out; simp; omega) (fun k hk => (World.ownsRow.lt HOW.out k hk).1)
              obtain ⟨_, _, _, d3, d4, e2, e3⟩ := BX.out.step (hb3.mono HF.out.b1)
              have HAP := Lib.hid (HP1.out.app (put' := true) (a := (o, t)) (F' := F) (v1 := wc) HF.out (Below.refl _ _) (fun b hb => ⟨.inr ⟨⟨rfl, hb⟩, fun h => by cases h.1⟩, by have := (HF.out.f b hb).2.1; have := HVZ.out; omega⟩) (fun _ => rfl) (entE_mk HY.out) rfl ((Below.refl _ _).alloc (Nat.le_refl _) _) hown hgr (by simpa using hat))
              clear hown hgr hat hlt3 hb3 HOW BX HY HAC k0 k1 k2 b0 b1 b2 b3 b4 f2 f3
              go_wp2
              go_meet
              refine ⟨.slice (some ⟨g1, 0, none⟩) (row.length + 1) cap1, xs ++ [.slice yd o.length yc, .string (S t)], by rw [HST.out], ?_, HAP.out.2.2.2.2⟩
              rw [HST.out, if_pos (by simp [H0.out])]
              exact HAP.out
        case rest =>
          clear HP1
          obtain ⟨u, xs, rfl, hp, hbw⟩ := hcut
          have HBW := Lib.hid hbw; clear hbw
          have HP2 := Lib.hid hp
          have HS1 := Lib.hid (show P.putStep (o, t) (row, put) (eo, et) = ((if decide (0 ≤ P.cmp eo o) && !put then row ++ [(o, t)] else row) ++ (if decide (P.cmp eo o = 0) then [] else [(eo, et)]), (P.putStep (o, t) (row, put) (eo, et)).2) from rfl)
          have HRW := Lib.hid (show (if decide (0 ≤ P.cmp eo o) && !put then row ++ [(o, t)] else row).length ≤ 2 ^ 22 by have := HRL.out; split <;> simp <;> omega)
          clear HRL
          generalize (if decide (0 ≤ P.cmp eo o) && !put then row ++ [(o, t)] else row) = row2 at *
          have hsn : ∃ put2, (P.putStep (o, t) (row, put) (eo, et)).2 = put2 := ⟨_, rfl⟩
          obtain ⟨put2, hsn⟩ := hsn
          rw [hsn] at hp ⊢
          have HP := Lib.hid (show PInv w (.slice (some ⟨g, q, none⟩) l.length dcap) (.slice od o.length oc) o t C y F B1 put2 row2 u xs wc from hp)
          have HFN2 := Lib.hid (show P.putFold (o, t) (l.take (j + 1)) = (row2 ++ (if decide (P.cmp eo o = 0) then [] else [(eo, et)]), put2) by rw [HFN.out, HS1.out, hsn])
          clear hsn HP2 HS1 HFN hp
          by_cases h1 : P.cmp eo o = 0
          · have HFN3 := Lib.hid (show P.putFold (o, t) (l.take (j + 1)) = (row2, put2) by rw [HFN2.out, h1]; simp)
            clear HFN2
            go_wp2
            go_roundw
            case rel => exact ⟨j + 1, u, xs, by omega, by go_num, by rw [HFN3.out], by rw [HFN3.out]; exact HP.out⟩
            case measure => simp [intOf]; omega
          · have HFN3 := Lib.hid (show P.putFold (o, t) (l.take (j + 1)) = (row2 ++ [(eo, et)], put2) by rw [HFN2.out]; simp [h1])
            clear HFN2
            have HPZ := Lib.hid HP.out.size
            obtain ⟨uad, ucap, rfl⟩ := HP.out.2.2.2.1.form
            obtain ⟨b0, b1, b2, b3, b4, f2, f3⟩ := HP.out.1
            have hgz : g < wc.heap.size := by have h1 := HPZ.out; have h2 := HF.out.b1; omega
            have cc0 := (HBW.out.cell (p := ⟨g, q + j * 2, none⟩) hgw).trans HCW.out.1
            have cc1 := (HBW.out.cell (p := ⟨g, q + j * 2 + 1, none⟩) hgw).trans HCW.out.2
            have HX := Lib.hid (HXO.out.below HBW.out)
            have HS := Lib.hid (show KRP w.heap.size (.slice (some ⟨g, q, none⟩) l.length dcap) (.slice uad row2.length ucap) g (q + j * 2) (.slice xd eo.length xc) et wc.drew from
              KRP.step ⟨b0, b4, cc0, cc1, f3, hgw⟩ (Below.refl _ _).drew)
            clear cc0 cc1 b1 b2 b3 f2
            go_upto_region 12 with fail
            refine Left.region [19] (S := KRP w.heap.size (.slice (some ⟨g, q, none⟩) l.length dcap) (.slice uad row2.length ucap) g (q + j * 2) (.slice xd eo.length xc) et) (by kernel_rfl) HS.out (fun hS0 => ?_)
            refine Left.take (i := 0) (v := .pointer (some ⟨w.heap.size + 3, 0, none⟩)) rfl (by kernel_rfl) (by kernel_rfl) (by kernel_rfl) (by kernel_rfl) (fun _ _ _ h => h) (Or.inl ⟨by rfl, fun z hz => ?_⟩) hS0 ?_
            · obtain ⟨z1, z2, z3, z4, z5, z6⟩ := hz
              go_simp
            try simp only [List.getElem_toArray, List.getElem_cons_zero, Act.put, List.setIfInBounds_toArray, List.set_cons_zero, List.set_cons_succ]
            refine Left.take (i := 1) (v := .slice uad row2.length ucap) rfl (by kernel_rfl) (by kernel_rfl) (by kernel_rfl) (by kernel_rfl) (fun _ _ _ h => h) (Or.inl ⟨by rfl, fun z hz => ?_⟩) hS0 ?_
            · obtain ⟨z1, z2, z3, z4, z5, z6⟩ := hz
              go_simp
            try simp only [List.getElem_toArray, List.getElem_cons_zero, List.getElem_cons_succ, Act.put, List.setIfInBounds_toArray, List.set_cons_zero, List.set_cons_succ]
            refine Left.take (i := 2) (v := .pointer (some ⟨w.heap.size, 0, none⟩)) rfl (by kernel_rfl) (by kernel_rfl) (by kernel_rfl) (by kernel_rfl) (fun _ _ _ h => h) (Or.inl ⟨by rfl, fun z hz => ?_⟩) hS0 ?_
            · obtain ⟨z1, z2, z3, z4, z5, z6⟩ := hz
              go_simp
            try simp only [List.getElem_toArray, List.getElem_cons_zero, List.getElem_cons_succ, Act.put, List.setIfInBounds_toArray, List.set_cons_zero, List.set_cons_succ]
            refine Left.take (i := 3) (v := .slice (some ⟨g, q, none⟩) l.length dcap) rfl (by kernel_rfl) (by kernel_rfl) (by kernel_rfl) (by kernel_rfl) (fun _ _ _ h => h) (Or.inl ⟨by rfl, fun z hz => ?_⟩) hS0 ?_
            · obtain ⟨z1, z2, z3, z4, z5, z6⟩ := hz
              go_simp
            try simp only [List.getElem_toArray, List.getElem_cons_zero, List.getElem_cons_succ, Act.put, List.setIfInBounds_toArray, List.set_cons_zero, List.set_cons_succ]
            refine Left.take (i := 4) (v := .int .i64 j) rfl (by kernel_rfl) (by kernel_rfl) (by kernel_rfl) (by kernel_rfl) (fun _ _ _ h => h) (Or.inl ⟨by rfl, fun z hz => ?_⟩) hS0 ?_
            · obtain ⟨z1, z2, z3, z4, z5, z6⟩ := hz
              go_simp
            try simp only [List.getElem_toArray, List.getElem_cons_zero, List.getElem_cons_succ, Act.put, List.setIfInBounds_toArray, List.set_cons_zero, List.set_cons_succ]
            refine Left.take (i := 5) (v := .pointer (some ⟨g, q + j * 2, none⟩)) rfl (by kernel_rfl) (by kernel_rfl) (by kernel_rfl) (by kernel_rfl) (fun _ _ _ h => h) (Or.inl ⟨by rfl, fun z hz => ?_⟩) hS0 ?_
            · obtain ⟨z1, z2, z3, z4, z5, z6⟩ := hz
              go_simp
            try simp only [List.getElem_toArray, List.getElem_cons_zero, List.getElem_cons_succ, Act.put, List.setIfInBounds_toArray, List.set_cons_zero, List.set_cons_succ]
            refine Left.take (i := 6) (v := .pointer (some ⟨g, q + j * 2, none⟩)) rfl (by kernel_rfl) (by kernel_rfl) (by kernel_rfl) (by kernel_rfl) (fun _ _ _ h => h) (Or.inl ⟨by rfl, fun z hz => ?_⟩) hS0 ?_
            · obtain ⟨z1, z2, z3, z4, z5, z6⟩ := hz
              go_simp
            try simp only [List.getElem_toArray, List.getElem_cons_zero, List.getElem_cons_succ, Act.put, List.setIfInBounds_toArray, List.set_cons_zero, List.set_cons_succ]
            refine Left.take (i := 7) (v := .slice xd eo.length xc) rfl (by kernel_rfl) (by kernel_rfl) (by kernel_rfl) (by kernel_rfl) (fun _ _ _ h => h) (Or.inl ⟨by rfl, fun z hz => ?_⟩) hS0 ?_
            · obtain ⟨z1, z2, z3, z4, z5, z6⟩ := hz
              go_simp
            try simp only [List.getElem_toArray, List.getElem_cons_zero, List.getElem_cons_succ, Act.put, List.setIfInBounds_toArray, List.set_cons_zero, List.set_cons_succ]
            refine Left.take (i := 9) (v := .pointer (some ⟨w.heap.size, 0, none⟩)) rfl (by kernel_rfl) (by kernel_rfl) (by kernel_rfl) (by kernel_rfl) (fun _ _ _ h => h) (Or.inl ⟨by rfl, fun z hz => ?_⟩) hS0 ?_
            · obtain ⟨z1, z2, z3, z4, z5, z6⟩ := hz
              go_simp
            try simp only [List.getElem_toArray, List.getElem_cons_zero, List.getElem_cons_succ, Act.put, List.setIfInBounds_toArray, List.set_cons_zero, List.set_cons_succ]
            refine Left.take (i := 10) (v := .slice (some ⟨g, q, none⟩) l.length dcap) rfl (by kernel_rfl) (by kernel_rfl) (by kernel_rfl) (by kernel_rfl) (fun _ _ _ h => h) (Or.inl ⟨by rfl, fun z hz => ?_⟩) hS0 ?_
            · obtain ⟨z1, z2, z3, z4, z5, z6⟩ := hz
              go_simp
            try simp only [List.getElem_toArray, List.getElem_cons_zero, List.getElem_cons_succ, Act.put, List.setIfInBounds_toArray, List.set_cons_zero, List.set_cons_succ]
            refine Left.take (i := 11) (v := .int .i64 j) rfl (by kernel_rfl) (by kernel_rfl) (by kernel_rfl) (by kernel_rfl) (fun _ _ _ h => h) (Or.inl ⟨by rfl, fun z hz => ?_⟩) hS0 ?_
            · obtain ⟨z1, z2, z3, z4, z5, z6⟩ := hz
              go_simp
            try simp only [List.getElem_toArray, List.getElem_cons_zero, List.getElem_cons_succ, Act.put, List.setIfInBounds_toArray, List.set_cons_zero, List.set_cons_succ]
            refine Left.take (i := 12) (v := .pointer (some ⟨g, q + j * 2, none⟩)) rfl (by kernel_rfl) (by kernel_rfl) (by kernel_rfl) (by kernel_rfl) (fun _ _ _ h => h) (Or.inl ⟨by rfl, fun z hz => ?_⟩) hS0 ?_
            · obtain ⟨z1, z2, z3, z4, z5, z6⟩ := hz
              go_simp
            try simp only [List.getElem_toArray, List.getElem_cons_zero, List.getElem_cons_succ, Act.put, List.setIfInBounds_toArray, List.set_cons_zero, List.set_cons_succ]
            refine Left.take (i := 13) (v := .pointer (some ⟨g, q + j * 2 + 1, none⟩)) rfl (by kernel_rfl) (by kernel_rfl) (by kernel_rfl) (by kernel_rfl) (fun _ _ _ h => h) (Or.inl ⟨by rfl, fun z hz => ?_⟩) hS0 ?_
            · obtain ⟨z1, z2, z3, z4, z5, z6⟩ := hz
              go_simp
            try simp only [List.getElem_toArray, List.getElem_cons_zero, List.getElem_cons_succ, Act.put, List.setIfInBounds_toArray, List.set_cons_zero, List.set_cons_succ]
            refine Left.take (i := 14) (v := .string (S et)) rfl (by kernel_rfl) (by kernel_rfl) (by kernel_rfl) (by kernel_rfl) (fun _ _ _ h => h) (Or.inl ⟨by rfl, fun z hz => ?_⟩) hS0 ?_
            · obtain ⟨z1, z2, z3, z4, z5, z6⟩ := hz
              go_simp
            try simp only [List.getElem_toArray, List.getElem_cons_zero, List.getElem_cons_succ, Act.put, List.setIfInBounds_toArray, List.set_cons_zero, List.set_cons_succ]
            refine Left.ready (rs := [8]) (by kernel_rfl) (by simp) ?_
            refine Nexts.cons rfl (fun K hK => ?_) Nexts.nil
            have HXD := Lib.hid (HX.out.below (Below.refl _ _).drew)
            have HB4 := Lib.hid (show w.heap.size + 4 ≤ wc.heap.size by have h1 := HPZ.out; have h2 := HF.out.b1; omega)
            go_simp
            refine (l1Own _ eo _ HXD.out (by omega)).mono ?_
            rintro e v1 ⟨x1, rfl, hI, hb1⟩
            have HB1 := Lib.hid (show Below wc.heap.size wc v1 from (Below.refl wc.heap.size wc).drew.trans hb1)
            have HI := Lib.hid (show Ints v1 (Bet wc.heap.size v1.heap.size) x1 eo from hI)
            have HZ1 := Lib.hid (show wc.heap.size ≤ v1.heap.size from hb1.size)
            obtain ⟨x1d, x1c, rfl, _, _⟩ := hI
            refine on_held hK (by decide) (hS0.step (hb1.mono HB4.out)) (fun hS1 => ?_)
            clear hK K hb1
            try simp only [List.getElem_toArray, List.getElem_cons_zero, List.getElem_cons_succ, Act.put, List.setIfInBounds_toArray, List.set_cons_zero, List.set_cons_succ]
            refine Left.take (i := 15) (v := .agg #[.slice x1d eo.length x1c, .string (S et)]) rfl (by kernel_rfl) (by kernel_rfl) (by kernel_rfl) (by kernel_rfl) (fun _ _ _ h => h) (Or.inl ⟨by rfl, fun z hz => ?_⟩) hS1 ?_
            · obtain ⟨z1, z2, z3, z4, z5, z6⟩ := hz
              go_simp
            try simp only [List.getElem_toArray, List.getElem_cons_zero, List.getElem_cons_succ, Act.put, List.setIfInBounds_toArray, List.set_cons_zero, List.set_cons_succ]
            refine Left.ready (rs := [16]) (by kernel_rfl) (by simp) ?_
            refine Nexts.cons rfl (fun K hK => ?_) Nexts.nil
            go_simp
            refine on_held hK (by decide) (hS1.step ((Below.refl _ _).alloc (Nat.le_trans HB4.out HZ1.out) _)) (fun hS2 => ?_)
            clear hK K
            try simp only [List.getElem_toArray, List.getElem_cons_zero, List.getElem_cons_succ, Act.put, List.setIfInBounds_toArray, List.set_cons_zero, List.set_cons_succ]
            refine Left.ready (rs := [17]) (by kernel_rfl) (by simp) ?_
            refine Nexts.cons rfl (fun K hK => ?_) Nexts.nil
            have HA2 := Lib.hid ((HP.out.2.2.2.1.keep entE_ok HB1.out).keep entE_ok ((Below.refl v1.heap.size v1).alloc (Nat.le_refl _) (.cells #[.slice x1d eo.length x1c, .string (S et)] 36)))
            refine step_append_lies _ rfl _ _ 30 rfl B1 36 i0 (.agg #[.slice none 0 0, .string ⟨#[]⟩]) 2 40 Tryz.underlying30 hi hz0 hz1 hz2 rfl (by decide) (.slice uad row2.length ucap) row2.length xs rfl HA2.out.owns ⟨v1.heap.size, 0, none⟩ 1 1 [.slice x1d eo.length x1c, .string (S et)] rfl rfl ?_ ?_ (by decide) (by have := HRW.out; unfold maxLen; omega) (by have := HRW.out; omega) ?_ _ rfl ?_
            · intro i y hy
              match i, hy with
              | 0, hy => injection hy with hy; subst hy; rw [add0]; go_simp
              | 1, hy => injection hy with hy; subst hy; rw [add0]; go_simp
            · intro y hy
              simp only [List.mem_cons, List.not_mem_nil, or_false] at hy
              rcases hy with rfl | rfl <;> rfl
            · have h1 := HZ1.out; have h2 := HPZ.out; simp; omega
            intro g1 cap1 v3 hown hgr hat hlt3
            have hb3 : Below B1 (v1.alloc (.cells #[.slice x1d eo.length x1c, .string (S et)] 36)) v3 :=
              (Below.refl _ _).grown hgr (by have h1 := HZ1.out; have h2 := HPZ.out; simp; omega) (fun k hk => (World.ownsRow.lt HA2.out.owns k hk).1)
            have hS3 := hS2.step (hb3.mono HF.out.b1)
            have hsc := hS3.2.1
            have hsf := hS3.2.2.2.2.1
            have HAP := Lib.hid (HP.out.app (put' := put2) (a := (eo, et)) (F' := Bet wc.heap.size v1.heap.size) (v1 := v1) HF.out HB1.out (fun b hb => ⟨.inl hb.1, hb.2⟩) (fun h => h) (entE_mk HI.out) rfl ((Below.refl _ _).alloc (Nat.le_refl _) _) hown hgr (by simpa using hat))
            refine on_held hK (by decide) hS3 (fun hS4 => ?_)
            clear hK K hown hgr hat hS2 hS1 HB1 HI HA2 HX HXD HXO HS hb3 HP
            try simp only [List.getElem_toArray, List.getElem_cons_zero, List.getElem_cons_succ, Act.put, List.setIfInBounds_toArray, List.set_cons_zero, List.set_cons_succ]
            refine Left.take (i := 18) (v := .pointer (some ⟨w.heap.size + 3, 0, none⟩)) rfl (by kernel_rfl) (by kernel_rfl) (by kernel_rfl) (by kernel_rfl) (fun _ _ _ h => h) (Or.inl ⟨by rfl, fun z hz => ?_⟩) hS4 ?_
            · obtain ⟨z1, z2, z3, z4, z5, z6⟩ := hz
              go_simp
            try simp only [List.getElem_toArray, List.getElem_cons_zero, List.getElem_cons_succ, Act.put, List.setIfInBounds_toArray, List.set_cons_zero, List.set_cons_succ]
            refine Left.ready (rs := [19]) (by kernel_rfl) (by simp) ?_
            refine Nexts.cons rfl (fun K hK => ?_) Nexts.nil
            go_simp
            refine on_last hK (by decide) ?_
            clear hK K hS0
            try simp only [List.getElem_toArray, List.getElem_cons_zero, List.getElem_cons_succ, Act.put, List.setIfInBounds_toArray, List.set_cons_zero, List.set_cons_succ]
            refine Left.done (by kernel_rfl) ?_ _
            clear hsc hsf hS3 hS4
            generalize v3.setCell ⟨w.heap.size + 3, 0, none⟩ (.slice (some ⟨g1, 0, none⟩) (row2.length + 1) cap1) = v4 at *
            go_wp2
            go_roundw
            case rel => exact ⟨j + 1, _, _, by omega, by go_num, by rw [HFN3.out], by rw [HFN3.out]; exact HAP.out⟩
            case measure => simp [intOf]; omega
      · have hjl : l.length = j := by omega
        have HT := Lib.hid (show l.take j = l from List.take_of_length_le (by omega))
        have HEQ := Lib.hid (P.putFold_eq (o, t) l)
        have HRL := Lib.hid (show (P.putFold (o, t) (l.take j)).1.length ≤ 2 ^ 21 by have h := HFL.out; have h2 : (P.putFold (o, t) (l.take j)).2.toNat ≤ 1 := Bool.toNat_le _; omega)
        rw [← HT.out] at HEQ
        generalize P.putFold (o, t) (l.take j) = s at *
        obtain ⟨row, put⟩ := s
        simp only at HP HFL HRL HEQ
        clear hp HFL
        cases put
        · have HRES := Lib.hid (show row ++ [(o, t)] = P.putF (o, t) false (l.take j) from HEQ.out)
          clear HEQ b0 b1 b2 b3 b4 f2 f3
          have b0 := HP.out.1.1
          obtain ⟨b0, b1, b2, b3, b4, f2, f3⟩ := HP.out.1
          obtain ⟨k0, k1, k2⟩ := HP.out.2.1
          have HY := Lib.hid (HP.out.2.2.1 rfl)
          have HAC := Lib.hid HP.out.2.2.2.1
          have HVZ := Lib.hid HP.out.size
          obtain ⟨uad, ucap, rfl⟩ := HP.out.2.2.2.1.form
          obtain ⟨yd, yc, rfl, _, _⟩ := HP.out.2.2.1 rfl
          have hba := (Below.refl wr.heap.size wr).alloc (Nat.le_refl _) (.cells #[.slice yd o.length yc, .string (S t)] 36)
          have HOW := Lib.hid (HAC.out.keep entE_ok hba).owns
          have BX := Lib.hid (HP.out.1.step (hba.mono (by have := HF.out.b1; have := HVZ.out; omega)))
          clear hba
          go_wp2_with (at_builtin; refine wpList_append_lies _ rfl _ _ 30 rfl B1 36 i0 (.agg #[.slice none 0 0, .string ⟨#[]⟩]) 2 40 Tryz.underlying30 hi hz0 hz1 hz2 rfl (by decide) (.slice uad row.length ucap) row.length xs rfl HOW.out ⟨wr.heap.size, 0, none⟩ 1 1 [.slice yd o.length yc, .string (S t)] rfl rfl ?_ ?_ (Nat.zero_lt_one) ?_ ?_ ?_ _ rfl ?_)
          all_goals first | exact ⟨rfl, rfl⟩ | (intro y hy; simp only [List.mem_cons, List.not_mem_nil, or_false] at hy; rcases hy with rfl | rfl <;> rfl) | (have := HRL.out; unfold maxLen; omega) | (have := HRL.out; omega) | (have h1 := HVZ.out; simp; omega) | (intro i y hy; rcases i with _ | _ | i; (injection hy with hy; subst hy; rw [add0]; go_simp); (injection hy with hy; subst hy; rw [add0]; go_simp); cases hy) | skip
          intro g1 cap1 v3 hown hgr hat hlt3
          have hb3 : Below B1 (wr.alloc (.cells #[.slice yd o.length yc, .string (S t)] 36)) v3 := (Below.refl _ _).grown hgr (by have h1 := HVZ.out; simp; omega) (fun k hk => (World.ownsRow.lt HOW.out k hk).1)
          obtain ⟨_, _, _, d3, d4, e2, e3⟩ := BX.out.step (hb3.mono HF.out.b1)
          have HAP := Lib.hid (HP.out.app (put' := true) (a := (o, t)) (F' := F) (v1 := wr) HF.out (Below.refl _ _) (fun b hb => ⟨.inr ⟨⟨rfl, hb⟩, fun h => by cases h.1⟩, by have := (HF.out.f b hb).2.1; have := HVZ.out; omega⟩) (fun _ => rfl) (entE_mk HY.out) rfl ((Below.refl _ _).alloc (Nat.le_refl _) _) hown hgr (by simpa using hat))
          clear hown hgr hat hlt3 hb3 HOW BX HY HAC k0 k1 k2 b0 b1 b2 b3 b4 f2 f3
          go_wp2
          refine bodyPost_ret (v := .agg #[.slice (some ⟨g1, 0, none⟩) (row.length + 1) cap1]) (by simp [results, Tryz.results92, go_sem, d3]) rfl ⟨_, rfl, ?_, ⟨B1, xs ++ [.slice yd o.length yc, .string (S t)], by have := HF.out.b1; omega, ?_⟩, (HAP.out.done HF.out _ (by have := HRL.out; simp; omega)).2⟩
          · have hr := (HAP.out.done HF.out (.slice (some ⟨g1, 0, none⟩) (row.length + 1) cap1) (by have := HRL.out; simp; omega)).1
            rw [HRES.out, HT.out] at hr
            exact hr
          · have hr := HAP.out.whole HF.out (.slice (some ⟨g1, 0, none⟩) (row.length + 1) cap1)
            rw [HRES.out, HT.out] at hr
            exact hr
        · have HRES := Lib.hid (show row = P.putF (o, t) false (l.take j) from HEQ.out)
          clear HEQ b1 b2
          obtain ⟨uad, ucap, rfl⟩ := HP.out.2.2.2.1.form
          go_wp2
          refine bodyPost_ret (v := .agg #[.slice uad row.length ucap]) (by simp [results, Tryz.results92, go_sem, b3]) rfl ⟨_, rfl, ?_, ⟨B1, xs, by have := HF.out.b1; omega, ?_⟩, (HP.out.done HF.out _ (by have := HRL.out; omega)).2⟩
          · rw [← HT.out, ← HRES.out]
            exact (HP.out.done HF.out _ (by have := HRL.out; omega)).1
          · rw [← HT.out, ← HRES.out]
            exact HP.out.whole HF.out _
end Go.Proofs.YtonhkglilnplbaaGreatDoor
