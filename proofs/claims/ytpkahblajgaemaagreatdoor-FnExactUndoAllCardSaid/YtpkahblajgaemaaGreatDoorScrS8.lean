/- Walks: all strokes undone (reference). -/
import Derived.Test.YtpkahblajgaemaaGreatDoorScrS6
import Derived.Test.YtpkahblajgaemaaGreatDoorScrI8
namespace Go.Proofs.YtpkahblajgaemaaGreatDoor
open Go Go.RowKit
set_option maxHeartbeats 4000000
set_option maxRecDepth 100000
/-- the cells that the reference's undoing reads -/
def RdU (a : Nat) (dv sv : Value) (v : World) : Prop := v.cell? ⟨a, 0, none⟩ = some dv ∧ v.cell? ⟨a + 1, 0, none⟩ = some sv
theorem RdU.step {a : Nat} {dv sv : Value} {v v' : World} {B : Nat} (h : RdU a dv sv v) (hb : Below B v v') (hB : a + 1 < B) : RdU a dv sv v' :=
  ⟨(hb.cell (p := ⟨a, 0, none⟩) (by show a < B; omega)).trans h.1, (hb.cell (p := ⟨a + 1, 0, none⟩) hB).trans h.2⟩
theorem spec_undoAll (dv sv : Value) (l : P.Dic) (st : List Int) (t : Str) (w : World) (hu : EntR w dv l) (hs : IntR w sv st) (hm : Small l) :
    Calls Tryz.prog 40 #[.agg #[dv], transV sv t] w (UndoPost (P.undo l (st, t)) w) := by
  obtain ⟨i0, hi, hy0, hy1, hy2⟩ := info_parts info_edit
  have HU := Lib.hid hu; have HST := Lib.hid hs
  obtain ⟨ad, cap, rfl, _, _⟩ := hu
  obtain ⟨sd, sc, rfl, hsl, _⟩ := hs
  have HB0 := Lib.hid (show Below w.heap.size w (((w.alloc (.cells #[.slice ad l.length cap] 26)).alloc (.cells #[.slice sd st.length sc, .string (S t)] 32)).alloc (.cells #[] 38)) from (((Below.refl w.heap.size w).alloc (Nat.le_refl _) _).alloc (by simp) _).alloc (by simp; omega) _)
  have HR0 := Lib.hid (show RdU w.heap.size (.slice ad l.length cap) (.slice sd st.length sc) (((w.alloc (.cells #[.slice ad l.length cap] 26)).alloc (.cells #[.slice sd st.length sc, .string (S t)] 32)).alloc (.cells #[] 38)) from ⟨by go_simp, by go_simp⟩)
  have HX0 := Lib.hid (show (((w.alloc (.cells #[.slice ad l.length cap] 26)).alloc (.cells #[.slice sd st.length sc, .string (S t)] 32)).alloc (.cells #[] 38)).cell? ⟨w.heap.size + 1, 1, none⟩ = some (.string (S t)) by go_simp)
  have HOW0 := Lib.hid (show OwnE (w.heap.size + 1 + 1) (((w.alloc (.cells #[.slice ad l.length cap] 26)).alloc (.cells #[.slice sd st.length sc, .string (S t)] 32)).alloc (.cells #[] 38)) (.slice (some ⟨w.heap.size + 1 + 1, 0, none⟩) 0 0) [] by
    have h1 := ownE_nil ((w.alloc (.cells #[.slice ad l.length cap] 26)).alloc (.cells #[.slice sd st.length sc, .string (S t)] 32))
    simpa using h1)
  have hz0 : (((w.alloc (.cells #[.slice ad l.length cap] 26)).alloc (.cells #[.slice sd st.length sc, .string (S t)] 32)).alloc (.cells #[] 38)).heap.size = w.heap.size + 3 := by simp
  unfold transV
  go_enter Tryz.func40, Tryz.ntmps40
  obtain ⟨k0, k1⟩ := HR0.out
  have k2 := HX0.out
  go_upto_region 2 with (fail)
  generalize (((w.alloc (.cells #[.slice ad l.length cap] 26)).alloc (.cells #[.slice sd st.length sc, .string (S t)] 32)).alloc (.cells #[] 38)) = W0 at *
  go_wp2_with fail
  refine (l14Good _ _ l st t _ (HU.out.below HB0.out) (HST.out.below HB0.out) hm).mono ?_
  rintro e w1 ⟨rfl, hb⟩
  have hz1 : w.heap.size + 3 ≤ w1.heap.size := by have h1 := hb.size; omega
  have HB1 := Lib.hid (HB0.out.trans (hb.mono HB0.out.size))
  have HR1 := Lib.hid (HR0.out.step hb (by omega))
  have HX1 := Lib.hid ((hb.cell (p := ⟨w.heap.size + 1, 1, none⟩) (by show w.heap.size + 1 < _; omega)).trans HX0.out)
  have HOW1 := Lib.hid (own_kept HOW0.out hb (Nat.le_refl _))
  clear hb k0 k1 k2 HB0 HR0 HX0 HOW0
  cases hd : P.trans l (st, t)
  · have HP := Lib.hid (P.undo_no hd)
    clear hd
    go_wp2
    refine bodyPost_ret (v := .tuple #[.slice (some ⟨w.heap.size + 1 + 1, 0, none⟩) 0 0, .bool false]) (by simp [results, Tryz.results40, go_sem]) rfl ⟨_, by rw [HP.out], by rw [HP.out]; exact own_base HOW1.out (by omega), HB1.out⟩
  · have HD := Lib.hid hd
    have hlen := P.trans_len hd
    simp only at hlen
    obtain ⟨hl60, hl2⟩ := hlen
    have HSC := Lib.hid (P.trans_screen hd)
    obtain ⟨hdic, hslist⟩ : P.dic l = true ∧ P.slist st = true := by
      obtain ⟨h1, _⟩ := P.trans_parts hd
      unfold P.scr at h1
      cases q : (P.dic l && P.slist st)
      · simp only at h1; rw [q] at h1; exact absurd h1 (by simp)
      · simpa using q
    have HDI := Lib.hid hdic; have HSI := Lib.hid hslist
    clear hd hdic hslist
    obtain ⟨k0, k1⟩ := HR1.out
    have k2 := HX1.out
    have hw1 : IntKind.i64.wrap ((st.length : Int) - 1) = (st.length : Int) - 1 := IntWalk.i64_in _ (by omega)
    go_wp2
    clear k0 k1 k2
    go_loopw [6, 7, 8] (fun u x i wr => ∃ (j : Nat) (es : List P.Edit) (s : Str), j ≤ st.length ∧ i = .int .i64 ((st.length : Int) - 1 - j) ∧ x = .string (S s) ∧ P.undoN l (st, t) j = some (es, s) ∧ OwnE (w.heap.size + 1 + 1) wr u es ∧ Below w.heap.size w wr ∧ RdU w.heap.size (.slice ad l.length cap) (.slice sd st.length sc) wr ∧ w.heap.size + 3 ≤ wr.heap.size) (fun _ _ i _ => (intOf i + 1).toNat)
    case atStart => exact ⟨0, [], t, Nat.zero_le _, by simp, rfl, rfl, HOW1.out, HB1.out, HR1.out, hz1⟩
    case round =>
      obtain ⟨j, es, s, hj, rfl, rfl, hN, how, hbl, hrd, hzr⟩ := hrel
      have HN := Lib.hid hN; have HOW := Lib.hid how; have HBW := Lib.hid hbl; have HRD := Lib.hid hrd
      have HJ := Lib.hid (P.undoN_len hN)
      have hsl2 := P.screen_len (P.undoN_screen HSC.out hN)
      obtain ⟨ua, uc, rfl⟩ := ownE_form how
      clear hN how hbl hrd HOW1 HB1 HR1 HX1
      by_cases hlt : j < st.length
      · have HN1 := Lib.hid (P.undoN_succ HN.out)
        simp only at HN1
        obtain ⟨m, hmm⟩ : ∃ m, st.length - 1 - j = m := ⟨_, rfl⟩
        have hmi : (st.length : Int) - 1 - j = (m : Int) := by omega
        have hml : m ≤ st.length := by omega
        have hcap := (HST.out).cap
        have HIT := Lib.hid ((HST.out.below (HBW.out.trans ((Below.refl wr.heap.size wr).drew.mono HBW.out.size))).take hml)
        have HSE := Lib.hid (P.scr_renderS HDI.out (P.slist_take HSI.out m))
        rw [hmm] at HN1
        have hi0 : (0 : Int) ≤ (m : Int) := by omega
        have HS := Lib.hid (show RdU w.heap.size (.slice ad l.length cap) (.slice sd st.length sc) wr.drew from HRD.out.step (Below.refl wr.heap.size wr).drew (by omega))
        have HBD := Lib.hid (HBW.out.trans ((Below.refl wr.heap.size wr).drew.mono HBW.out.size)); have HOD := Lib.hid (own_kept HOW.out (Below.refl wr.heap.size wr).drew (Nat.le_refl _))
        have hzd : w.heap.size + 3 ≤ wr.drew.heap.size := hzr
        have HSN := Lib.hid (P.scr_no (d := l) (st := st.take m))
        have hsl3 := P.scr_len l (st.take m)
        rw [hmi]
        go_upto_region 8 with fail
        refine wp_region_held_drew (S := RdU w.heap.size (.slice ad l.length cap) (.slice sd st.length sc)) (by kernel_rfl) HS.out (fun hS0 => ?_)
        generalize wr.drew = v0 at *
        refine wpAnyH_take (i := 0) (v := .agg #[.slice ad l.length cap]) rfl (by kernel_rfl) (by kernel_rfl) (by kernel_rfl) (fun _ _ _ h => h) (Or.inl ⟨by rfl, fun z hz => ?_⟩) hS0 ?_
        · obtain ⟨z1, z2⟩ := hz
          go_simp
        try simp only [List.getElem_toArray, List.getElem_cons_zero, Act.put, List.setIfInBounds_toArray, List.set_cons_zero, List.set_cons_succ]
        refine wpAnyH_take (i := 1) (v := .pointer (some ⟨w.heap.size + 1, 0, none⟩)) rfl (by kernel_rfl) (by kernel_rfl) (by kernel_rfl) (fun _ _ _ h => h) (Or.inl ⟨by rfl, fun z hz => ?_⟩) hS0 ?_
        · obtain ⟨z1, z2⟩ := hz
          go_simp
        try simp only [List.getElem_toArray, List.getElem_cons_zero, List.getElem_cons_succ, Act.put, List.setIfInBounds_toArray, List.set_cons_zero, List.set_cons_succ]
        refine wpAnyH_take (i := 2) (v := .slice sd st.length sc) rfl (by kernel_rfl) (by kernel_rfl) (by kernel_rfl) (fun _ _ _ h => h) (Or.inl ⟨by rfl, fun z hz => ?_⟩) hS0 ?_
        · obtain ⟨z1, z2⟩ := hz
          go_simp
        try simp only [List.getElem_toArray, List.getElem_cons_zero, List.getElem_cons_succ, Act.put, List.setIfInBounds_toArray, List.set_cons_zero, List.set_cons_succ]
        refine wpAnyH_take (i := 3) (v := .int .i64 m) rfl (by kernel_rfl) (by kernel_rfl) (by kernel_rfl) (fun _ _ _ h => h) (Or.inl ⟨by rfl, fun z hz => ?_⟩) hS0 ?_
        · obtain ⟨z1, z2⟩ := hz
          go_simp
        try simp only [List.getElem_toArray, List.getElem_cons_zero, List.getElem_cons_succ, Act.put, List.setIfInBounds_toArray, List.set_cons_zero, List.set_cons_succ]
        have i5 : (m : Int) ≤ (sc : Int) := by omega
        have i6 : m ≤ sc := by omega
        refine wpAnyH_take (i := 4) (v := .slice sd m sc) rfl (by kernel_rfl) (by kernel_rfl) (by kernel_rfl) (fun _ _ _ h => h) (Or.inl ⟨by rfl, fun z hz => ?_⟩) hS0 ?_
        · obtain ⟨z1, z2⟩ := hz
          go_simp
        try simp only [List.getElem_toArray, List.getElem_cons_zero, List.getElem_cons_succ, Act.put, List.setIfInBounds_toArray, List.set_cons_zero, List.set_cons_succ]
        refine wpAnyH_ready (rs := [5]) (by kernel_rfl) (by simp) ?_
        refine AllReadyH.cons rfl (fun K hK => ?_) AllReadyH.nil
        go_simp
        refine (l14Screen _ _ l (st.take m) _ (HU.out.below HBD.out) HIT.out HDI.out (P.slist_take HSI.out m)).mono ?_
        rintro e w3 ⟨rfl, hb⟩
        have HB3 := Lib.hid (HBD.out.trans (hb.mono HBD.out.size)); have HO3 := Lib.hid (own_kept HOD.out hb (Nat.le_refl _))
        have hz3 : w.heap.size + 3 ≤ w3.heap.size := by have := hb.size; omega
        have HR3 := Lib.hid (hS0.step hb (by omega))
        refine hK.out _ _ HR3.out (fun hS1 => ?_)
        clear hK K hb hS0 HIT HS HBD HOD
        try simp only [List.getElem_toArray, List.getElem_cons_zero, List.getElem_cons_succ, Act.put, List.setIfInBounds_toArray, List.set_cons_zero, List.set_cons_succ]
        generalize P.renderS (P.atomsOf (st.take m) (P.segA l (st.take m))) = q at *
        obtain ⟨q1, q2⟩ := q
        refine wpAnyH_take (i := 6) (v := .tuple #[.string (S q1), .bool q2]) rfl (by kernel_rfl) (by kernel_rfl) (by kernel_rfl) (fun _ _ _ h => h) (Or.inl ⟨by rfl, fun z hz => ?_⟩) hS1 ?_
        · obtain ⟨z1, z2⟩ := hz
          go_simp
        try simp only [List.getElem_toArray, List.getElem_cons_zero, List.getElem_cons_succ, Act.put, List.setIfInBounds_toArray, List.set_cons_zero, List.set_cons_succ]
        refine wpAnyH_take (i := 7) (v := .string (S q1)) rfl (by kernel_rfl) (by kernel_rfl) (by kernel_rfl) (fun _ _ _ h => h) (Or.inl ⟨by rfl, fun z hz => ?_⟩) hS1 ?_
        · obtain ⟨z1, z2⟩ := hz
          go_simp
        try simp only [List.getElem_toArray, List.getElem_cons_zero, List.getElem_cons_succ, Act.put, List.setIfInBounds_toArray, List.set_cons_zero, List.set_cons_succ]
        refine wpAnyH_take (i := 8) (v := .bool q2) rfl (by kernel_rfl) (by kernel_rfl) (by kernel_rfl) (fun _ _ _ h => h) (Or.inl ⟨by rfl, fun z hz => ?_⟩) hS1 ?_
        · obtain ⟨z1, z2⟩ := hz
          go_simp
        try simp only [List.getElem_toArray, List.getElem_cons_zero, List.getElem_cons_succ, Act.put, List.setIfInBounds_toArray, List.set_cons_zero, List.set_cons_succ]
        refine wpAnyH_take (i := 9) (v := .string (S q1)) rfl (by kernel_rfl) (by kernel_rfl) (by kernel_rfl) (fun _ _ _ h => h) (Or.inl ⟨by rfl, fun z hz => ?_⟩) hS1 ?_
        · obtain ⟨z1, z2⟩ := hz
          go_simp
        try simp only [List.getElem_toArray, List.getElem_cons_zero, List.getElem_cons_succ, Act.put, List.setIfInBounds_toArray, List.set_cons_zero, List.set_cons_succ]
        refine wpAnyH_take (i := 10) (v := .bool q2) rfl (by kernel_rfl) (by kernel_rfl) (by kernel_rfl) (fun _ _ _ h => h) (Or.inl ⟨by rfl, fun z hz => ?_⟩) hS1 ?_
        · obtain ⟨z1, z2⟩ := hz
          go_simp
        try simp only [List.getElem_toArray, List.getElem_cons_zero, List.getElem_cons_succ, Act.put, List.setIfInBounds_toArray, List.set_cons_zero, List.set_cons_succ]
        refine wpAnyH_done (by kernel_rfl) ?_ _
        clear hS1
        generalize P.scr l (st.take m) = cr at *
        obtain ⟨scr, ok⟩ := cr
        have hqe := HSE.out.1
        simp only at hqe HN1 HSN hsl3
        subst hqe
        cases q2
        · have HP := Lib.hid (P.undo_bad (t := (st, t)) (j := j + 1) (by rw [HN1.out]; rfl) (by show j + 1 ≤ st.length; omega))
          have HOE := Lib.hid (show OwnE w.heap.size (w3.alloc (.cells #[] 38)) (.slice (some ⟨w3.heap.size, 0, none⟩) 0 0) [] from own_base (ownE_nil w3) (by omega))
          go_wp2
          refine bodyPost_ret (v := .tuple #[.slice (some ⟨w3.heap.size, 0, none⟩) 0 0, .bool false]) (by simp [results, Tryz.results40, go_sem]) rfl ⟨_, by rw [HP.out], by rw [HP.out]; exact HOE.out, ?_⟩
          exact HB3.out.alloc (by omega) _
        · have hq1 : q1 = scr := HSE.out.2 rfl
          subst hq1
          go_wp2_with fail
          refine (l13Least s q1 _ (by omega) (by omega)).mono ?_
          rintro e w4 ⟨rfl, hb⟩
          have HB4 := Lib.hid (HB3.out.trans (hb.mono HB3.out.size)); have HO4 := Lib.hid (own_kept HO3.out hb (Nat.le_refl _)); have HR4 := Lib.hid (HR3.out.step hb (by omega))
          have hz4 : w.heap.size + 3 ≤ w4.heap.size := by have := hb.size; omega
          clear hb
          obtain ⟨en, et, hle⟩ : ∃ en et, P.least s q1 = (en, et) := ⟨_, _, rfl⟩
          have HN2 := Lib.hid (show P.undoN l (st, t) (j + 1) = some (es ++ [(en, et)], q1) by rw [HN1.out, ← hle]; rfl)
          rw [hle]
          simp only
          clear hle
          have hba := (Below.refl w4.heap.size w4).alloc (Nat.le_refl _) (.cells #[.int .i64 en, .string (S et)] 38)
          have HBA := Lib.hid hba
          have HRA := Lib.hid (own_kept HO4.out hba (Nat.le_refl _))
          have hza : (w.heap.size + 1 + 1) ≤ (w4.alloc (.cells #[.int .i64 en, .string (S et)] 38)).heap.size := by simp; omega
          have hna0 : (w4.alloc (.cells #[.int .i64 en, .string (S et)] 38)).cell? ⟨w4.heap.size, 0, none⟩ = some (.int .i64 en) := by go_simp
          have hna1 : (w4.alloc (.cells #[.int .i64 en, .string (S et)] 38)).cell? ⟨w4.heap.size, 1, none⟩ = some (.string (S et)) := by go_simp
          clear hba
          go_wp2_with (at_builtin; refine wpList_append_lies _ rfl _ _ 30 rfl (w.heap.size + 1 + 1) 38 i0 (.agg #[.int .i64 0, .string ⟨#[]⟩]) 2 24 Tryz.underlying30 hi hy0 hy1 hy2 rfl (by decide) (.slice ua es.length uc) es.length (atomVals es) rfl HRA.out ⟨w4.heap.size, 0, none⟩ 1 1 [.int .i64 en, .string (S et)] rfl rfl ?_ ?_ (by decide) (by have := HJ.out; unfold maxLen; omega) (by have := HJ.out; omega) hza _ rfl ?_)
          · intro k y hy
            match k, hy with
            | 0, hy => injection hy with hy; subst hy; rw [add0]; exact hna0
            | 1, hy => injection hy with hy; subst hy; exact hna1
          · intro y hy
            simp only [List.mem_cons, List.not_mem_nil, or_false] at hy
            rcases hy with rfl | rfl <;> rfl
          intro g3 cap3 z hown hgr hat hlt3
          have hcz := chg_grown hgr
          have hlo : ∀ k, (Value.slice ua es.length uc).ownBlock = some k → (w.heap.size + 1 + 1) ≤ k := fun k hk => (World.ownsRow.lt HO4.out k hk).1
          have HBZ := Lib.hid (Chg.belowB (HB4.out.trans (HBA.out.mono HB4.out.size)) hcz (by first | omega | (simp; done) | (simp; omega)) (fun k hk => by have := hlo k hk; omega))
          have HRZ := Lib.hid ((HR4.out.step (HBA.out) (by omega)).step (B := (w.heap.size + 1 + 1)) (hcz.below hza hlo) (by omega))
          have HOZ := Lib.hid (show OwnE (w.heap.size + 1 + 1) z (.slice (some ⟨g3, 0, none⟩) (es.length + 1) cap3) (es ++ [(en, et)]) by unfold OwnE; rw [atomVals_snoc, List.length_append]; exact hown)
          have hzz : w.heap.size + 3 ≤ z.heap.size := by have h1 := hgr.size; simp at h1; omega
          have hwm : IntKind.i64.wrap ((m : Int) - 1) = (m : Int) - 1 := IntWalk.i64_in _ (by omega)
          clear hown hgr hat hcz hna0 hna1 hza hlo
          go_wp2
          go_roundw
          case rel => exact ⟨j + 1, es ++ [(en, et)], q1, by omega, by go_num, rfl, HN2.out, HOZ.out, HBZ.out, HRZ.out, hzz⟩
          case measure => simp [intOf] <;> omega
      · have hjl : j = st.length := by omega
        subst hjl
        have HP := Lib.hid (P.undo_all (t := (st, t)) HD.out HN.out)
        have HROW := Lib.hid (own_base HOW.out (show w.heap.size ≤ (w.heap.size + 1 + 1) by omega))
        have hneg : ¬ (0 : Int) ≤ (st.length : Int) - 1 - st.length := by omega
        clear HOW HN
        go_wp2
        refine bodyPost_ret (v := .tuple #[.slice ua es.length uc, .bool true]) (by simp [results, Tryz.results40, go_sem]) rfl ⟨.slice ua es.length uc, by rw [HP.out], by rw [HP.out]; exact HROW.out, HBW.out⟩
end Go.Proofs.YtpkahblajgaemaaGreatDoor
