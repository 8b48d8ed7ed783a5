/- Walks: a replay (reference). -/
import Derived.Test.YtmlklnimoknojaaGreatDoorTool3
import Derived.Test.YtmlklnimoknojaaGreatDoorScrI7
namespace Go.Proofs.YtmlklnimoknojaaGreatDoor
open Go Go.RowKit
set_option maxHeartbeats 4000000
set_option maxRecDepth 100000
/-- what a round of the reference's replay reads -/
def RdS (a b g p : Nat) (dv tv : Value) (t : Str) (s : Int) (v : World) : Prop := v.cell? ⟨a, 0, none⟩ = some dv ∧ v.cell? ⟨b, 0, none⟩ = some tv ∧ v.cell? ⟨b, 1, none⟩ = some (.string (S t)) ∧ v.cell? ⟨g, p, none⟩ = some (.int .i64 s)
theorem RdS.step {a b g p : Nat} {dv tv : Value} {t : Str} {s : Int} {v v' : World} {B : Nat} (h : RdS a b g p dv tv t s v) (hb : Below B v v') (hB : a < B ∧ b < B ∧ g < B) : RdS a b g p dv tv t s v' :=
  ⟨(hb.cell (p := ⟨a, 0, none⟩) hB.1).trans h.1, (hb.cell (p := ⟨b, 0, none⟩) hB.2.1).trans h.2.1, (hb.cell (p := ⟨b, 1, none⟩) hB.2.1).trans h.2.2.1, (hb.cell (p := ⟨g, p, none⟩) hB.2.2).trans h.2.2.2⟩
theorem spec_replay (dv sv : Value) (l : P.Dic) (st : List Int) (w : World) (hu : EntR w dv l) (hs : IntR w sv st) (hm : Small l) :
    Calls Tryz.prog 13 #[.agg #[dv], sv] w (ReplayPost (P.replay l st) w) := by
  obtain ⟨i0, hi, hy0, hy1, hy2⟩ := info_parts info_edit
  have HU := Lib.hid hu; have HST := Lib.hid hs
  obtain ⟨ad, cap, rfl, _, _⟩ := hu
  obtain ⟨sd, sc, rfl, hsl, _⟩ := hs
  have HS0 := Lib.hid (show RpSt w (w.heap.size + 1 + 1) (w.heap.size + 1 + 1 + 1) (.slice ad l.length cap) (.slice (some ⟨w.heap.size + 1 + 1, 0, none⟩) 0 0) (.slice none 0 0) [] P.tr0 ((((w.alloc (.cells #[.slice ad l.length cap] 26)).alloc (.cells #[.slice none 0 0, .string (S [])] 32)).alloc (.cells #[] 38)).alloc (.cells #[.slice none 0 0, .string (S [])] 32)) by
    have h0 : Below w.heap.size w ((((w.alloc (.cells #[.slice ad l.length cap] 26)).alloc (.cells #[.slice none 0 0, .string (S [])] 32)).alloc (.cells #[] 38)).alloc (.cells #[.slice none 0 0, .string (S [])] 32)) := ((((Below.refl w.heap.size w).alloc (Nat.le_refl _) _).alloc (by simp) _).alloc (by simp; omega) _).alloc (by simp; omega) _
    refine ⟨?_, World.ownsRow_nil _ _ _ _, by simp [Value.ownBlock], by simp [Value.ownBlock], ⟨by simp, by go_simp, by go_simp; rfl, by go_simp, by go_simp⟩, h0, ⟨⟨by simp <;> omega, by go_simp⟩, ⟨by simp <;> omega, by go_simp, by go_simp, by go_simp, by go_simp⟩⟩, by simp <;> omega⟩
    have h1 := (ownE_nil ((w.alloc (.cells #[.slice ad l.length cap] 26)).alloc (.cells #[.slice none 0 0, .string (S [])] 32))).alloc (.cells #[.slice none 0 0, .string (S [])] 32)
    exact (by simpa using h1 : World.ownsRow ((((w.alloc (.cells #[.slice ad l.length cap] 26)).alloc (.cells #[.slice none 0 0, .string (S [])] 32)).alloc (.cells #[] 38)).alloc (.cells #[.slice none 0 0, .string (S [])] 32)) (w.heap.size + 1 + 1) 38 2 (.slice (some ⟨w.heap.size + 1 + 1, 0, none⟩) 0 0) 0 (atomVals [])))
  go_enter Tryz.func13, Tryz.ntmps13
  go_upto_region 3 with (fail)
  generalize ((((w.alloc (.cells #[.slice ad l.length cap] 26)).alloc (.cells #[.slice none 0 0, .string (S [])] 32)).alloc (.cells #[] 38)).alloc (.cells #[.slice none 0 0, .string (S [])] 32)) = W0 at *
  obtain ⟨⟨_, k0⟩, _⟩ := HS0.out.rbx
  go_wp2_with fail
  refine (l6Good _ l _ (HU.out.below HS0.out.bel) hm.texts).mono ?_
  rintro e w1 ⟨rfl, hb⟩
  have HS1 := Lib.hid (HS0.out.below hb)
  have HDR1 := Lib.hid (HS1.out.below (Below.refl _ _).drew)
  clear hb k0 HS0
  have HBAD := Lib.hid (fun h : (P.dic l && decide (st.length ≤ 120)) = false => P.replay_no (st := st) h)
  have hu1 : (.slice (some ⟨w.heap.size + 1 + 1, 0, none⟩) 0 0 : Value).ownBlock ≠ some (w.heap.size + 1) := by simp [Value.ownBlock]
  have hu2 : (.slice none 0 0 : Value).ownBlock ≠ some (w.heap.size + 1) := by simp [Value.ownBlock]
  have HU1 := Lib.hid hu1; have HU2 := Lib.hid hu2
  clear hu1 hu2
  cases hd : P.dic l
  · have HP := Lib.hid (HBAD.out (by rw [hd]; rfl))
    clear hd
    go_upto_region 4 with fail
    refine wp_region_held_drew (S := TBx (w.heap.size + 1 + 1 + 1) (.slice none 0 0) []) (by kernel_rfl) HDR1.out.box (fun hS0 => ?_)
    generalize w1.drew = v0 at *
    refine wpAnyH_take (i := 0) (v := .slice (some ⟨w.heap.size + 1 + 1, 0, none⟩) 0 0) rfl (by kernel_rfl) (by kernel_rfl) (by kernel_rfl) (fun _ _ _ h => h) (Or.inl ⟨by rfl, fun z hz => ?_⟩) hS0 ?_
    · obtain ⟨z1, z2, z3, z4, z5⟩ := hz
      go_simp
    try simp only [qA, qB, Act.put, qD, qE, qF]
    refine wpAnyH_take (i := 1) (v := .agg #[.slice none 0 0, .string (S [])]) rfl (by kernel_rfl) (by kernel_rfl) (by kernel_rfl) (fun _ _ _ h => h) (Or.inl ⟨by rfl, fun z hz => ?_⟩) hS0 ?_
    · obtain ⟨z1, z2, z3, z4, z5⟩ := hz
      go_simp
    try simp only [qA, qB, qC, Act.put, qD, qE, qF]
    refine wpAnyH_take (i := 2) (v := .slice (some ⟨w.heap.size + 1 + 1, 0, none⟩) 0 0) rfl (by kernel_rfl) (by kernel_rfl) (by kernel_rfl) (fun _ _ _ h => h) (Or.inl ⟨by rfl, fun z hz => ?_⟩) hS0 ?_
    · obtain ⟨z1, z2, z3, z4, z5⟩ := hz
      go_simp
    try simp only [qA, qB, qC, Act.put, qD, qE, qF]
    obtain ⟨_, ⟨kz, k3, k4, k7, k8⟩⟩ := HDR1.out.rbx
    have hset : Chg (fun k => k = w.heap.size + 1) v0 ((v0.setCell ⟨w.heap.size + 1, 0, none⟩ (.slice none 0 0)).setCell ⟨w.heap.size + 1, 1, none⟩ (.string (S []))) := ((Chg.refl (fun k => k = w.heap.size + 1) v0).setCell (p := ⟨w.heap.size + 1, 0, none⟩) rfl _).setCell (p := ⟨w.heap.size + 1, 1, none⟩) rfl _
    have r0 : ((v0.setCell ⟨w.heap.size + 1, 0, none⟩ (.slice none 0 0)).setCell ⟨w.heap.size + 1, 1, none⟩ (.string (S []))).cell? ⟨w.heap.size + 1, 0, none⟩ = some (.slice none 0 0) := by go_simp
    have r1 : ((v0.setCell ⟨w.heap.size + 1, 0, none⟩ (.slice none 0 0)).setCell ⟨w.heap.size + 1, 1, none⟩ (.string (S []))).cell? ⟨w.heap.size + 1, 1, none⟩ = some (.string (S [])) := by go_simp
    refine wpAnyH_ready (rs := [3]) (by kernel_rfl) (by simp) ?_
    refine AllReadyH.cons rfl (fun K hK => ?_) AllReadyH.nil
    go_simp
    refine hK.out _ _ (hS0.stand hset (by omega)) (fun hS1 => ?_)
    clear hK K
    try simp only [qA, qB, qC, Act.put, qD, qE, qF]
    refine wpAnyH_take (i := 4) (v := .bool false) rfl (by kernel_rfl) (by kernel_rfl) (by kernel_rfl) (fun _ _ _ h => h) (Or.inl ⟨by rfl, fun z hz => ?_⟩) hS1 ?_
    · obtain ⟨z1, z2, z3, z4, z5⟩ := hz
      go_simp
    try simp only [qA, qB, qC, Act.put, qD, qE, qF]
    refine wpAnyH_done (by kernel_rfl) ?_ _
    have HROW := Lib.hid (own_base (owns_stand HDR1.out.row hset (fun k hk e => HU1.out (by rw [hk, e]))) (show w.heap.size ≤ (w.heap.size + 1 + 1) by omega))
    have HSTR := Lib.hid (own_base (owns_stand HDR1.out.str hset (fun k hk e => HU2.out (by rw [hk, e]))) (show w.heap.size ≤ (w.heap.size + 1 + 1) by omega))
    have HBL := Lib.hid (Chg.belowB HDR1.out.bel hset HDR1.out.bel.size (fun k hk => by have h9 : k = w.heap.size + 1 := hk; omega))
    clear hS0 hS1 hset
    go_wp2
    refine bodyPost_ret (v := .tuple #[.slice (some ⟨w.heap.size + 1 + 1, 0, none⟩) 0 0, transV (.slice none 0 0) [], .bool false]) (by simp [transV, r0, r1, results, Tryz.results13, go_sem]) rfl ⟨.slice (some ⟨w.heap.size + 1 + 1, 0, none⟩) 0 0, .slice none 0 0, by rw [HP.out]; rfl, ?_, ?_, HBL.out⟩
    · rw [HP.out]; exact HROW.out
    · rw [HP.out]; exact HSTR.out
  · have HD := Lib.hid hd
    by_cases hl : 120 < st.length
    · have HP := Lib.hid (HBAD.out (by rw [hd]; simp; omega))
      have i1 : (120 : Int) < (st.length : Int) := by omega
      clear hd
      go_upto_region 4 with fail
      refine wp_region_held_drew (S := TBx (w.heap.size + 1 + 1 + 1) (.slice none 0 0) []) (by kernel_rfl) HDR1.out.box (fun hS0 => ?_)
      generalize w1.drew = v0 at *
      refine wpAnyH_take (i := 0) (v := .slice (some ⟨w.heap.size + 1 + 1, 0, none⟩) 0 0) rfl (by kernel_rfl) (by kernel_rfl) (by kernel_rfl) (fun _ _ _ h => h) (Or.inl ⟨by rfl, fun z hz => ?_⟩) hS0 ?_
      · obtain ⟨z1, z2, z3, z4, z5⟩ := hz
        go_simp
      try simp only [qA, qB, Act.put, qD, qE, qF]
      refine wpAnyH_take (i := 1) (v := .agg #[.slice none 0 0, .string (S [])]) rfl (by kernel_rfl) (by kernel_rfl) (by kernel_rfl) (fun _ _ _ h => h) (Or.inl ⟨by rfl, fun z hz => ?_⟩) hS0 ?_
      · obtain ⟨z1, z2, z3, z4, z5⟩ := hz
        go_simp
      try simp only [qA, qB, qC, Act.put, qD, qE, qF]
      refine wpAnyH_take (i := 2) (v := .slice (some ⟨w.heap.size + 1 + 1, 0, none⟩) 0 0) rfl (by kernel_rfl) (by kernel_rfl) (by kernel_rfl) (fun _ _ _ h => h) (Or.inl ⟨by rfl, fun z hz => ?_⟩) hS0 ?_
      · obtain ⟨z1, z2, z3, z4, z5⟩ := hz
        go_simp
      try simp only [qA, qB, qC, Act.put, qD, qE, qF]
      obtain ⟨_, ⟨kz, k3, k4, k7, k8⟩⟩ := HDR1.out.rbx
      have hset : Chg (fun k => k = w.heap.size + 1) v0 ((v0.setCell ⟨w.heap.size + 1, 0, none⟩ (.slice none 0 0)).setCell ⟨w.heap.size + 1, 1, none⟩ (.string (S []))) := ((Chg.refl (fun k => k = w.heap.size + 1) v0).setCell (p := ⟨w.heap.size + 1, 0, none⟩) rfl _).setCell (p := ⟨w.heap.size + 1, 1, none⟩) rfl _
      have r0 : ((v0.setCell ⟨w.heap.size + 1, 0, none⟩ (.slice none 0 0)).setCell ⟨w.heap.size + 1, 1, none⟩ (.string (S []))).cell? ⟨w.heap.size + 1, 0, none⟩ = some (.slice none 0 0) := by go_simp
      have r1 : ((v0.setCell ⟨w.heap.size + 1, 0, none⟩ (.slice none 0 0)).setCell ⟨w.heap.size + 1, 1, none⟩ (.string (S []))).cell? ⟨w.heap.size + 1, 1, none⟩ = some (.string (S [])) := by go_simp
      refine wpAnyH_ready (rs := [3]) (by kernel_rfl) (by simp) ?_
      refine AllReadyH.cons rfl (fun K hK => ?_) AllReadyH.nil
      go_simp
      refine hK.out _ _ (hS0.stand hset (by omega)) (fun hS1 => ?_)
      clear hK K
      try simp only [qA, qB, qC, Act.put, qD, qE, qF]
      refine wpAnyH_take (i := 4) (v := .bool false) rfl (by kernel_rfl) (by kernel_rfl) (by kernel_rfl) (fun _ _ _ h => h) (Or.inl ⟨by rfl, fun z hz => ?_⟩) hS1 ?_
      · obtain ⟨z1, z2, z3, z4, z5⟩ := hz
        go_simp
      try simp only [qA, qB, qC, Act.put, qD, qE, qF]
      refine wpAnyH_done (by kernel_rfl) ?_ _
      have HROW := Lib.hid (own_base (owns_stand HDR1.out.row hset (fun k hk e => HU1.out (by rw [hk, e]))) (show w.heap.size ≤ (w.heap.size + 1 + 1) by omega))
      have HSTR := Lib.hid (own_base (owns_stand HDR1.out.str hset (fun k hk e => HU2.out (by rw [hk, e]))) (show w.heap.size ≤ (w.heap.size + 1 + 1) by omega))
      have HBL := Lib.hid (Chg.belowB HDR1.out.bel hset HDR1.out.bel.size (fun k hk => by have h9 : k = w.heap.size + 1 := hk; omega))
      clear hS0 hS1 hset
      go_wp2
      refine bodyPost_ret (v := .tuple #[.slice (some ⟨w.heap.size + 1 + 1, 0, none⟩) 0 0, transV (.slice none 0 0) [], .bool false]) (by simp [transV, r0, r1, results, Tryz.results13, go_sem]) rfl ⟨.slice (some ⟨w.heap.size + 1 + 1, 0, none⟩) 0 0, .slice none 0 0, by rw [HP.out]; rfl, ?_, ?_, HBL.out⟩
      · rw [HP.out]; exact HROW.out
      · rw [HP.out]; exact HSTR.out
    · have i1 : ¬ (120 : Int) < (st.length : Int) := by omega
      have HL := Lib.hid (show st.length ≤ 120 by omega)
      clear hd hl HBAD HU1 HU2 HDR1
      go_wp2
      go_loopw [7, 9] (fun u i wr => ∃ (j : Nat) (es : List P.Edit) (t : P.Tr) (tv : Value), j ≤ st.length ∧ i = .int .i64 j ∧ P.replayN l st j = some (es, t) ∧ RpSt w (w.heap.size + 1 + 1) (w.heap.size + 1 + 1 + 1) (.slice ad l.length cap) u tv es t wr) (fun _ i _ => st.length - (intOf i).toNat)
      case atStart => exact ⟨0, [], P.tr0, _, Nat.zero_le _, rfl, rfl, HS1.out⟩
      case round =>
        obtain ⟨j, es, t, tv, hj, rfl, hN, hr⟩ := hrel
        have HR := Lib.hid hr; have HN := Lib.hid hN
        have HSM := Lib.hid (P.replayN_small hN)
        obtain ⟨ua, uc, rfl⟩ := ownE_form hr.row
        obtain ⟨ta, tc, rfl⟩ := ownK_form hr.str
        clear hr hN HS1
        by_cases hlt : j < st.length
        · obtain ⟨g, o, hga, hgs, c0⟩ := (HST.out.below HR.out.bel).at j hlt
          subst hga
          have HN1 := Lib.hid (P.replayN_succ HN.out hlt)
          generalize st[j] = s at *
          have i2 : (j : Int) < (st.length : Int) := by omega
          have hs1 := HSM.out.2.1
          have hs2 := HSM.out.2.2
          obtain ⟨t1, t2⟩ := t
          simp only at hs1 hs2
          have hll := HL.out
          have hzr := HR.out.siz
          have hzb := HR.out.box.1
          obtain ⟨nx, scr, en, et, ok, hrr⟩ : ∃ nx scr en et ok, P.press l (t1, t2) s = (((nx, scr), (en, et)), ok) := ⟨_, _, _, _, _, rfl⟩
          have HRR := Lib.hid hrr; clear hrr
          have HLT := Lib.hid (show w.heap.size < wr.heap.size ∧ (w.heap.size + 1 + 1 + 1) < wr.heap.size ∧ g < wr.heap.size from ⟨by omega, hzb, hgs⟩)
          have HRD := Lib.hid (show RdS w.heap.size (w.heap.size + 1 + 1 + 1) g (o + j) (.slice ad l.length cap) (.slice ta t1.length tc) t2 s wr.drew from RdS.step (B := wr.heap.size) ⟨HR.out.rbx.1.2, HR.out.box.2.1, HR.out.box.2.2.1, c0⟩ (Below.refl _ _).drew HLT.out)
          clear c0
          go_upto_region 8 with fail
          go_cut [10, 11, 12] (fun p q okv wx => ∃ b10 b11 va vc, p = .pointer (some ⟨b10, 0, none⟩) ∧ q = .pointer (some ⟨b11, 0, none⟩) ∧ okv = .bool ok ∧ Box2E b10 (.slice va nx.length vc) scr wx ∧ Box2E b11 (.int .i64 en) et wx ∧ OwnK wr.heap.size wx (.slice va nx.length vc) nx ∧ Below wr.heap.size wr wx ∧ wr.heap.size ≤ b10 ∧ wr.heap.size ≤ b11)
          case first =>
            have HBW0 := Lib.hid (show Below wr.heap.size wr wr.drew from (Below.refl _ _).drew)
            refine wp_region_held_drew (S := RdS w.heap.size (w.heap.size + 1 + 1 + 1) g (o + j) (.slice ad l.length cap) (.slice ta t1.length tc) t2 s) (by kernel_rfl) HRD.out (fun hS0 => ?_)
            generalize wr.drew = v0 at *
            refine wpAnyH_take (i := 0) (v := .agg #[.slice ad l.length cap]) rfl (by kernel_rfl) (by kernel_rfl) (by kernel_rfl) (fun _ _ _ h => h) (Or.inl ⟨by rfl, fun z hz => ?_⟩) hS0 ?_
            · obtain ⟨z1, z2, z3, z4⟩ := hz
              go_simp
            try simp only [qA, qB, Act.put, qD, qE, qF]
            refine wpAnyH_take (i := 1) (v := .agg #[.slice ta t1.length tc, .string (S t2)]) rfl (by kernel_rfl) (by kernel_rfl) (by kernel_rfl) (fun _ _ _ h => h) (Or.inl ⟨by rfl, fun z hz => ?_⟩) hS0 ?_
            · obtain ⟨z1, z2, z3, z4⟩ := hz
              go_simp
            try simp only [qA, qB, qC, Act.put, qD, qE, qF]
            refine wpAnyH_take (i := 2) (v := .slice (some ⟨g, o, none⟩) st.length sc) rfl (by kernel_rfl) (by kernel_rfl) (by kernel_rfl) (fun _ _ _ h => h) (Or.inl ⟨by rfl, fun z hz => ?_⟩) hS0 ?_
            · obtain ⟨z1, z2, z3, z4⟩ := hz
              go_simp
            try simp only [qA, qB, qC, Act.put, qD, qE, qF]
            refine wpAnyH_take (i := 3) (v := .int .i64 j) rfl (by kernel_rfl) (by kernel_rfl) (by kernel_rfl) (fun _ _ _ h => h) (Or.inl ⟨by rfl, fun z hz => ?_⟩) hS0 ?_
            · obtain ⟨z1, z2, z3, z4⟩ := hz
              go_simp
            try simp only [qA, qB, qC, Act.put, qD, qE, qF]
            refine wpAnyH_take (i := 4) (v := .pointer (some ⟨g, o + j, none⟩)) rfl (by kernel_rfl) (by kernel_rfl) (by kernel_rfl) (fun _ _ _ h => h) (Or.inl ⟨by rfl, fun z hz => ?_⟩) hS0 ?_
            · obtain ⟨z1, z2, z3, z4⟩ := hz
              go_simp
            try simp only [qA, qB, qC, Act.put, qD, qE, qF]
            refine wpAnyH_take (i := 5) (v := .int .i64 s) rfl (by kernel_rfl) (by kernel_rfl) (by kernel_rfl) (fun _ _ _ h => h) (Or.inl ⟨by rfl, fun z hz => ?_⟩) hS0 ?_
            · obtain ⟨z1, z2, z3, z4⟩ := hz
              go_simp
            try simp only [qA, qB, qC, Act.put, qD, qE, qF]
            refine wpAnyH_ready (rs := [6, 11, 12]) (by kernel_rfl) (by simp) ?_
            refine AllReadyH.cons rfl (fun K hK => ?_) (AllReadyH.cons rfl (fun K hK => ?_) (AllReadyH.cons rfl (fun K hK => ?_) AllReadyH.nil))
            · skip
              go_simp
              refine (spec_press _ _ l t1 t2 s _ (HU.out.below (HR.out.bel.trans (HBW0.out.mono HR.out.bel.size))) (ownK_read (own_kept HR.out.str HBW0.out (Nat.le_refl _)) (by show t1.length ≤ _; omega)) hm (by omega) (by omega)).mono ?_
              rintro e v1 ⟨nv, rfl, ho, hb⟩
              rw [HRR.out] at ho ⊢
              simp only at ho ⊢
              unfold editV
              obtain ⟨va, vc, rfl⟩ := ownK_form ho
              refine hK.out _ _ (hS0.step (hb.mono HBW0.out.size) HLT.out) (fun hS2 => ?_)
              clear hK K
              have HBW3 := Lib.hid (HBW0.out.trans (hb.mono HBW0.out.size))
              have HO_4 := Lib.hid (own_base ho HBW0.out.size)
              clear ho hb
              try simp only []
              refine wpAnyH_take (i := 7) (v := .tuple #[.agg #[.slice va nx.length vc, .string (S scr)], .agg #[.int .i64 en, .string (S et)], .bool ok]) rfl (by kernel_rfl) (by kernel_rfl) (by kernel_rfl) (fun _ _ _ h => h) (Or.inl ⟨by rfl, fun z hz => ?_⟩) hS2 ?_
              · obtain ⟨z1, z2, z3, z4⟩ := hz
                go_simp
              try simp only [qA, qB, qC, Act.put, qD, qE, qF]
              refine wpAnyH_take (i := 8) (v := .agg #[.slice va nx.length vc, .string (S scr)]) rfl (by kernel_rfl) (by kernel_rfl) (by kernel_rfl) (fun _ _ _ h => h) (Or.inl ⟨by rfl, fun z hz => ?_⟩) hS2 ?_
              · obtain ⟨z1, z2, z3, z4⟩ := hz
                go_simp
              try simp only [qA, qB, qC, Act.put, qD, qE, qF]
              refine wpAnyH_take (i := 9) (v := .agg #[.int .i64 en, .string (S et)]) rfl (by kernel_rfl) (by kernel_rfl) (by kernel_rfl) (fun _ _ _ h => h) (Or.inl ⟨by rfl, fun z hz => ?_⟩) hS2 ?_
              · obtain ⟨z1, z2, z3, z4⟩ := hz
                go_simp
              try simp only [qA, qB, qC, Act.put, qD, qE, qF]
              refine wpAnyH_take (i := 10) (v := .bool ok) rfl (by kernel_rfl) (by kernel_rfl) (by kernel_rfl) (fun _ _ _ h => h) (Or.inl ⟨by rfl, fun z hz => ?_⟩) hS2 ?_
              · obtain ⟨z1, z2, z3, z4⟩ := hz
                go_simp
              try simp only [qA, qB, qC, Act.put, qD, qE, qF]
              refine wpAnyH_ready (rs := [11, 12]) (by kernel_rfl) (by simp) ?_
              refine AllReadyH.cons rfl (fun K hK => ?_) (AllReadyH.cons rfl (fun K hK => ?_) AllReadyH.nil)
              · skip
                go_simp
                have hb := (Below.refl v1.heap.size v1).alloc (Nat.le_refl _) (.cells #[.slice none 0 0, .string (S [])] 32)
                have zb7 : v1.heap.size < (v1.alloc (.cells #[.slice none 0 0, .string (S [])] 32)).heap.size := by simp
                have HAP10 := Lib.hid (show (.slice va nx.length vc : Value).ownBlock ≠ some (v1.heap.size) from fun k => by have h1 := (World.ownsRow.lt HO_4.out _ k).2; omega)
                refine hK.out _ _ (hS2.step (hb.mono HBW3.out.size) HLT.out) (fun hS6 => ?_)
                clear hK K
                have HBW8 := Lib.hid (HBW3.out.trans (hb.mono HBW3.out.size))
                have HO_9 := Lib.hid (own_kept HO_4.out hb (Nat.le_refl _))
                have BX10_10 := Lib.hid (And.intro (TBx.new (.slice none 0 0) [] v1) HBW3.out.size)
                clear hb
                generalize v1.alloc (.cells #[.slice none 0 0, .string (S [])] 32) = v5 at *
                try simp only [qA, qB, qC, Act.put, qD, qE, qF]
                refine wpAnyH_ready (rs := [12]) (by kernel_rfl) (by simp) ?_
                refine AllReadyH.cons rfl (fun K hK => ?_) AllReadyH.nil
                go_simp
                have hb := (Below.refl v5.heap.size v5).alloc (Nat.le_refl _) (.cells #[.int .i64 0, .string (S [])] 38)
                have zb13 : v5.heap.size < (v5.alloc (.cells #[.int .i64 0, .string (S [])] 38)).heap.size := by simp
                have zc14 := BX10_10.out.1.1
                have HAP11 := Lib.hid (show (.slice va nx.length vc : Value).ownBlock ≠ some (v5.heap.size) from fun k => by have h1 := (World.ownsRow.lt HO_9.out _ k).2; omega)
                refine hK.out _ _ (hS6.step (hb.mono HBW8.out.size) HLT.out) (fun hS12 => ?_)
                clear hK K
                have HBW15 := Lib.hid (HBW8.out.trans (hb.mono HBW8.out.size))
                have BX10_16 := Lib.hid (And.intro (BX10_10.out.1.below hb) BX10_10.out.2)
                have HO_17 := Lib.hid (own_kept HO_9.out hb (Nat.le_refl _))
                have BX11_18 := Lib.hid (And.intro (EBx.new v5) HBW8.out.size)
                clear hb
                generalize v5.alloc (.cells #[.int .i64 0, .string (S [])] 38) = v11 at *
                try simp only [qA, qB, qC, Act.put, qD, qE, qF]
                refine wpAnyH_ready (rs := [13]) (by kernel_rfl) (by simp) ?_
                refine AllReadyH.cons rfl (fun K hK => ?_) AllReadyH.nil
                have hw10 := BX10_16.out.2
                obtain ⟨zb, cb0, cb1, fb0, fb1⟩ := BX10_16.out.1
                go_simp
                obtain ⟨v19, hv19⟩ : ∃ y, ((v11.setCell ⟨v1.heap.size, 0, none⟩ (.slice va nx.length vc)).setCell ⟨v1.heap.size, 1, none⟩ (.string (S scr))) = y := ⟨_, rfl⟩
                have hcg : Chg (fun k => k = v1.heap.size) v11 v19 := by rw [← hv19]; exact ((Chg.refl (fun k => k = v1.heap.size) v11).setCell (p := ⟨v1.heap.size, 0, none⟩) rfl _).setCell (p := ⟨v1.heap.size, 1, none⟩) rfl _
                have hbox10 : Box2E v1.heap.size (.slice va nx.length vc) scr v19 := by rw [← hv19]; exact Box2E.set2 cb0 cb1 zb
                have hbw10 : Below wr.heap.size wr v19 := Chg.belowB HBW15.out hcg HBW15.out.size (fun k h => by have h9 : k = v1.heap.size := h; omega)
                have hst : RdS w.heap.size (w.heap.size + 1 + 1 + 1) g (o + j) (.slice ad l.length cap) (.slice ta t1.length tc) t2 s v19 := hS12.step (B := wr.heap.size) (hcg.below HBW15.out.size (fun k h => by have h9 : k = v1.heap.size := h; omega)) HLT.out
                refine hK.out _ _ (by rw [hv19]; exact hst) (fun hS20 => ?_)
                clear hK K
                rw [hv19] at hS20 ⊢
                try simp only [qA, qB, qC, Act.put, qD, qE, qF]
                have HO_21 := Lib.hid (owns_stand HO_17.out hcg (fun k hk h => HAP10.out (by have h9 : k = v1.heap.size := h; rw [hk, h9])))
                have BX11_z := Lib.hid (And.intro (BX11_18.out.1.stand hcg (by omega)) BX11_18.out.2)
                have HBW22 := Lib.hid hbw10
                clear hcg zb cb0 cb1 fb0 fb1 hst
                refine wpAnyH_ready (rs := [14]) (by kernel_rfl) (by simp) ?_
                refine AllReadyH.cons rfl (fun K hK => ?_) AllReadyH.nil
                have hw11 := BX11_z.out.2
                obtain ⟨zb, cb0, cb1, fb0, fb1⟩ := BX11_z.out.1
                go_simp
                obtain ⟨v23, hv23⟩ : ∃ y, ((v19.setCell ⟨v5.heap.size, 0, none⟩ (.int .i64 en)).setCell ⟨v5.heap.size, 1, none⟩ (.string (S et))) = y := ⟨_, rfl⟩
                have hcg : Chg (fun k => k = v5.heap.size) v19 v23 := by rw [← hv23]; exact ((Chg.refl (fun k => k = v5.heap.size) v19).setCell (p := ⟨v5.heap.size, 0, none⟩) rfl _).setCell (p := ⟨v5.heap.size, 1, none⟩) rfl _
                have hbox11 : Box2E v5.heap.size (.int .i64 en) et v23 := by rw [← hv23]; exact Box2E.set2 cb0 cb1 zb
                have hbw11 : Below wr.heap.size wr v23 := Chg.belowB HBW22.out hcg HBW22.out.size (fun k h => by have h9 : k = v5.heap.size := h; omega)
                have hst : RdS w.heap.size (w.heap.size + 1 + 1 + 1) g (o + j) (.slice ad l.length cap) (.slice ta t1.length tc) t2 s v23 := hS20.step (B := wr.heap.size) (hcg.below HBW22.out.size (fun k h => by have h9 : k = v5.heap.size := h; omega)) HLT.out
                refine hK.out _ _ (by rw [hv23]; exact hst) (fun hS24 => ?_)
                clear hK K
                rw [hv23] at hS24 ⊢
                try simp only [qA, qB, qC, Act.put, qD, qE, qF]
                have HO_25 := Lib.hid (owns_stand HO_21.out hcg (fun k hk h => HAP11.out (by have h9 : k = v5.heap.size := h; rw [hk, h9])))
                have hbox10z := hbox10.stand hcg (by omega)
                have HBW26 := Lib.hid hbw11
                clear hcg zb cb0 cb1 fb0 fb1 hst
                refine wpAnyH_take (i := 15) (v := .bool ok) rfl (by kernel_rfl) (by kernel_rfl) (by kernel_rfl) (fun _ _ _ h => h) (Or.inl ⟨by rfl, fun z hz => ?_⟩) hS24 ?_
                · obtain ⟨z1, z2, z3, z4⟩ := hz
                  go_simp
                try simp only [qA, qB, qC, Act.put, qD, qE, qF]
                refine wpAnyH_done (by kernel_rfl) ?_ _
                go_wp2_with fail
                go_meet
                exact ⟨v1.heap.size, v5.heap.size, va, vc, rfl, rfl, rfl, hbox10z, hbox11, HO_25.out, HBW26.out, by omega, by omega⟩
              · skip
                go_simp
                have hb := (Below.refl v1.heap.size v1).alloc (Nat.le_refl _) (.cells #[.int .i64 0, .string (S [])] 38)
                have zb29 : v1.heap.size < (v1.alloc (.cells #[.int .i64 0, .string (S [])] 38)).heap.size := by simp
                have HAP11 := Lib.hid (show (.slice va nx.length vc : Value).ownBlock ≠ some (v1.heap.size) from fun k => by have h1 := (World.ownsRow.lt HO_4.out _ k).2; omega)
                refine hK.out _ _ (hS2.step (hb.mono HBW3.out.size) HLT.out) (fun hS28 => ?_)
                clear hK K
                have HBW30 := Lib.hid (HBW3.out.trans (hb.mono HBW3.out.size))
                have HO_31 := Lib.hid (own_kept HO_4.out hb (Nat.le_refl _))
                have BX11_32 := Lib.hid (And.intro (EBx.new v1) HBW3.out.size)
                clear hb
                generalize v1.alloc (.cells #[.int .i64 0, .string (S [])] 38) = v27 at *
                try simp only [qA, qB, qC, Act.put, qD, qE, qF]
                refine wpAnyH_ready (rs := [11]) (by kernel_rfl) (by simp) ?_
                refine AllReadyH.cons rfl (fun K hK => ?_) AllReadyH.nil
                go_simp
                have hb := (Below.refl v27.heap.size v27).alloc (Nat.le_refl _) (.cells #[.slice none 0 0, .string (S [])] 32)
                have zb35 : v27.heap.size < (v27.alloc (.cells #[.slice none 0 0, .string (S [])] 32)).heap.size := by simp
                have zc36 := BX11_32.out.1.1
                have HAP10 := Lib.hid (show (.slice va nx.length vc : Value).ownBlock ≠ some (v27.heap.size) from fun k => by have h1 := (World.ownsRow.lt HO_31.out _ k).2; omega)
                refine hK.out _ _ (hS28.step (hb.mono HBW30.out.size) HLT.out) (fun hS34 => ?_)
                clear hK K
                have HBW37 := Lib.hid (HBW30.out.trans (hb.mono HBW30.out.size))
                have BX11_38 := Lib.hid (And.intro (BX11_32.out.1.below hb) BX11_32.out.2)
                have HO_39 := Lib.hid (own_kept HO_31.out hb (Nat.le_refl _))
                have BX10_40 := Lib.hid (And.intro (TBx.new (.slice none 0 0) [] v27) HBW30.out.size)
                clear hb
                generalize v27.alloc (.cells #[.slice none 0 0, .string (S [])] 32) = v33 at *
                try simp only [qA, qB, qC, Act.put, qD, qE, qF]
                refine wpAnyH_ready (rs := [13]) (by kernel_rfl) (by simp) ?_
                refine AllReadyH.cons rfl (fun K hK => ?_) AllReadyH.nil
                have hw10 := BX10_40.out.2
                obtain ⟨zb, cb0, cb1, fb0, fb1⟩ := BX10_40.out.1
                go_simp
                obtain ⟨v41, hv41⟩ : ∃ y, ((v33.setCell ⟨v27.heap.size, 0, none⟩ (.slice va nx.length vc)).setCell ⟨v27.heap.size, 1, none⟩ (.string (S scr))) = y := ⟨_, rfl⟩
                have hcg : Chg (fun k => k = v27.heap.size) v33 v41 := by rw [← hv41]; exact ((Chg.refl (fun k => k = v27.heap.size) v33).setCell (p := ⟨v27.heap.size, 0, none⟩) rfl _).setCell (p := ⟨v27.heap.size, 1, none⟩) rfl _
                have hbox10 : Box2E v27.heap.size (.slice va nx.length vc) scr v41 := by rw [← hv41]; exact Box2E.set2 cb0 cb1 zb
                have hbw10 : Below wr.heap.size wr v41 := Chg.belowB HBW37.out hcg HBW37.out.size (fun k h => by have h9 : k = v27.heap.size := h; omega)
                have hst : RdS w.heap.size (w.heap.size + 1 + 1 + 1) g (o + j) (.slice ad l.length cap) (.slice ta t1.length tc) t2 s v41 := hS34.step (B := wr.heap.size) (hcg.below HBW37.out.size (fun k h => by have h9 : k = v27.heap.size := h; omega)) HLT.out
                refine hK.out _ _ (by rw [hv41]; exact hst) (fun hS42 => ?_)
                clear hK K
                rw [hv41] at hS42 ⊢
                try simp only [qA, qB, qC, Act.put, qD, qE, qF]
                have HO_43 := Lib.hid (owns_stand HO_39.out hcg (fun k hk h => HAP10.out (by have h9 : k = v27.heap.size := h; rw [hk, h9])))
                have BX11_z := Lib.hid (And.intro (BX11_38.out.1.stand hcg (by omega)) BX11_38.out.2)
                have HBW44 := Lib.hid hbw10
                clear hcg zb cb0 cb1 fb0 fb1 hst
                refine wpAnyH_ready (rs := [14]) (by kernel_rfl) (by simp) ?_
                refine AllReadyH.cons rfl (fun K hK => ?_) AllReadyH.nil
                have hw11 := BX11_z.out.2
                obtain ⟨zb, cb0, cb1, fb0, fb1⟩ := BX11_z.out.1
                go_simp
                obtain ⟨v45, hv45⟩ : ∃ y, ((v41.setCell ⟨v1.heap.size, 0, none⟩ (.int .i64 en)).setCell ⟨v1.heap.size, 1, none⟩ (.string (S et))) = y := ⟨_, rfl⟩
                have hcg : Chg (fun k => k = v1.heap.size) v41 v45 := by rw [← hv45]; exact ((Chg.refl (fun k => k = v1.heap.size) v41).setCell (p := ⟨v1.heap.size, 0, none⟩) rfl _).setCell (p := ⟨v1.heap.size, 1, none⟩) rfl _
                have hbox11 : Box2E v1.heap.size (.int .i64 en) et v45 := by rw [← hv45]; exact Box2E.set2 cb0 cb1 zb
                have hbw11 : Below wr.heap.size wr v45 := Chg.belowB HBW44.out hcg HBW44.out.size (fun k h => by have h9 : k = v1.heap.size := h; omega)
                have hst : RdS w.heap.size (w.heap.size + 1 + 1 + 1) g (o + j) (.slice ad l.length cap) (.slice ta t1.length tc) t2 s v45 := hS42.step (B := wr.heap.size) (hcg.below HBW44.out.size (fun k h => by have h9 : k = v1.heap.size := h; omega)) HLT.out
                refine hK.out _ _ (by rw [hv45]; exact hst) (fun hS46 => ?_)
                clear hK K
                rw [hv45] at hS46 ⊢
                try simp only [qA, qB, qC, Act.put, qD, qE, qF]
                have HO_47 := Lib.hid (owns_stand HO_43.out hcg (fun k hk h => HAP11.out (by have h9 : k = v1.heap.size := h; rw [hk, h9])))
                have hbox10z := hbox10.stand hcg (by omega)
                have HBW48 := Lib.hid hbw11
                clear hcg zb cb0 cb1 fb0 fb1 hst
                refine wpAnyH_take (i := 15) (v := .bool ok) rfl (by kernel_rfl) (by kernel_rfl) (by kernel_rfl) (fun _ _ _ h => h) (Or.inl ⟨by rfl, fun z hz => ?_⟩) hS46 ?_
                · obtain ⟨z1, z2, z3, z4⟩ := hz
                  go_simp
                try simp only [qA, qB, qC, Act.put, qD, qE, qF]
                refine wpAnyH_done (by kernel_rfl) ?_ _
                go_wp2_with fail
                go_meet
                exact ⟨v27.heap.size, v1.heap.size, va, vc, rfl, rfl, rfl, hbox10z, hbox11, HO_47.out, HBW48.out, by omega, by omega⟩
            · skip
              go_simp
              have hb := (Below.refl v0.heap.size v0).alloc (Nat.le_refl _) (.cells #[.slice none 0 0, .string (S [])] 32)
              have zb51 : v0.heap.size < (v0.alloc (.cells #[.slice none 0 0, .string (S [])] 32)).heap.size := by simp
              refine hK.out _ _ (hS0.step (hb.mono HBW0.out.size) HLT.out) (fun hS50 => ?_)
              clear hK K
              have HBW52 := Lib.hid (HBW0.out.trans (hb.mono HBW0.out.size))
              have BX10_53 := Lib.hid (And.intro (TBx.new (.slice none 0 0) [] v0) HBW0.out.size)
              clear hb
              generalize v0.alloc (.cells #[.slice none 0 0, .string (S [])] 32) = v49 at *
              try simp only [qA, qB, qC, Act.put, qD, qE, qF]
              refine wpAnyH_ready (rs := [6, 12]) (by kernel_rfl) (by simp) ?_
              refine AllReadyH.cons rfl (fun K hK => ?_) (AllReadyH.cons rfl (fun K hK => ?_) AllReadyH.nil)
              · skip
                go_simp
                refine (spec_press _ _ l t1 t2 s _ (HU.out.below (HR.out.bel.trans (HBW52.out.mono HR.out.bel.size))) (ownK_read (own_kept HR.out.str HBW52.out (Nat.le_refl _)) (by show t1.length ≤ _; omega)) hm (by omega) (by omega)).mono ?_
                rintro e v54 ⟨nv, rfl, ho, hb⟩
                rw [HRR.out] at ho ⊢
                simp only at ho ⊢
                unfold editV
                obtain ⟨va, vc, rfl⟩ := ownK_form ho
                have HAP10 := Lib.hid (show (.slice va nx.length vc : Value).ownBlock ≠ some (v0.heap.size) from fun k => by have h1 := (World.ownsRow.lt ho _ k).1; have h2 := BX10_53.out.1.1; omega)
                refine hK.out _ _ (hS50.step (hb.mono HBW52.out.size) HLT.out) (fun hS55 => ?_)
                clear hK K
                have HBW56 := Lib.hid (HBW52.out.trans (hb.mono HBW52.out.size))
                have BX10_57 := Lib.hid (And.intro (BX10_53.out.1.below hb) BX10_53.out.2)
                have HO_58 := Lib.hid (own_base ho HBW52.out.size)
                clear ho hb
                try simp only []
                refine wpAnyH_take (i := 7) (v := .tuple #[.agg #[.slice va nx.length vc, .string (S scr)], .agg #[.int .i64 en, .string (S et)], .bool ok]) rfl (by kernel_rfl) (by kernel_rfl) (by kernel_rfl) (fun _ _ _ h => h) (Or.inl ⟨by rfl, fun z hz => ?_⟩) hS55 ?_
                · obtain ⟨z1, z2, z3, z4⟩ := hz
                  go_simp
                try simp only [qA, qB, qC, Act.put, qD, qE, qF]
                refine wpAnyH_take (i := 8) (v := .agg #[.slice va nx.length vc, .string (S scr)]) rfl (by kernel_rfl) (by kernel_rfl) (by kernel_rfl) (fun _ _ _ h => h) (Or.inl ⟨by rfl, fun z hz => ?_⟩) hS55 ?_
                · obtain ⟨z1, z2, z3, z4⟩ := hz
                  go_simp
                try simp only [qA, qB, qC, Act.put, qD, qE, qF]
                refine wpAnyH_take (i := 9) (v := .agg #[.int .i64 en, .string (S et)]) rfl (by kernel_rfl) (by kernel_rfl) (by kernel_rfl) (fun _ _ _ h => h) (Or.inl ⟨by rfl, fun z hz => ?_⟩) hS55 ?_
                · obtain ⟨z1, z2, z3, z4⟩ := hz
                  go_simp
                try simp only [qA, qB, qC, Act.put, qD, qE, qF]
                refine wpAnyH_take (i := 10) (v := .bool ok) rfl (by kernel_rfl) (by kernel_rfl) (by kernel_rfl) (fun _ _ _ h => h) (Or.inl ⟨by rfl, fun z hz => ?_⟩) hS55 ?_
                · obtain ⟨z1, z2, z3, z4⟩ := hz
                  go_simp
                try simp only [qA, qB, qC, Act.put, qD, qE, qF]
                refine wpAnyH_ready (rs := [12]) (by kernel_rfl) (by simp) ?_
                refine AllReadyH.cons rfl (fun K hK => ?_) AllReadyH.nil
                go_simp
                have hb := (Below.refl v54.heap.size v54).alloc (Nat.le_refl _) (.cells #[.int .i64 0, .string (S [])] 38)
                have zb61 : v54.heap.size < (v54.alloc (.cells #[.int .i64 0, .string (S [])] 38)).heap.size := by simp
                have zc62 := BX10_57.out.1.1
                have HAP11 := Lib.hid (show (.slice va nx.length vc : Value).ownBlock ≠ some (v54.heap.size) from fun k => by have h1 := (World.ownsRow.lt HO_58.out _ k).2; omega)
                refine hK.out _ _ (hS55.step (hb.mono HBW56.out.size) HLT.out) (fun hS60 => ?_)
                clear hK K
                have HBW63 := Lib.hid (HBW56.out.trans (hb.mono HBW56.out.size))
                have BX10_64 := Lib.hid (And.intro (BX10_57.out.1.below hb) BX10_57.out.2)
                have HO_65 := Lib.hid (own_kept HO_58.out hb (Nat.le_refl _))
                have BX11_66 := Lib.hid (And.intro (EBx.new v54) HBW56.out.size)
                clear hb
                generalize v54.alloc (.cells #[.int .i64 0, .string (S [])] 38) = v59 at *
                try simp only [qA, qB, qC, Act.put, qD, qE, qF]
                refine wpAnyH_ready (rs := [13]) (by kernel_rfl) (by simp) ?_
                refine AllReadyH.cons rfl (fun K hK => ?_) AllReadyH.nil
                have hw10 := BX10_64.out.2
                obtain ⟨zb, cb0, cb1, fb0, fb1⟩ := BX10_64.out.1
                go_simp
                obtain ⟨v67, hv67⟩ : ∃ y, ((v59.setCell ⟨v0.heap.size, 0, none⟩ (.slice va nx.length vc)).setCell ⟨v0.heap.size, 1, none⟩ (.string (S scr))) = y := ⟨_, rfl⟩
                have hcg : Chg (fun k => k = v0.heap.size) v59 v67 := by rw [← hv67]; exact ((Chg.refl (fun k => k = v0.heap.size) v59).setCell (p := ⟨v0.heap.size, 0, none⟩) rfl _).setCell (p := ⟨v0.heap.size, 1, none⟩) rfl _
                have hbox10 : Box2E v0.heap.size (.slice va nx.length vc) scr v67 := by rw [← hv67]; exact Box2E.set2 cb0 cb1 zb
                have hbw10 : Below wr.heap.size wr v67 := Chg.belowB HBW63.out hcg HBW63.out.size (fun k h => by have h9 : k = v0.heap.size := h; omega)
                have hst : RdS w.heap.size (w.heap.size + 1 + 1 + 1) g (o + j) (.slice ad l.length cap) (.slice ta t1.length tc) t2 s v67 := hS60.step (B := wr.heap.size) (hcg.below HBW63.out.size (fun k h => by have h9 : k = v0.heap.size := h; omega)) HLT.out
                refine hK.out _ _ (by rw [hv67]; exact hst) (fun hS68 => ?_)
                clear hK K
                rw [hv67] at hS68 ⊢
                try simp only [qA, qB, qC, Act.put, qD, qE, qF]
                have HO_69 := Lib.hid (owns_stand HO_65.out hcg (fun k hk h => HAP10.out (by have h9 : k = v0.heap.size := h; rw [hk, h9])))
                have BX11_z := Lib.hid (And.intro (BX11_66.out.1.stand hcg (by omega)) BX11_66.out.2)
                have HBW70 := Lib.hid hbw10
                clear hcg zb cb0 cb1 fb0 fb1 hst
                refine wpAnyH_ready (rs := [14]) (by kernel_rfl) (by simp) ?_
                refine AllReadyH.cons rfl (fun K hK => ?_) AllReadyH.nil
                have hw11 := BX11_z.out.2
                obtain ⟨zb, cb0, cb1, fb0, fb1⟩ := BX11_z.out.1
                go_simp
                obtain ⟨v71, hv71⟩ : ∃ y, ((v67.setCell ⟨v54.heap.size, 0, none⟩ (.int .i64 en)).setCell ⟨v54.heap.size, 1, none⟩ (.string (S et))) = y := ⟨_, rfl⟩
                have hcg : Chg (fun k => k = v54.heap.size) v67 v71 := by rw [← hv71]; exact ((Chg.refl (fun k => k = v54.heap.size) v67).setCell (p := ⟨v54.heap.size, 0, none⟩) rfl _).setCell (p := ⟨v54.heap.size, 1, none⟩) rfl _
                have hbox11 : Box2E v54.heap.size (.int .i64 en) et v71 := by rw [← hv71]; exact Box2E.set2 cb0 cb1 zb
                have hbw11 : Below wr.heap.size wr v71 := Chg.belowB HBW70.out hcg HBW70.out.size (fun k h => by have h9 : k = v54.heap.size := h; omega)
                have hst : RdS w.heap.size (w.heap.size + 1 + 1 + 1) g (o + j) (.slice ad l.length cap) (.slice ta t1.length tc) t2 s v71 := hS68.step (B := wr.heap.size) (hcg.below HBW70.out.size (fun k h => by have h9 : k = v54.heap.size := h; omega)) HLT.out
                refine hK.out _ _ (by rw [hv71]; exact hst) (fun hS72 => ?_)
                clear hK K
                rw [hv71] at hS72 ⊢
                try simp only [qA, qB, qC, Act.put, qD, qE, qF]
                have HO_73 := Lib.hid (owns_stand HO_69.out hcg (fun k hk h => HAP11.out (by have h9 : k = v54.heap.size := h; rw [hk, h9])))
                have hbox10z := hbox10.stand hcg (by omega)
                have HBW74 := Lib.hid hbw11
                clear hcg zb cb0 cb1 fb0 fb1 hst
                refine wpAnyH_take (i := 15) (v := .bool ok) rfl (by kernel_rfl) (by kernel_rfl) (by kernel_rfl) (fun _ _ _ h => h) (Or.inl ⟨by rfl, fun z hz => ?_⟩) hS72 ?_
                · obtain ⟨z1, z2, z3, z4⟩ := hz
                  go_simp
                try simp only [qA, qB, qC, Act.put, qD, qE, qF]
                refine wpAnyH_done (by kernel_rfl) ?_ _
                go_wp2_with fail
                go_meet
                exact ⟨v0.heap.size, v54.heap.size, va, vc, rfl, rfl, rfl, hbox10z, hbox11, HO_73.out, HBW74.out, by omega, by omega⟩
              · skip
                go_simp
                have hb := (Below.refl v49.heap.size v49).alloc (Nat.le_refl _) (.cells #[.int .i64 0, .string (S [])] 38)
                have zb77 : v49.heap.size < (v49.alloc (.cells #[.int .i64 0, .string (S [])] 38)).heap.size := by simp
                have zc78 := BX10_53.out.1.1
                refine hK.out _ _ (hS50.step (hb.mono HBW52.out.size) HLT.out) (fun hS76 => ?_)
                clear hK K
                have HBW79 := Lib.hid (HBW52.out.trans (hb.mono HBW52.out.size))
                have BX10_80 := Lib.hid (And.intro (BX10_53.out.1.below hb) BX10_53.out.2)
                have BX11_81 := Lib.hid (And.intro (EBx.new v49) HBW52.out.size)
                clear hb
                generalize v49.alloc (.cells #[.int .i64 0, .string (S [])] 38) = v75 at *
                try simp only [qA, qB, qC, Act.put, qD, qE, qF]
                refine wpAnyH_ready (rs := [6]) (by kernel_rfl) (by simp) ?_
                refine AllReadyH.cons rfl (fun K hK => ?_) AllReadyH.nil
                go_simp
                refine (spec_press _ _ l t1 t2 s _ (HU.out.below (HR.out.bel.trans (HBW79.out.mono HR.out.bel.size))) (ownK_read (own_kept HR.out.str HBW79.out (Nat.le_refl _)) (by show t1.length ≤ _; omega)) hm (by omega) (by omega)).mono ?_
                rintro e v82 ⟨nv, rfl, ho, hb⟩
                rw [HRR.out] at ho ⊢
                simp only at ho ⊢
                unfold editV
                obtain ⟨va, vc, rfl⟩ := ownK_form ho
                have HAP10 := Lib.hid (show (.slice va nx.length vc : Value).ownBlock ≠ some (v0.heap.size) from fun k => by have h1 := (World.ownsRow.lt ho _ k).1; have h2 := BX10_80.out.1.1; omega)
                have HAP11 := Lib.hid (show (.slice va nx.length vc : Value).ownBlock ≠ some (v49.heap.size) from fun k => by have h1 := (World.ownsRow.lt ho _ k).1; have h2 := BX11_81.out.1.1; omega)
                refine hK.out _ _ (hS76.step (hb.mono HBW79.out.size) HLT.out) (fun hS83 => ?_)
                clear hK K
                have HBW84 := Lib.hid (HBW79.out.trans (hb.mono HBW79.out.size))
                have BX10_85 := Lib.hid (And.intro (BX10_80.out.1.below hb) BX10_80.out.2)
                have BX11_86 := Lib.hid (And.intro (BX11_81.out.1.below hb) BX11_81.out.2)
                have HO_87 := Lib.hid (own_base ho HBW79.out.size)
                clear ho hb
                try simp only []
                refine wpAnyH_take (i := 7) (v := .tuple #[.agg #[.slice va nx.length vc, .string (S scr)], .agg #[.int .i64 en, .string (S et)], .bool ok]) rfl (by kernel_rfl) (by kernel_rfl) (by kernel_rfl) (fun _ _ _ h => h) (Or.inl ⟨by rfl, fun z hz => ?_⟩) hS83 ?_
                · obtain ⟨z1, z2, z3, z4⟩ := hz
                  go_simp
                try simp only [qA, qB, qC, Act.put, qD, qE, qF]
                refine wpAnyH_take (i := 8) (v := .agg #[.slice va nx.length vc, .string (S scr)]) rfl (by kernel_rfl) (by kernel_rfl) (by kernel_rfl) (fun _ _ _ h => h) (Or.inl ⟨by rfl, fun z hz => ?_⟩) hS83 ?_
                · obtain ⟨z1, z2, z3, z4⟩ := hz
                  go_simp
                try simp only [qA, qB, qC, Act.put, qD, qE, qF]
                refine wpAnyH_take (i := 9) (v := .agg #[.int .i64 en, .string (S et)]) rfl (by kernel_rfl) (by kernel_rfl) (by kernel_rfl) (fun _ _ _ h => h) (Or.inl ⟨by rfl, fun z hz => ?_⟩) hS83 ?_
                · obtain ⟨z1, z2, z3, z4⟩ := hz
                  go_simp
                try simp only [qA, qB, qC, Act.put, qD, qE, qF]
                refine wpAnyH_take (i := 10) (v := .bool ok) rfl (by kernel_rfl) (by kernel_rfl) (by kernel_rfl) (fun _ _ _ h => h) (Or.inl ⟨by rfl, fun z hz => ?_⟩) hS83 ?_
                · obtain ⟨z1, z2, z3, z4⟩ := hz
                  go_simp
                try simp only [qA, qB, qC, Act.put, qD, qE, qF]
                refine wpAnyH_ready (rs := [13]) (by kernel_rfl) (by simp) ?_
                refine AllReadyH.cons rfl (fun K hK => ?_) AllReadyH.nil
                have hw10 := BX10_85.out.2
                obtain ⟨zb, cb0, cb1, fb0, fb1⟩ := BX10_85.out.1
                go_simp
                obtain ⟨v88, hv88⟩ : ∃ y, ((v82.setCell ⟨v0.heap.size, 0, none⟩ (.slice va nx.length vc)).setCell ⟨v0.heap.size, 1, none⟩ (.string (S scr))) = y := ⟨_, rfl⟩
                have hcg : Chg (fun k => k = v0.heap.size) v82 v88 := by rw [← hv88]; exact ((Chg.refl (fun k => k = v0.heap.size) v82).setCell (p := ⟨v0.heap.size, 0, none⟩) rfl _).setCell (p := ⟨v0.heap.size, 1, none⟩) rfl _
                have hbox10 : Box2E v0.heap.size (.slice va nx.length vc) scr v88 := by rw [← hv88]; exact Box2E.set2 cb0 cb1 zb
                have hbw10 : Below wr.heap.size wr v88 := Chg.belowB HBW84.out hcg HBW84.out.size (fun k h => by have h9 : k = v0.heap.size := h; omega)
                have hst : RdS w.heap.size (w.heap.size + 1 + 1 + 1) g (o + j) (.slice ad l.length cap) (.slice ta t1.length tc) t2 s v88 := hS83.step (B := wr.heap.size) (hcg.below HBW84.out.size (fun k h => by have h9 : k = v0.heap.size := h; omega)) HLT.out
                refine hK.out _ _ (by rw [hv88]; exact hst) (fun hS89 => ?_)
                clear hK K
                rw [hv88] at hS89 ⊢
                try simp only [qA, qB, qC, Act.put, qD, qE, qF]
                have HO_90 := Lib.hid (owns_stand HO_87.out hcg (fun k hk h => HAP10.out (by have h9 : k = v0.heap.size := h; rw [hk, h9])))
                have BX11_z := Lib.hid (And.intro (BX11_86.out.1.stand hcg (by omega)) BX11_86.out.2)
                have HBW91 := Lib.hid hbw10
                clear hcg zb cb0 cb1 fb0 fb1 hst
                refine wpAnyH_ready (rs := [14]) (by kernel_rfl) (by simp) ?_
                refine AllReadyH.cons rfl (fun K hK => ?_) AllReadyH.nil
                have hw11 := BX11_z.out.2
                obtain ⟨zb, cb0, cb1, fb0, fb1⟩ := BX11_z.out.1
                go_simp
                obtain ⟨v92, hv92⟩ : ∃ y, ((v88.setCell ⟨v49.heap.size, 0, none⟩ (.int .i64 en)).setCell ⟨v49.heap.size, 1, none⟩ (.string (S et))) = y := ⟨_, rfl⟩
                have hcg : Chg (fun k => k = v49.heap.size) v88 v92 := by rw [← hv92]; exact ((Chg.refl (fun k => k = v49.heap.size) v88).setCell (p := ⟨v49.heap.size, 0, none⟩) rfl _).setCell (p := ⟨v49.heap.size, 1, none⟩) rfl _
                have hbox11 : Box2E v49.heap.size (.int .i64 en) et v92 := by rw [← hv92]; exact Box2E.set2 cb0 cb1 zb
                have hbw11 : Below wr.heap.size wr v92 := Chg.belowB HBW91.out hcg HBW91.out.size (fun k h => by have h9 : k = v49.heap.size := h; omega)
                have hst : RdS w.heap.size (w.heap.size + 1 + 1 + 1) g (o + j) (.slice ad l.length cap) (.slice ta t1.length tc) t2 s v92 := hS89.step (B := wr.heap.size) (hcg.below HBW91.out.size (fun k h => by have h9 : k = v49.heap.size := h; omega)) HLT.out
                refine hK.out _ _ (by rw [hv92]; exact hst) (fun hS93 => ?_)
                clear hK K
                rw [hv92] at hS93 ⊢
                try simp only [qA, qB, qC, Act.put, qD, qE, qF]
                have HO_94 := Lib.hid (owns_stand HO_90.out hcg (fun k hk h => HAP11.out (by have h9 : k = v49.heap.size := h; rw [hk, h9])))
                have hbox10z := hbox10.stand hcg (by omega)
                have HBW95 := Lib.hid hbw11
                clear hcg zb cb0 cb1 fb0 fb1 hst
                refine wpAnyH_take (i := 15) (v := .bool ok) rfl (by kernel_rfl) (by kernel_rfl) (by kernel_rfl) (fun _ _ _ h => h) (Or.inl ⟨by rfl, fun z hz => ?_⟩) hS93 ?_
                · obtain ⟨z1, z2, z3, z4⟩ := hz
                  go_simp
                try simp only [qA, qB, qC, Act.put, qD, qE, qF]
                refine wpAnyH_done (by kernel_rfl) ?_ _
                go_wp2_with fail
                go_meet
                exact ⟨v0.heap.size, v49.heap.size, va, vc, rfl, rfl, rfl, hbox10z, hbox11, HO_94.out, HBW95.out, by omega, by omega⟩
            · skip
              go_simp
              have hb := (Below.refl v0.heap.size v0).alloc (Nat.le_refl _) (.cells #[.int .i64 0, .string (S [])] 38)
              have zb98 : v0.heap.size < (v0.alloc (.cells #[.int .i64 0, .string (S [])] 38)).heap.size := by simp
              refine hK.out _ _ (hS0.step (hb.mono HBW0.out.size) HLT.out) (fun hS97 => ?_)
              clear hK K
              have HBW99 := Lib.hid (HBW0.out.trans (hb.mono HBW0.out.size))
              have BX11_100 := Lib.hid (And.intro (EBx.new v0) HBW0.out.size)
              clear hb
              generalize v0.alloc (.cells #[.int .i64 0, .string (S [])] 38) = v96 at *
              try simp only [qA, qB, qC, Act.put, qD, qE, qF]
              refine wpAnyH_ready (rs := [6, 11]) (by kernel_rfl) (by simp) ?_
              refine AllReadyH.cons rfl (fun K hK => ?_) (AllReadyH.cons rfl (fun K hK => ?_) AllReadyH.nil)
              · skip
                go_simp
                refine (spec_press _ _ l t1 t2 s _ (HU.out.below (HR.out.bel.trans (HBW99.out.mono HR.out.bel.size))) (ownK_read (own_kept HR.out.str HBW99.out (Nat.le_refl _)) (by show t1.length ≤ _; omega)) hm (by omega) (by omega)).mono ?_
                rintro e v101 ⟨nv, rfl, ho, hb⟩
                rw [HRR.out] at ho ⊢
                simp only at ho ⊢
                unfold editV
                obtain ⟨va, vc, rfl⟩ := ownK_form ho
                have HAP11 := Lib.hid (show (.slice va nx.length vc : Value).ownBlock ≠ some (v0.heap.size) from fun k => by have h1 := (World.ownsRow.lt ho _ k).1; have h2 := BX11_100.out.1.1; omega)
                refine hK.out _ _ (hS97.step (hb.mono HBW99.out.size) HLT.out) (fun hS102 => ?_)
                clear hK K
                have HBW103 := Lib.hid (HBW99.out.trans (hb.mono HBW99.out.size))
                have BX11_104 := Lib.hid (And.intro (BX11_100.out.1.below hb) BX11_100.out.2)
                have HO_105 := Lib.hid (own_base ho HBW99.out.size)
                clear ho hb
                try simp only []
                refine wpAnyH_take (i := 7) (v := .tuple #[.agg #[.slice va nx.length vc, .string (S scr)], .agg #[.int .i64 en, .string (S et)], .bool ok]) rfl (by kernel_rfl) (by kernel_rfl) (by kernel_rfl) (fun _ _ _ h => h) (Or.inl ⟨by rfl, fun z hz => ?_⟩) hS102 ?_
                · obtain ⟨z1, z2, z3, z4⟩ := hz
                  go_simp
                try simp only [qA, qB, qC, Act.put, qD, qE, qF]
                refine wpAnyH_take (i := 8) (v := .agg #[.slice va nx.length vc, .string (S scr)]) rfl (by kernel_rfl) (by kernel_rfl) (by kernel_rfl) (fun _ _ _ h => h) (Or.inl ⟨by rfl, fun z hz => ?_⟩) hS102 ?_
                · obtain ⟨z1, z2, z3, z4⟩ := hz
                  go_simp
                try simp only [qA, qB, qC, Act.put, qD, qE, qF]
                refine wpAnyH_take (i := 9) (v := .agg #[.int .i64 en, .string (S et)]) rfl (by kernel_rfl) (by kernel_rfl) (by kernel_rfl) (fun _ _ _ h => h) (Or.inl ⟨by rfl, fun z hz => ?_⟩) hS102 ?_
                · obtain ⟨z1, z2, z3, z4⟩ := hz
                  go_simp
                try simp only [qA, qB, qC, Act.put, qD, qE, qF]
                refine wpAnyH_take (i := 10) (v := .bool ok) rfl (by kernel_rfl) (by kernel_rfl) (by kernel_rfl) (fun _ _ _ h => h) (Or.inl ⟨by rfl, fun z hz => ?_⟩) hS102 ?_
                · obtain ⟨z1, z2, z3, z4⟩ := hz
                  go_simp
                try simp only [qA, qB, qC, Act.put, qD, qE, qF]
                refine wpAnyH_ready (rs := [11]) (by kernel_rfl) (by simp) ?_
                refine AllReadyH.cons rfl (fun K hK => ?_) AllReadyH.nil
                go_simp
                have hb := (Below.refl v101.heap.size v101).alloc (Nat.le_refl _) (.cells #[.slice none 0 0, .string (S [])] 32)
                have zb108 : v101.heap.size < (v101.alloc (.cells #[.slice none 0 0, .string (S [])] 32)).heap.size := by simp
                have zc109 := BX11_104.out.1.1
                have HAP10 := Lib.hid (show (.slice va nx.length vc : Value).ownBlock ≠ some (v101.heap.size) from fun k => by have h1 := (World.ownsRow.lt HO_105.out _ k).2; omega)
                refine hK.out _ _ (hS102.step (hb.mono HBW103.out.size) HLT.out) (fun hS107 => ?_)
                clear hK K
                have HBW110 := Lib.hid (HBW103.out.trans (hb.mono HBW103.out.size))
                have BX11_111 := Lib.hid (And.intro (BX11_104.out.1.below hb) BX11_104.out.2)
                have HO_112 := Lib.hid (own_kept HO_105.out hb (Nat.le_refl _))
                have BX10_113 := Lib.hid (And.intro (TBx.new (.slice none 0 0) [] v101) HBW103.out.size)
                clear hb
                generalize v101.alloc (.cells #[.slice none 0 0, .string (S [])] 32) = v106 at *
                try simp only [qA, qB, qC, Act.put, qD, qE, qF]
                refine wpAnyH_ready (rs := [13]) (by kernel_rfl) (by simp) ?_
                refine AllReadyH.cons rfl (fun K hK => ?_) AllReadyH.nil
                have hw10 := BX10_113.out.2
                obtain ⟨zb, cb0, cb1, fb0, fb1⟩ := BX10_113.out.1
                go_simp
                obtain ⟨v114, hv114⟩ : ∃ y, ((v106.setCell ⟨v101.heap.size, 0, none⟩ (.slice va nx.length vc)).setCell ⟨v101.heap.size, 1, none⟩ (.string (S scr))) = y := ⟨_, rfl⟩
                have hcg : Chg (fun k => k = v101.heap.size) v106 v114 := by rw [← hv114]; exact ((Chg.refl (fun k => k = v101.heap.size) v106).setCell (p := ⟨v101.heap.size, 0, none⟩) rfl _).setCell (p := ⟨v101.heap.size, 1, none⟩) rfl _
                have hbox10 : Box2E v101.heap.size (.slice va nx.length vc) scr v114 := by rw [← hv114]; exact Box2E.set2 cb0 cb1 zb
                have hbw10 : Below wr.heap.size wr v114 := Chg.belowB HBW110.out hcg HBW110.out.size (fun k h => by have h9 : k = v101.heap.size := h; omega)
                have hst : RdS w.heap.size (w.heap.size + 1 + 1 + 1) g (o + j) (.slice ad l.length cap) (.slice ta t1.length tc) t2 s v114 := hS107.step (B := wr.heap.size) (hcg.below HBW110.out.size (fun k h => by have h9 : k = v101.heap.size := h; omega)) HLT.out
                refine hK.out _ _ (by rw [hv114]; exact hst) (fun hS115 => ?_)
                clear hK K
                rw [hv114] at hS115 ⊢
                try simp only [qA, qB, qC, Act.put, qD, qE, qF]
                have HO_116 := Lib.hid (owns_stand HO_112.out hcg (fun k hk h => HAP10.out (by have h9 : k = v101.heap.size := h; rw [hk, h9])))
                have BX11_z := Lib.hid (And.intro (BX11_111.out.1.stand hcg (by omega)) BX11_111.out.2)
                have HBW117 := Lib.hid hbw10
                clear hcg zb cb0 cb1 fb0 fb1 hst
                refine wpAnyH_ready (rs := [14]) (by kernel_rfl) (by simp) ?_
                refine AllReadyH.cons rfl (fun K hK => ?_) AllReadyH.nil
                have hw11 := BX11_z.out.2
                obtain ⟨zb, cb0, cb1, fb0, fb1⟩ := BX11_z.out.1
                go_simp
                obtain ⟨v118, hv118⟩ : ∃ y, ((v114.setCell ⟨v0.heap.size, 0, none⟩ (.int .i64 en)).setCell ⟨v0.heap.size, 1, none⟩ (.string (S et))) = y := ⟨_, rfl⟩
                have hcg : Chg (fun k => k = v0.heap.size) v114 v118 := by rw [← hv118]; exact ((Chg.refl (fun k => k = v0.heap.size) v114).setCell (p := ⟨v0.heap.size, 0, none⟩) rfl _).setCell (p := ⟨v0.heap.size, 1, none⟩) rfl _
                have hbox11 : Box2E v0.heap.size (.int .i64 en) et v118 := by rw [← hv118]; exact Box2E.set2 cb0 cb1 zb
                have hbw11 : Below wr.heap.size wr v118 := Chg.belowB HBW117.out hcg HBW117.out.size (fun k h => by have h9 : k = v0.heap.size := h; omega)
                have hst : RdS w.heap.size (w.heap.size + 1 + 1 + 1) g (o + j) (.slice ad l.length cap) (.slice ta t1.length tc) t2 s v118 := hS115.step (B := wr.heap.size) (hcg.below HBW117.out.size (fun k h => by have h9 : k = v0.heap.size := h; omega)) HLT.out
                refine hK.out _ _ (by rw [hv118]; exact hst) (fun hS119 => ?_)
                clear hK K
                rw [hv118] at hS119 ⊢
                try simp only [qA, qB, qC, Act.put, qD, qE, qF]
                have HO_120 := Lib.hid (owns_stand HO_116.out hcg (fun k hk h => HAP11.out (by have h9 : k = v0.heap.size := h; rw [hk, h9])))
                have hbox10z := hbox10.stand hcg (by omega)
                have HBW121 := Lib.hid hbw11
                clear hcg zb cb0 cb1 fb0 fb1 hst
                refine wpAnyH_take (i := 15) (v := .bool ok) rfl (by kernel_rfl) (by kernel_rfl) (by kernel_rfl) (fun _ _ _ h => h) (Or.inl ⟨by rfl, fun z hz => ?_⟩) hS119 ?_
                · obtain ⟨z1, z2, z3, z4⟩ := hz
                  go_simp
                try simp only [qA, qB, qC, Act.put, qD, qE, qF]
                refine wpAnyH_done (by kernel_rfl) ?_ _
                go_wp2_with fail
                go_meet
                exact ⟨v101.heap.size, v0.heap.size, va, vc, rfl, rfl, rfl, hbox10z, hbox11, HO_120.out, HBW121.out, by omega, by omega⟩
              · skip
                go_simp
                have hb := (Below.refl v96.heap.size v96).alloc (Nat.le_refl _) (.cells #[.slice none 0 0, .string (S [])] 32)
                have zb124 : v96.heap.size < (v96.alloc (.cells #[.slice none 0 0, .string (S [])] 32)).heap.size := by simp
                have zc125 := BX11_100.out.1.1
                refine hK.out _ _ (hS97.step (hb.mono HBW99.out.size) HLT.out) (fun hS123 => ?_)
                clear hK K
                have HBW126 := Lib.hid (HBW99.out.trans (hb.mono HBW99.out.size))
                have BX11_127 := Lib.hid (And.intro (BX11_100.out.1.below hb) BX11_100.out.2)
                have BX10_128 := Lib.hid (And.intro (TBx.new (.slice none 0 0) [] v96) HBW99.out.size)
                clear hb
                generalize v96.alloc (.cells #[.slice none 0 0, .string (S [])] 32) = v122 at *
                try simp only [qA, qB, qC, Act.put, qD, qE, qF]
                refine wpAnyH_ready (rs := [6]) (by kernel_rfl) (by simp) ?_
                refine AllReadyH.cons rfl (fun K hK => ?_) AllReadyH.nil
                go_simp
                refine (spec_press _ _ l t1 t2 s _ (HU.out.below (HR.out.bel.trans (HBW126.out.mono HR.out.bel.size))) (ownK_read (own_kept HR.out.str HBW126.out (Nat.le_refl _)) (by show t1.length ≤ _; omega)) hm (by omega) (by omega)).mono ?_
                rintro e v129 ⟨nv, rfl, ho, hb⟩
                rw [HRR.out] at ho ⊢
                simp only at ho ⊢
                unfold editV
                obtain ⟨va, vc, rfl⟩ := ownK_form ho
                have HAP11 := Lib.hid (show (.slice va nx.length vc : Value).ownBlock ≠ some (v0.heap.size) from fun k => by have h1 := (World.ownsRow.lt ho _ k).1; have h2 := BX11_127.out.1.1; omega)
                have HAP10 := Lib.hid (show (.slice va nx.length vc : Value).ownBlock ≠ some (v96.heap.size) from fun k => by have h1 := (World.ownsRow.lt ho _ k).1; have h2 := BX10_128.out.1.1; omega)
                refine hK.out _ _ (hS123.step (hb.mono HBW126.out.size) HLT.out) (fun hS130 => ?_)
                clear hK K
                have HBW131 := Lib.hid (HBW126.out.trans (hb.mono HBW126.out.size))
                have BX11_132 := Lib.hid (And.intro (BX11_127.out.1.below hb) BX11_127.out.2)
                have BX10_133 := Lib.hid (And.intro (BX10_128.out.1.below hb) BX10_128.out.2)
                have HO_134 := Lib.hid (own_base ho HBW126.out.size)
                clear ho hb
                try simp only []
                refine wpAnyH_take (i := 7) (v := .tuple #[.agg #[.slice va nx.length vc, .string (S scr)], .agg #[.int .i64 en, .string (S et)], .bool ok]) rfl (by kernel_rfl) (by kernel_rfl) (by kernel_rfl) (fun _ _ _ h => h) (Or.inl ⟨by rfl, fun z hz => ?_⟩) hS130 ?_
                · obtain ⟨z1, z2, z3, z4⟩ := hz
                  go_simp
                try simp only [qA, qB, qC, Act.put, qD, qE, qF]
                refine wpAnyH_take (i := 8) (v := .agg #[.slice va nx.length vc, .string (S scr)]) rfl (by kernel_rfl) (by kernel_rfl) (by kernel_rfl) (fun _ _ _ h => h) (Or.inl ⟨by rfl, fun z hz => ?_⟩) hS130 ?_
                · obtain ⟨z1, z2, z3, z4⟩ := hz
                  go_simp
                try simp only [qA, qB, qC, Act.put, qD, qE, qF]
                refine wpAnyH_take (i := 9) (v := .agg #[.int .i64 en, .string (S et)]) rfl (by kernel_rfl) (by kernel_rfl) (by kernel_rfl) (fun _ _ _ h => h) (Or.inl ⟨by rfl, fun z hz => ?_⟩) hS130 ?_
                · obtain ⟨z1, z2, z3, z4⟩ := hz
                  go_simp
                try simp only [qA, qB, qC, Act.put, qD, qE, qF]
                refine wpAnyH_take (i := 10) (v := .bool ok) rfl (by kernel_rfl) (by kernel_rfl) (by kernel_rfl) (fun _ _ _ h => h) (Or.inl ⟨by rfl, fun z hz => ?_⟩) hS130 ?_
                · obtain ⟨z1, z2, z3, z4⟩ := hz
                  go_simp
                try simp only [qA, qB, qC, Act.put, qD, qE, qF]
                refine wpAnyH_ready (rs := [13]) (by kernel_rfl) (by simp) ?_
                refine AllReadyH.cons rfl (fun K hK => ?_) AllReadyH.nil
                have hw10 := BX10_133.out.2
                obtain ⟨zb, cb0, cb1, fb0, fb1⟩ := BX10_133.out.1
                go_simp
                obtain ⟨v135, hv135⟩ : ∃ y, ((v129.setCell ⟨v96.heap.size, 0, none⟩ (.slice va nx.length vc)).setCell ⟨v96.heap.size, 1, none⟩ (.string (S scr))) = y := ⟨_, rfl⟩
                have hcg : Chg (fun k => k = v96.heap.size) v129 v135 := by rw [← hv135]; exact ((Chg.refl (fun k => k = v96.heap.size) v129).setCell (p := ⟨v96.heap.size, 0, none⟩) rfl _).setCell (p := ⟨v96.heap.size, 1, none⟩) rfl _
                have hbox10 : Box2E v96.heap.size (.slice va nx.length vc) scr v135 := by rw [← hv135]; exact Box2E.set2 cb0 cb1 zb
                have hbw10 : Below wr.heap.size wr v135 := Chg.belowB HBW131.out hcg HBW131.out.size (fun k h => by have h9 : k = v96.heap.size := h; omega)
                have hst : RdS w.heap.size (w.heap.size + 1 + 1 + 1) g (o + j) (.slice ad l.length cap) (.slice ta t1.length tc) t2 s v135 := hS130.step (B := wr.heap.size) (hcg.below HBW131.out.size (fun k h => by have h9 : k = v96.heap.size := h; omega)) HLT.out
                refine hK.out _ _ (by rw [hv135]; exact hst) (fun hS136 => ?_)
                clear hK K
                rw [hv135] at hS136 ⊢
                try simp only [qA, qB, qC, Act.put, qD, qE, qF]
                have HO_137 := Lib.hid (owns_stand HO_134.out hcg (fun k hk h => HAP10.out (by have h9 : k = v96.heap.size := h; rw [hk, h9])))
                have BX11_z := Lib.hid (And.intro (BX11_132.out.1.stand hcg (by omega)) BX11_132.out.2)
                have HBW138 := Lib.hid hbw10
                clear hcg zb cb0 cb1 fb0 fb1 hst
                refine wpAnyH_ready (rs := [14]) (by kernel_rfl) (by simp) ?_
                refine AllReadyH.cons rfl (fun K hK => ?_) AllReadyH.nil
                have hw11 := BX11_z.out.2
                obtain ⟨zb, cb0, cb1, fb0, fb1⟩ := BX11_z.out.1
                go_simp
                obtain ⟨v139, hv139⟩ : ∃ y, ((v135.setCell ⟨v0.heap.size, 0, none⟩ (.int .i64 en)).setCell ⟨v0.heap.size, 1, none⟩ (.string (S et))) = y := ⟨_, rfl⟩
                have hcg : Chg (fun k => k = v0.heap.size) v135 v139 := by rw [← hv139]; exact ((Chg.refl (fun k => k = v0.heap.size) v135).setCell (p := ⟨v0.heap.size, 0, none⟩) rfl _).setCell (p := ⟨v0.heap.size, 1, none⟩) rfl _
                have hbox11 : Box2E v0.heap.size (.int .i64 en) et v139 := by rw [← hv139]; exact Box2E.set2 cb0 cb1 zb
                have hbw11 : Below wr.heap.size wr v139 := Chg.belowB HBW138.out hcg HBW138.out.size (fun k h => by have h9 : k = v0.heap.size := h; omega)
                have hst : RdS w.heap.size (w.heap.size + 1 + 1 + 1) g (o + j) (.slice ad l.length cap) (.slice ta t1.length tc) t2 s v139 := hS136.step (B := wr.heap.size) (hcg.below HBW138.out.size (fun k h => by have h9 : k = v0.heap.size := h; omega)) HLT.out
                refine hK.out _ _ (by rw [hv139]; exact hst) (fun hS140 => ?_)
                clear hK K
                rw [hv139] at hS140 ⊢
                try simp only [qA, qB, qC, Act.put, qD, qE, qF]
                have HO_141 := Lib.hid (owns_stand HO_137.out hcg (fun k hk h => HAP11.out (by have h9 : k = v0.heap.size := h; rw [hk, h9])))
                have hbox10z := hbox10.stand hcg (by omega)
                have HBW142 := Lib.hid hbw11
                clear hcg zb cb0 cb1 fb0 fb1 hst
                refine wpAnyH_take (i := 15) (v := .bool ok) rfl (by kernel_rfl) (by kernel_rfl) (by kernel_rfl) (fun _ _ _ h => h) (Or.inl ⟨by rfl, fun z hz => ?_⟩) hS140 ?_
                · obtain ⟨z1, z2, z3, z4⟩ := hz
                  go_simp
                try simp only [qA, qB, qC, Act.put, qD, qE, qF]
                refine wpAnyH_done (by kernel_rfl) ?_ _
                go_wp2_with fail
                go_meet
                exact ⟨v96.heap.size, v0.heap.size, va, vc, rfl, rfl, rfl, hbox10z, hbox11, HO_141.out, HBW142.out, by omega, by omega⟩
          case rest =>
            obtain ⟨b10, b11, va, vc, rfl, rfl, rfl, hx10, hx11, ho, hb, hw10, hw11⟩ := hcut
            have HR3 := Lib.hid (HR.out.below hb)
            have HX10 := Lib.hid hx10; have HX11 := Lib.hid hx11; have HO := Lib.hid ho
            have hz3 := hb.size
            have HUB := Lib.hid (show ∀ k, (Value.slice ua es.length uc).ownBlock = some k → k ≠ b10 ∧ k ≠ b11 from fun k hk => by have := (World.ownsRow.lt HR.out.row k hk).2; omega)
            have HNB := Lib.hid (show (Value.slice va nx.length vc).ownBlock ≠ some (w.heap.size + 1 + 1 + 1) from fun e => by have := (World.ownsRow.lt HO.out _ e).1; omega)
            generalize hww : wc = w3 at *
            clear hww hb ho hx10 hx11 HR HRD hs1 hs2
            cases ok
            · have HP := Lib.hid (P.replay_bad (j := j + 1) (by rw [HN1.out, HRR.out]; rfl) (by omega))
              obtain ⟨_, ⟨kz, k3, k4, k7, k8⟩⟩ := HR3.out.rbx
              have hzz : w.heap.size + 1 < w3.heap.size := kz
              have r0 : ((((w3.setCell ⟨w.heap.size + 1, 0, none⟩ (.slice none 0 0)).setCell ⟨w.heap.size + 1, 1, none⟩ (.string (S [])))).alloc (.cells #[] 38)).cell? ⟨w.heap.size + 1, 0, none⟩ = some (.slice none 0 0) := by go_simp
              have r1 : ((((w3.setCell ⟨w.heap.size + 1, 0, none⟩ (.slice none 0 0)).setCell ⟨w.heap.size + 1, 1, none⟩ (.string (S [])))).alloc (.cells #[] 38)).cell? ⟨w.heap.size + 1, 1, none⟩ = some (.string (S [])) := by go_simp
              have HOW := Lib.hid (show OwnE w.heap.size ((((w3.setCell ⟨w.heap.size + 1, 0, none⟩ (.slice none 0 0)).setCell ⟨w.heap.size + 1, 1, none⟩ (.string (S [])))).alloc (.cells #[] 38)) (.slice (some ⟨w3.heap.size, 0, none⟩) 0 0) [] by
                have h1 := ownE_nil ((w3.setCell ⟨w.heap.size + 1, 0, none⟩ (.slice none 0 0)).setCell ⟨w.heap.size + 1, 1, none⟩ (.string (S [])))
                have h2 := own_base h1 (show w.heap.size ≤ (((w3.setCell ⟨w.heap.size + 1, 0, none⟩ (.slice none 0 0)).setCell ⟨w.heap.size + 1, 1, none⟩ (.string (S [])))).heap.size by simp [World.setCell]; omega)
                exact (by simpa [World.setCell] using h2 : World.ownsRow ((((w3.setCell ⟨w.heap.size + 1, 0, none⟩ (.slice none 0 0)).setCell ⟨w.heap.size + 1, 1, none⟩ (.string (S [])))).alloc (.cells #[] 38)) w.heap.size 38 2 (.slice (some ⟨w3.heap.size, 0, none⟩) 0 0) 0 (atomVals [])))
              go_wp2
              refine bodyPost_ret (v := .tuple #[.slice (some ⟨w3.heap.size, 0, none⟩) 0 0, transV (.slice none 0 0) [], .bool false]) (by simp [transV, r0, r1, results, Tryz.results13, go_sem]) rfl ⟨.slice (some ⟨w3.heap.size, 0, none⟩) 0 0, .slice none 0 0, by rw [HP.out]; rfl, by rw [HP.out]; exact HOW.out, by rw [HP.out]; exact World.ownsRow_nil _ _ _ _, ?_⟩
              exact ((HR3.out.bel.setCell (by simp <;> omega) _).setCell (by simp <;> omega) _).alloc (by simp [World.setCell]; omega) _
            · obtain ⟨k10, k11, _⟩ := HX10.out
              obtain ⟨k12, k13, _⟩ := HX11.out
              have HRA := Lib.hid (HR3.out.below ((Below.refl w3.heap.size w3).alloc (Nat.le_refl _) (.cells #[.int .i64 en, .string (S et)] 38))).row
              have hza : (w.heap.size + 1 + 1) ≤ (w3.alloc (.cells #[.int .i64 en, .string (S et)] 38)).heap.size := by have := HR3.out.siz; simp; omega
              have hna0 : (w3.alloc (.cells #[.int .i64 en, .string (S et)] 38)).cell? ⟨w3.heap.size, 0, none⟩ = some (.int .i64 en) := by go_simp
              have hna1 : (w3.alloc (.cells #[.int .i64 en, .string (S et)] 38)).cell? ⟨w3.heap.size, 1, none⟩ = some (.string (S et)) := by go_simp
              go_wp2_with (at_builtin; refine wpList_append_lies _ rfl _ _ 30 rfl (w.heap.size + 1 + 1) 38 i0 (.agg #[.int .i64 0, .string ⟨#[]⟩]) 2 24 Tryz.underlying30 hi hy0 hy1 hy2 rfl (by decide) (.slice ua es.length uc) es.length (atomVals es) rfl HRA.out ⟨w3.heap.size, 0, none⟩ 1 1 [.int .i64 en, .string (S et)] rfl rfl ?_ ?_ (by decide) (by have := HSM.out.1; unfold maxLen; omega) (by have := HSM.out.1; omega) hza _ rfl ?_)
              · exact ⟨rfl, rfl⟩
              intro g3 cap3 z hown hgr hat hlt3
              have HPU := Lib.hid (HR3.out.push (scr := scr) (x := (en, et)) (by omega) (by omega) HO.out HNB.out (by omega) hown hgr (hat.imp id fun h => h.trans (by simp)))
              have hcz := chg_grown hgr
              have hba := (Below.refl w3.heap.size w3).alloc (Nat.le_refl _) (.cells #[.int .i64 en, .string (S et)] 38)
              have hub := HUB.out
              obtain ⟨y1, y2, _⟩ := (HX10.out.below hba).stand hcz (fun e => (hub _ e).1 rfl)
              obtain ⟨kz, k5, k6, k7, k8⟩ := (HR3.out.below hba).box.stand hcz (fun e => HR3.out.n1 e)
              clear hown hgr hat hcz hba k10 k11 k12 k13 hna0 hna1 HRA hza hub
              go_wp2
              go_roundw
              case rel => exact ⟨j + 1, es ++ [(en, et)], (nx, scr), .slice va nx.length vc, by omega, by go_num, by rw [HN1.out, HRR.out]; rfl, HPU.out⟩
              case measure => simp [intOf]; omega
        · have hjl : j = st.length := by omega
          subst hjl
          have HP := Lib.hid (P.replay_all HD.out HL.out HN.out)
          have HR4 := Lib.hid (HR.out.below (Below.refl _ _).drew)
          have hu1 : (.slice ua es.length uc : Value).ownBlock ≠ some (w.heap.size + 1) := fun e => by have := (World.ownsRow.lt HR.out.row _ e).1; omega
          have hu2 : (.slice ta t.1.length tc : Value).ownBlock ≠ some (w.heap.size + 1) := fun e => by have := (World.ownsRow.lt HR.out.str _ e).1; omega
          have HU1 := Lib.hid hu1; have HU2 := Lib.hid hu2
          clear hu1 hu2
          clear HN HR
          go_upto_region 13 with fail
          refine wp_region_held_drew (S := TBx (w.heap.size + 1 + 1 + 1) (.slice ta t.1.length tc) t.2) (by kernel_rfl) HR4.out.box (fun hS0 => ?_)
          generalize wr.drew = v0 at *
          refine wpAnyH_take (i := 0) (v := .slice ua es.length uc) rfl (by kernel_rfl) (by kernel_rfl) (by kernel_rfl) (fun _ _ _ h => h) (Or.inl ⟨by rfl, fun z hz => ?_⟩) hS0 ?_
          · obtain ⟨z1, z2, z3, z4, z5⟩ := hz
            go_simp
          try simp only [qA, qB, Act.put, qD, qE, qF]
          refine wpAnyH_take (i := 1) (v := .agg #[.slice ta t.1.length tc, .string (S t.2)]) rfl (by kernel_rfl) (by kernel_rfl) (by kernel_rfl) (fun _ _ _ h => h) (Or.inl ⟨by rfl, fun z hz => ?_⟩) hS0 ?_
          · obtain ⟨z1, z2, z3, z4, z5⟩ := hz
            go_simp
          try simp only [qA, qB, qC, Act.put, qD, qE, qF]
          refine wpAnyH_take (i := 2) (v := .slice ua es.length uc) rfl (by kernel_rfl) (by kernel_rfl) (by kernel_rfl) (fun _ _ _ h => h) (Or.inl ⟨by rfl, fun z hz => ?_⟩) hS0 ?_
          · obtain ⟨z1, z2, z3, z4, z5⟩ := hz
            go_simp
          try simp only [qA, qB, qC, Act.put, qD, qE, qF]
          obtain ⟨_, ⟨kz, k3, k4, k7, k8⟩⟩ := HR4.out.rbx
          have hset : Chg (fun k => k = w.heap.size + 1) v0 ((v0.setCell ⟨w.heap.size + 1, 0, none⟩ (.slice ta t.1.length tc)).setCell ⟨w.heap.size + 1, 1, none⟩ (.string (S t.2))) := ((Chg.refl (fun k => k = w.heap.size + 1) v0).setCell (p := ⟨w.heap.size + 1, 0, none⟩) rfl _).setCell (p := ⟨w.heap.size + 1, 1, none⟩) rfl _
          have r0 : ((v0.setCell ⟨w.heap.size + 1, 0, none⟩ (.slice ta t.1.length tc)).setCell ⟨w.heap.size + 1, 1, none⟩ (.string (S t.2))).cell? ⟨w.heap.size + 1, 0, none⟩ = some (.slice ta t.1.length tc) := by go_simp
          have r1 : ((v0.setCell ⟨w.heap.size + 1, 0, none⟩ (.slice ta t.1.length tc)).setCell ⟨w.heap.size + 1, 1, none⟩ (.string (S t.2))).cell? ⟨w.heap.size + 1, 1, none⟩ = some (.string (S t.2)) := by go_simp
          refine wpAnyH_ready (rs := [3]) (by kernel_rfl) (by simp) ?_
          refine AllReadyH.cons rfl (fun K hK => ?_) AllReadyH.nil
          go_simp
          refine hK.out _ _ (hS0.stand hset (by omega)) (fun hS1 => ?_)
          clear hK K
          try simp only [qA, qB, qC, Act.put, qD, qE, qF]
          refine wpAnyH_take (i := 4) (v := .bool true) rfl (by kernel_rfl) (by kernel_rfl) (by kernel_rfl) (fun _ _ _ h => h) (Or.inl ⟨by rfl, fun z hz => ?_⟩) hS1 ?_
          · obtain ⟨z1, z2, z3, z4, z5⟩ := hz
            go_simp
          try simp only [qA, qB, qC, Act.put, qD, qE, qF]
          refine wpAnyH_done (by kernel_rfl) ?_ _
          have HROW := Lib.hid (own_base (owns_stand HR4.out.row hset (fun k hk e => HU1.out (by rw [hk, e]))) (show w.heap.size ≤ (w.heap.size + 1 + 1) by omega))
          have HSTR := Lib.hid (own_base (owns_stand HR4.out.str hset (fun k hk e => HU2.out (by rw [hk, e]))) (show w.heap.size ≤ (w.heap.size + 1 + 1) by omega))
          have HBL := Lib.hid (Chg.belowB HR4.out.bel hset HR4.out.bel.size (fun k hk => by have h9 : k = w.heap.size + 1 := hk; omega))
          clear hS0 hS1 hset
          go_wp2
          refine bodyPost_ret (v := .tuple #[.slice ua es.length uc, transV (.slice ta t.1.length tc) t.2, .bool true]) (by simp [transV, r0, r1, results, Tryz.results13, go_sem]) rfl ⟨.slice ua es.length uc, .slice ta t.1.length tc, by rw [HP.out], ?_, ?_, HBL.out⟩
          · rw [HP.out]; exact HROW.out
          · rw [HP.out]; exact HSTR.out
end Go.Proofs.YtmlklnimoknojaaGreatDoor
