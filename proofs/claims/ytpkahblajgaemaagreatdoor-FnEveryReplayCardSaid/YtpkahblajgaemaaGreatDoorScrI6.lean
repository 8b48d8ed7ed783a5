/- Walks: an entry redefined (program). -/
import Derived.Test.YtpkahblajgaemaaGreatDoorScrI8
import Derived.Test.YtpkahblajgaemaaGreatDoorTool3
import Derived.Test.YtpkahblajgaemaaGreatDoorCurE3
import Derived.Test.YtpkahblajgaemaaGreatDoorPlainScr2
import Derived.Test.YtpkahblajgaemaaGreatDoorScrS7
import Derived.Test.YtpkahblajgaemaaGreatDoorBig
import Derived.Test.YtpkahblajgaemaaGreatDoorLawD
import Derived.Test.YtpkahblajgaemaaGreatDoorScrI5
import Derived.Test.YtpkahblajgaemaaGreatDoorValD
namespace Go.Proofs.YtpkahblajgaemaaGreatDoor
namespace P
theorem trans_dic {d : Dic} {t : Tr} (h : trans d t = true) : dic d = true := by
  obtain ⟨h1, _⟩ := trans_parts h
  unfold scr at h1
  cases q : (dic d && slist t.1)
  · rw [q] at h1; exact absurd h1 (by simp)
  · simp only [Bool.and_eq_true] at q; exact q.1
theorem dic_texts {d : Dic} (h : dic d = true) : ∀ e ∈ d, e.2.length ≤ 60 := fun e he => by
  have h1 := (dic_parts h).2.1 e he
  unfold entry at h1
  simp only [Bool.and_eq_true] at h1
  exact trans_len60 h1.2
end P
open Go Go.RowKit
set_option maxHeartbeats 4000000
set_option maxRecDepth 100000
end Go.Proofs.YtpkahblajgaemaaGreatDoor

namespace Go.Proofs.YtpkahblajgaemaaGreatDoor
open Go Go.RowKit
set_option maxHeartbeats 4000000
set_option maxRecDepth 100000
theorem entA_small {w : World} {u : Value} {l : P.Dic} (h : EntA w u l) (hd : P.dic l = true) : EntR w u l ∧ Small l := by
  have hs := small_dic hd fun e he => Nat.le_trans (P.dic_texts hd e he) (by decide)
  exact ⟨h.read hs.len hs.outs, hs⟩
theorem impl_replayA (dv sv : Value) (l : P.Dic) (st : List Int) (w : World) (hu : EntA w dv l) (hs : IntR w sv st) (ht : ∀ e ∈ l, e.2.length ≤ 9223372036854775807) (hE : Env w) :
    Calls Tryz.prog 14 #[.agg #[dv], sv] w (ReplayPost (P.replay l st) w) := by
  cases hd : P.dic l
  · have HP := Lib.hid (P.replay_no (st := st) (show (P.dic l && decide (st.length ≤ 120)) = false by rw [hd]; rfl))
    obtain ⟨W0, hW0⟩ : ∃ v, ((w.alloc (.cells #[dv] 26)).alloc (.cells #[.slice none 0 0, .string (S [])] 32)) = v := ⟨_, rfl⟩
    have hb0 : Below w.heap.size w W0 := by rw [← hW0]; exact ((Below.refl w.heap.size w).alloc (Nat.le_refl _) _).alloc (by simp) _
    have hx0 : RpBx w.heap.size dv W0 := by
      subst hW0
      exact ⟨⟨by simp <;> omega, by go_simp⟩, ⟨by simp, by go_simp, by go_simp, by go_simp, by go_simp⟩⟩
    have HU := Lib.hid (show Big.EntR W0 dv l from Big.EntR.below (show Big.EntR w dv l from hu) (hb0.mono (Nat.le_refl _)))
    have HB0 := Lib.hid hb0; have HE := Lib.hid (hE.below hb0 hE.size); have HX := Lib.hid hx0
    have HD := Lib.hid hd
    clear hb0 hd
    obtain ⟨ad, cap, rfl, _, _⟩ := hu
    obtain ⟨sd, sc, rfl, hsl, _⟩ := hs
    go_enter Tryz.func14, Tryz.ntmps14
    go_upto_region 1 with (fail)
    try rw [hW0]
    clear hW0
    obtain ⟨⟨_, k0⟩, _⟩ := hx0
    go_wp2_with fail
    refine (Big.isValidDictionary _ l _ HU.out ht HE.out).mono ?_
    rintro e w1 ⟨rfl, hb⟩
    have HB1 := Lib.hid (HB0.out.trans (hb.mono HB0.out.size)); have HX1 := Lib.hid (HX.out.below hb)
    clear hb k0 HB0 HX
    obtain ⟨_, ⟨_, k3, k4, k7, k8⟩⟩ := HX1.out
    rw [HD.out]
    go_wp2
    refine bodyPost_ret (v := .tuple #[.slice none 0 0, transV (.slice none 0 0) [], .bool false]) (by simp [transV, k3, k4, results, Tryz.results14, go_sem]) rfl ⟨.slice none 0 0, .slice none 0 0, by rw [HP.out]; rfl, by rw [HP.out]; exact World.ownsRow_nil _ _ _ _, by rw [HP.out]; exact World.ownsRow_nil _ _ _ _, ?_⟩
    exact (HB1.out.setCell (by simp <;> omega) _).setCell (by simp <;> omega) _
  · obtain ⟨h1, h2⟩ := entA_small hu hd
    exact impl_replay dv sv l st w h1 hs h2 hE
theorem spec_replayA (dv sv : Value) (l : P.Dic) (st : List Int) (w : World) (hu : EntA w dv l) (hs : IntR w sv st) (ht : ∀ e ∈ l, e.2.length ≤ 9223372036854775807) :
    Calls Tryz.prog 15 #[.agg #[dv], sv] w (ReplayPost (P.replay l st) w) := by
  cases hd : P.dic l
  · have HP := Lib.hid (P.replay_no (st := st) (show (P.dic l && decide (st.length ≤ 120)) = false by rw [hd]; rfl))
    have HD := Lib.hid hd
    have HU := Lib.hid (show Big.EntR w dv l from hu)
    clear hd
    obtain ⟨ad, cap, rfl, _, _⟩ := hu
    obtain ⟨sd, sc, rfl, hsl, _⟩ := hs
    have HS0 := Lib.hid (show RpSt w (w.heap.size + 1 + 1) (w.heap.size + 1 + 1 + 1) (.slice ad l.length cap) (.slice (some ⟨w.heap.size + 1 + 1, 0, none⟩) 0 0) (.slice none 0 0) [] P.tr0 ((((w.alloc (.cells #[.slice ad l.length cap] 26)).alloc (.cells #[.slice none 0 0, .string (S [])] 32)).alloc (.cells #[] 38)).alloc (.cells #[.slice none 0 0, .string (S [])] 32)) by
      have h0 : Below w.heap.size w ((((w.alloc (.cells #[.slice ad l.length cap] 26)).alloc (.cells #[.slice none 0 0, .string (S [])] 32)).alloc (.cells #[] 38)).alloc (.cells #[.slice none 0 0, .string (S [])] 32)) := ((((Below.refl w.heap.size w).alloc (Nat.le_refl _) _).alloc (by simp) _).alloc (by simp; omega) _).alloc (by simp; omega) _
      refine ⟨?_, World.ownsRow_nil _ _ _ _, by simp [Value.ownBlock], by simp [Value.ownBlock], ⟨by simp, by go_simp, by go_simp; rfl, by go_simp, by go_simp⟩, h0, ⟨⟨by simp <;> omega, by go_simp⟩, ⟨by simp <;> omega, by go_simp, by go_simp, by go_simp, by go_simp⟩⟩, by simp <;> omega⟩
      have h1 := (ownE_nil ((w.alloc (.cells #[.slice ad l.length cap] 26)).alloc (.cells #[.slice none 0 0, .string (S [])] 32))).alloc (.cells #[.slice none 0 0, .string (S [])] 32)
      exact (by simpa using h1 : World.ownsRow ((((w.alloc (.cells #[.slice ad l.length cap] 26)).alloc (.cells #[.slice none 0 0, .string (S [])] 32)).alloc (.cells #[] 38)).alloc (.cells #[.slice none 0 0, .string (S [])] 32)) (w.heap.size + 1 + 1) 38 2 (.slice (some ⟨w.heap.size + 1 + 1, 0, none⟩) 0 0) 0 (atomVals [])))
    go_enter Tryz.func15, Tryz.ntmps15
    go_upto_region 3 with (fail)
    generalize ((((w.alloc (.cells #[.slice ad l.length cap] 26)).alloc (.cells #[.slice none 0 0, .string (S [])] 32)).alloc (.cells #[] 38)).alloc (.cells #[.slice none 0 0, .string (S [])] 32)) = W0 at *
    obtain ⟨⟨_, k0⟩, _⟩ := HS0.out.rbx
    go_wp2_with fail
    refine (Big.l6Good _ l _ (Big.EntR.below HU.out HS0.out.bel) ht).mono ?_
    rintro e w1 ⟨rfl, hb⟩
    have HS1 := Lib.hid (HS0.out.below hb)
    have HDR1 := Lib.hid (HS1.out.below (Below.refl _ _).drew)
    clear hb k0 HS0
    have hu1 : (.slice (some ⟨w.heap.size + 1 + 1, 0, none⟩) 0 0 : Value).ownBlock ≠ some (w.heap.size + 1) := by simp [Value.ownBlock]
    have hu2 : (.slice none 0 0 : Value).ownBlock ≠ some (w.heap.size + 1) := by simp [Value.ownBlock]
    have HU1 := Lib.hid hu1; have HU2 := Lib.hid hu2
    clear hu1 hu2
    rw [HD.out]
    go_upto_region 4 with fail
    refine wp_region_held_drew (S := TBx (w.heap.size + 1 + 1 + 1) (.slice none 0 0) []) (by kernel_rfl) HDR1.out.box (fun hS0 => ?_)
    generalize w1.drew = v0 at *
    refine wpAnyH_take (i := 0) (v := .slice (some ⟨w.heap.size + 1 + 1, 0, none⟩) 0 0) rfl (by kernel_rfl) (by kernel_rfl) (by kernel_rfl) (fun _ _ _ h => h) (Or.inl ⟨by rfl, fun z hz => ?_⟩) hS0 ?_
    · obtain ⟨z1, z2, z3, z4, z5⟩ := hz
      go_simp
    try simp only [List.getElem_toArray, List.getElem_cons_zero, Act.put, List.setIfInBounds_toArray, List.set_cons_zero, List.set_cons_succ]
    refine wpAnyH_take (i := 1) (v := .agg #[.slice none 0 0, .string (S [])]) rfl (by kernel_rfl) (by kernel_rfl) (by kernel_rfl) (fun _ _ _ h => h) (Or.inl ⟨by rfl, fun z hz => ?_⟩) hS0 ?_
    · obtain ⟨z1, z2, z3, z4, z5⟩ := hz
      go_simp
    try simp only [List.getElem_toArray, List.getElem_cons_zero, List.getElem_cons_succ, Act.put, List.setIfInBounds_toArray, List.set_cons_zero, List.set_cons_succ]
    refine wpAnyH_take (i := 2) (v := .slice (some ⟨w.heap.size + 1 + 1, 0, none⟩) 0 0) rfl (by kernel_rfl) (by kernel_rfl) (by kernel_rfl) (fun _ _ _ h => h) (Or.inl ⟨by rfl, fun z hz => ?_⟩) hS0 ?_
    · obtain ⟨z1, z2, z3, z4, z5⟩ := hz
      go_simp
    try simp only [List.getElem_toArray, List.getElem_cons_zero, List.getElem_cons_succ, Act.put, List.setIfInBounds_toArray, List.set_cons_zero, List.set_cons_succ]
    obtain ⟨_, ⟨kz, k3, k4, k7, k8⟩⟩ := HDR1.out.rbx
    have hset : Chg (fun k => k = w.heap.size + 1) v0 ((v0.setCell ⟨w.heap.size + 1, 0, none⟩ (.slice none 0 0)).setCell ⟨w.heap.size + 1, 1, none⟩ (.string (S []))) := ((Chg.refl (fun k => k = w.heap.size + 1) v0).setCell (p := ⟨w.heap.size + 1, 0, none⟩) rfl _).setCell (p := ⟨w.heap.size + 1, 1, none⟩) rfl _
    have r0 : ((v0.setCell ⟨w.heap.size + 1, 0, none⟩ (.slice none 0 0)).setCell ⟨w.heap.size + 1, 1, none⟩ (.string (S []))).cell? ⟨w.heap.size + 1, 0, none⟩ = some (.slice none 0 0) := by go_simp
    have r1 : ((v0.setCell ⟨w.heap.size + 1, 0, none⟩ (.slice none 0 0)).setCell ⟨w.heap.size + 1, 1, none⟩ (.string (S []))).cell? ⟨w.heap.size + 1, 1, none⟩ = some (.string (S [])) := by go_simp
    refine wpAnyH_ready (rs := [3]) (by kernel_rfl) (by simp) ?_
    refine AllReadyH.cons rfl (fun K hK => ?_) AllReadyH.nil
    go_simp
    refine hK.out _ _ (hS0.stand hset (by omega)) (fun hS1 => ?_)
    clear hK K
    try simp only [List.getElem_toArray, List.getElem_cons_zero, List.getElem_cons_succ, Act.put, List.setIfInBounds_toArray, List.set_cons_zero, List.set_cons_succ]
    refine wpAnyH_take (i := 4) (v := .bool false) rfl (by kernel_rfl) (by kernel_rfl) (by kernel_rfl) (fun _ _ _ h => h) (Or.inl ⟨by rfl, fun z hz => ?_⟩) hS1 ?_
    · obtain ⟨z1, z2, z3, z4, z5⟩ := hz
      go_simp
    try simp only [List.getElem_toArray, List.getElem_cons_zero, List.getElem_cons_succ, Act.put, List.setIfInBounds_toArray, List.set_cons_zero, List.set_cons_succ]
    refine wpAnyH_done (by kernel_rfl) ?_ _
    have HROW := Lib.hid (own_base (owns_stand HDR1.out.row hset (fun k hk e => HU1.out (by rw [hk, e]))) (show w.heap.size ≤ (w.heap.size + 1 + 1) by omega))
    have HSTR := Lib.hid (own_base (owns_stand HDR1.out.str hset (fun k hk e => HU2.out (by rw [hk, e]))) (show w.heap.size ≤ (w.heap.size + 1 + 1) by omega))
    have HBL := Lib.hid (Chg.belowB HDR1.out.bel hset HDR1.out.bel.size (fun k hk => by have h9 : k = w.heap.size + 1 := hk; omega))
    clear hS0 hS1 hset
    go_wp2
    refine bodyPost_ret (v := .tuple #[.slice (some ⟨w.heap.size + 1 + 1, 0, none⟩) 0 0, transV (.slice none 0 0) [], .bool false]) (by simp [transV, r0, r1, results, Tryz.results15, go_sem]) rfl ⟨.slice (some ⟨w.heap.size + 1 + 1, 0, none⟩) 0 0, .slice none 0 0, by rw [HP.out]; rfl, ?_, ?_, HBL.out⟩
    · rw [HP.out]; exact HROW.out
    · rw [HP.out]; exact HSTR.out
  · obtain ⟨h1, h2⟩ := entA_small hu hd
    exact spec_replay dv sv l st w h1 hs h2
end Go.Proofs.YtpkahblajgaemaaGreatDoor

namespace Go.Proofs.YtpkahblajgaemaaGreatDoor
open Go Go.RowKit
set_option maxHeartbeats 2000000
set_option maxRecDepth 100000
theorem isScreen (s : Str) (w : World) (hs : s.length ≤ 2 ^ 40) :
    Calls Tryz.prog 64 #[.string (S s)] w fun e w' => e = .returned (.bool (P.screen s)) ∧ w = w' := by
  have HP := Lib.hid (show P.screen s = (decide ((s.length : Int) ≤ 2000) && s.all P.prn) from rfl)
  go_enter Tryz.func64, Tryz.ntmps64
  by_cases h : (s.length : Int) ≤ 2000
  · rw [decide_eq_true h, Bool.true_and] at HP
    go_wp2_with fail
    refine (isPrintable s _ hs).mono ?_
    rintro e w' ⟨rfl, rfl⟩
    generalize s.all P.prn = q at *
    go_wp2
    go_ret
    exact ⟨by rw [HP.out]; rfl, rfl⟩
  · rw [decide_eq_false h, Bool.false_and] at HP
    go_wp2
    go_ret
    exact ⟨by rw [HP.out]; rfl, rfl⟩
theorem isValidEdit (x : Int) (t : Str) (w : World) (hs : t.length ≤ 2 ^ 40) :
    Calls Tryz.prog 65 #[.agg #[.int .i64 x, .string (S t)]] w fun e w' => e = .returned (.bool (P.editOk (x, t))) ∧ Below w.heap.size w w' := by
  have HB := Lib.hid ((Below.refl w.heap.size w).alloc (Nat.le_refl _) (.cells #[.int .i64 x, .string (S t)] 38))
  have HP := Lib.hid (show P.editOk (x, t) = (decide (0 ≤ x ∧ x ≤ 2000) && P.screen t) from rfl)
  go_enter Tryz.func65, Tryz.ntmps65
  go_wp2_with fail
  refine (impl_in _ _ _ _).mono ?_
  rintro e w1 ⟨rfl, rfl⟩
  obtain ⟨q, hq⟩ : ∃ q, decide (0 ≤ x ∧ x ≤ 2000) = q := ⟨_, rfl⟩
  rw [hq] at HP ⊢
  clear hq
  cases q
  · go_wp2
    go_ret
    exact ⟨by rw [HP.out]; rfl, HB.out⟩
  · go_wp2_with fail
    refine (isScreen t _ hs).mono ?_
    rintro e w2 ⟨rfl, rfl⟩
    rw [Bool.true_and] at HP
    generalize P.screen t = q at *
    go_wp2
    go_ret
    exact ⟨by rw [HP.out]; rfl, HB.out⟩
theorem applyEdit (s : Str) (x : Int) (t : Str) (w : World) (hs : s.length ≤ 2 ^ 30) (ht : t.length ≤ 2 ^ 30) :
    Calls Tryz.prog 18 #[.string (S s), .agg #[.int .i64 x, .string (S t)]] w (RenPost (P.applyE s (x, t)) w) := by
  have hb0 := (Below.refl w.heap.size w).alloc (Nat.le_refl _) (.cells #[.int .i64 x, .string (S t)] 38)
  have HB := Lib.hid hb0
  have HX := Lib.hid (show w.heap.size < (w.alloc (.cells #[.int .i64 x, .string (S t)] 38)).heap.size ∧ (w.alloc (.cells #[.int .i64 x, .string (S t)] 38)).cell? ⟨w.heap.size, 0, none⟩ = some (.int .i64 x) ∧ (w.alloc (.cells #[.int .i64 x, .string (S t)] 38)).cell? ⟨w.heap.size, 1, none⟩ = some (.string (S t)) from ⟨by simp, by go_simp, by go_simp⟩)
  clear hb0
  go_enter Tryz.func18, Tryz.ntmps18
  go_wp2_with fail
  generalize (World.alloc _ _) = W at *
  refine (isScreen s _ (by omega)).mono ?_
  rintro e w1 ⟨rfl, rfl⟩
  have HP := Lib.hid (show P.applyE s (x, t) = (if P.screen s && (P.editOk (x, t) && decide (x ≤ (s.length : Int))) then (if 2000 < (s.take (s.length - x.toNat) ++ t).length then ([], false) else (s.take (s.length - x.toNat) ++ t, true)) else ([], false)) from rfl)
  generalize P.screen s = q at *
  obtain ⟨_, k0, k1⟩ := HX.out
  cases q
  · go_wp2
    go_ret2
    exact ⟨by rw [HP.out]; rfl, HB.out⟩
  · go_wp2_with fail
    refine (isValidEdit x t _ (by omega)).mono ?_
    rintro e w2 ⟨rfl, hb⟩
    have HB2 := Lib.hid (HB.out.trans (hb.mono HB.out.size))
    have h0 := hb.cell (p := ⟨w.heap.size, 0, none⟩) HX.out.1
    have h1 := hb.cell (p := ⟨w.heap.size, 1, none⟩) HX.out.1
    rw [k0] at h0; rw [k1] at h1
    have HE := Lib.hid (show P.editOk (x, t) = true → 0 ≤ x ∧ x ≤ 2000 from fun h => by unfold P.editOk at h; simp only [Bool.and_eq_true, decide_eq_true_eq] at h; exact h.1)
    generalize P.editOk (x, t) = q at *
    clear hb k0 k1 HX HB
    cases q
    · go_wp2
      go_ret2
      exact ⟨by rw [HP.out]; rfl, HB2.out⟩
    · obtain ⟨x0, _⟩ := HE.out rfl
      obtain ⟨n, rfl⟩ := Int.eq_ofNat_of_zero_le x0
      by_cases hx : n ≤ s.length
      · have i1 : ¬ (s.length : Int) < (n : Int) := by omega
        obtain ⟨m, hm⟩ : ∃ m, m + n = s.length := ⟨s.length - n, by omega⟩
        have i2 : (s.length : Int) - (n : Int) = (m : Int) := by omega
        have i3 : m ≤ s.length := by omega
        have hlen : (s.take m).length = m := by rw [List.length_take]; omega
        have HV := Lib.hid (show s.take (s.length - (n : Int).toNat) = s.take m by congr 1; omega)
        rw [HV.out] at HP
        have HD := Lib.hid (show decide ((n : Int) ≤ (s.length : Int)) = true from decide_eq_true (by omega))
        have i4 : ((s.take m ++ t).length : Int) = (m : Int) + (t.length : Int) := by rw [List.length_append, hlen]; omega
        by_cases h2 : 2000 < (s.take m ++ t).length
        · have i5 : (2000 : Int) < (m : Int) + (t.length : Int) := by omega
          go_wp2_with fail
          go_quiet (fail)
          go_wp2
          go_ret2
          exact ⟨by rw [HP.out, if_pos h2, HD.out]; rfl, by first | exact HB2.out | exact below_drewN HB2.out _⟩
        · have i5 : ¬ (2000 : Int) < (m : Int) + (t.length : Int) := by omega
          go_wp2_with fail
          go_quiet (fail)
          go_wp2
          go_ret2
          exact ⟨by rw [HP.out, if_neg h2, HD.out]; rfl, by first | exact HB2.out | exact below_drewN HB2.out _⟩
      · have i1 : (s.length : Int) < (n : Int) := by omega
        go_wp2
        go_ret2
        exact ⟨by rw [HP.out, decide_eq_false (by omega)]; rfl, HB2.out⟩
end Go.Proofs.YtpkahblajgaemaaGreatDoor
