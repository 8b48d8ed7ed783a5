/- Walks: the entries that a fold overrides (reference). -/
import Derived.Deep.DeepCutAuto
import Derived.Deep.RegionHeld
import Derived.Test.YtmlklnimoknojaaGreatDoorExpS
import Derived.Test.YtmlklnimoknojaaGreatDoorFoldS2
import Derived.Test.YtmlklnimoknojaaGreatDoorOvI
namespace Go.Proofs.YtmlklnimoknojaaGreatDoor
theorem P.unf_pos {k : Int} {o q : List Int} (h : P.unf k o = some q) : 0 < q.length := by
  unfold P.unf at h
  split at h
  · injection h with h; subst h; simp
  · cases h
open Go Go.RowKit
set_option maxHeartbeats 4000000
set_option maxRecDepth 100000
theorem spec_foldOverrides (dv fv : Value) (d : P.Dic) (l : P.Folds) (w : World) (hd : EntR w dv d) (hf : FldR w fv l) (hs : Small d) (hft : ∀ f ∈ l, f.2.length ≤ 2 ^ 30) :
    Calls Tryz.prog 32 #[.agg #[dv], fv] w (FoPost (P.dic d && P.foldsOk l) (P.overs d l) w) := by
  obtain ⟨i0, hi, hz0, hz1, hz2⟩ := info_parts info_sl
  obtain ⟨i1, hi1, hy0, hy1, hy2⟩ := info_parts info_int
  have hb0 : Below w.heap.size w (w.alloc (.cells #[dv] 26)) := (Below.refl w.heap.size w).alloc (Nat.le_refl _) _
  have HD := Lib.hid hd; have HFR := Lib.hid hf; have HB0 := Lib.hid hb0
  have HX := Lib.hid (Box1.new dv 26 w)
  have HS := Lib.hid hs; have HFT := Lib.hid hft
  clear hb0 hs hft
  obtain ⟨ad, cap, rfl, _, _⟩ := hd
  obtain ⟨fa, fc, rfl, ⟨hl45, _⟩, _, _⟩ := hf
  go_enter Tryz.func32, Tryz.ntmps32
  go_wp2_with fail
  refine (l6Good _ d _ (HD.out.below HB0.out) HS.out.texts).mono ?_
  rintro e w1 ⟨rfl, hb⟩
  have HB1 := Lib.hid (HB0.out.trans (hb.mono HB0.out.size)); have HX1 := Lib.hid (HX.out.below hb)
  clear hb HB0 HX
  obtain ⟨q, hq⟩ : ∃ q, P.dic d = q := ⟨_, rfl⟩
  have HQ := Lib.hid hq
  rw [hq]
  clear hq
  cases q
  · go_wp2
    go_ret2
    exact ⟨.slice none 0 0, by rw [HQ.out]; rfl, by rw [HQ.out]; exact RowO.nil _ _, HB1.out⟩
  · go_wp2_with fail
    refine (spec_isValidFolds _ l _ (HFR.out.below HB1.out) HFT.out).mono ?_
    rintro e w2 ⟨rfl, hb⟩
    have HB2 := Lib.hid (HB1.out.trans (hb.mono HB1.out.size)); have HX2 := Lib.hid (HX1.out.below hb)
    clear hb HB1 HX1
    obtain ⟨q, hq⟩ : ∃ q, P.foldsOk l = q := ⟨_, rfl⟩
    have HQF := Lib.hid hq
    rw [hq]
    clear hq
    cases q
    · go_wp2
      go_ret2
      exact ⟨.slice none 0 0, by rw [HQ.out, HQF.out]; rfl, by rw [HQ.out, HQF.out]; exact RowO.nil _ _, HB2.out⟩
    · have HFO := Lib.hid (show ∀ f ∈ l, P.fold f = true by have h := HQF.out; unfold P.foldsOk at h; simp only [Bool.and_eq_true, List.all_eq_true] at h; exact h.2.1)
      have HDL := Lib.hid (P.dic_len HQ.out)
      have HOV := Lib.hid (show ∀ e ∈ d, P.outline e.1 = true from fun e he => by
        have h := HQ.out
        unfold P.dic at h
        simp only [Bool.and_eq_true, List.all_eq_true] at h
        have h2 := h.2.1 e he
        unfold P.entry at h2
        simp only [Bool.and_eq_true] at h2
        exact h2.1)
      have hz := HB2.out.size
      have hx2 := HX2.out.2
      have hba := (Below.refl w2.heap.size w2).alloc (Nat.le_refl _) (.cells #[] 27)
      have HA0 := Lib.hid (show Acc 27 1 outE (w.heap.size + 1) (w2.alloc (.cells #[] 27)) (.slice (some ⟨w2.heap.size, 0, none⟩) 0 0) [] [] from
        Acc.nil (by have h := World.ownsRow_lit (base := w.heap.size + 1) (e := 27) (size := 1) w2 #[] 0 (by omega) (Nat.zero_le _) (by simp); simpa using h) (by simp; omega))
      have HX3 := Lib.hid (HX2.out.below hba); have HB3 := Lib.hid (HB2.out.trans (hba.mono HB2.out.size))
      obtain ⟨k0, _⟩ := HX3.out
      clear hba hz hx2 HB2 HX2
      go_wp2_with fail
      go_loopw [6, 7] (fun s i wr => ∃ (j : Nat) (xs : List Value), j ≤ d.length ∧ i = .int .i64 j ∧ Acc 27 1 outE (w.heap.size + 1) wr s (P.oversT d l (d.take j)) xs ∧ Box1 w.heap.size (.slice ad d.length cap) wr ∧ Below w.heap.size w wr) (fun _ i _ => d.length - (intOf i).toNat)
      case atStart => exact ⟨0, [], Nat.zero_le _, rfl, HA0.out, HX3.out, HB3.out⟩
      case round =>
        clear HA0 HB3 HX3 k0
        obtain ⟨j, xs, hj, rfl, hacc, hbx, hb⟩ := hrel
        have HWR := Lib.hid (show w.heap.size + 1 ≤ wr.heap.size by have h := hbx.2; omega)
        have HA := Lib.hid hacc; have HB := Lib.hid hb; have HBX := Lib.hid hbx
        have hdl : (P.oversT d l (d.take j)).length ≤ j := Nat.le_trans (P.oversT_len _ _ _) (by rw [List.length_take]; omega)
        obtain ⟨uad, ucap, rfl⟩ := hacc.form
        have HD40 := Lib.hid (show d.length ≤ 40 by have := HDL.out; omega)
        obtain ⟨b0, _⟩ := id hbx
        clear hacc
        by_cases hlt : j < d.length
        · obtain ⟨g, p, hga, hgs, x, c0, c1, hx⟩ := HD.out.at j hlt
          have HC0 := Lib.hid c0; have HGS := Lib.hid hgs; have HX0 := Lib.hid hx
          have HEN := Lib.hid (show P.oversT d l (d.take (j + 1)) = P.oversT d l (d.take j) ++ if l.any (fun f => P.over d f d[j].1) then [d[j].1] else [] by rw [take_snoc d j hlt, P.oversT_snoc])
          have HOE := Lib.hid (HOV.out _ (List.getElem_mem hlt))
          have hll := HS.out.outs _ (List.getElem_mem hlt)
          obtain ⟨xd, xc, rfl, hxl, _⟩ := hx
          subst hga
          generalize d[j] = en at *
          obtain ⟨eo, et⟩ := en
          simp only at HX0 HEN hxl hll HC0 HOE
          generalize P.oversT d l (d.take j) = dl at *
          have i1' : (j : Int) < (d.length : Int) := by omega
          clear c0 c1 hb hbx hgs
          generalize hww : wr = w4 at *
          clear hww
          go_wp2_with fail
          go_loopw [8, 9] (fun fnd i wx => ∃ b : Nat, b ≤ l.length ∧ i = .int .i64 b ∧ fnd = .bool ((l.take b).any fun f => P.over d f eo) ∧ Below w4.heap.size w4 wx) (fun _ i _ => l.length - (intOf i).toNat)
          case atStart => exact ⟨0, Nat.zero_le _, rfl, rfl, Below.refl _ _⟩
          case round =>
            clear b0
            obtain ⟨b, hbl, rfl, rfl, hb⟩ := hrel
            have HBI := Lib.hid hb
            have HBXI := Lib.hid (HBX.out.below hb)
            by_cases hl2 : b < l.length
            · have i2 : (b : Int) < (l.length : Int) := by omega
              obtain ⟨gf, pf, hgf, hfl, f0, f1⟩ := ((HFR.out.below HB.out).below hb).at b hl2
              subst hgf
              have HFB := Lib.hid (HFO.out _ (List.getElem_mem hl2))
              have HTK := Lib.hid (show ((l.take (b + 1)).any fun f => P.over d f eo) = (((l.take b).any fun f => P.over d f eo) || P.over d l[b] eo) by rw [take_snoc l b hl2, List.any_append]; simp)
              generalize l[b] = fn at *
              obtain ⟨key, s⟩ := fn
              obtain ⟨key, rfl, hk1, hk2, hs8⟩ := P.fold_key HFB.out
              simp only at HTK f0 f1
              generalize ((l.take b).any fun f => P.over d f eo) = fo at *
              have C1 := Lib.hid (((HB.out.trans (hb.mono HB.out.size)).cell (p := ⟨g, p + j * 2, none⟩) HGS.out).trans HC0.out)
              have HS0 := Lib.hid (show K10 w.heap.size (.slice (some ⟨g, p, none⟩) d.length cap) g (p + j * 2) (.slice xd eo.length xc) gf (pf + b * 2) (key : Int) s wr.drew from K10.below ⟨⟨HBXI.out.1, C1.out, f0, f1⟩, HBXI.out.2, Nat.lt_of_lt_of_le HGS.out (HB.out.trans (hb.mono HB.out.size)).size, hfl⟩ (Below.refl _ _).drew)
              have hdd := (Below.refl wr.heap.size wr).drew
              have HBW := Lib.hid (hb.trans (hdd.mono hb.size))
              clear hdd f0 f1 hb HBI HBXI
              go_upto_region 11 with fail
              refine wp_region_held_drew (S := K10 w.heap.size (.slice (some ⟨g, p, none⟩) d.length cap) g (p + j * 2) (.slice xd eo.length xc) gf (pf + b * 2) (key : Int) s) (by kernel_rfl) HS0.out (fun hS0 => ?_)
              generalize wr.drew = v0 at *
              refine wpAnyH_take (i := 0) (v := .pointer (some ⟨w.heap.size, 0, none⟩)) rfl (by kernel_rfl) (by kernel_rfl) (by kernel_rfl) (fun _ _ _ h => h) (Or.inl ⟨by rfl, fun z hz => ?_⟩) hS0 ?_
              · obtain ⟨⟨z1, z2, z3, z4⟩, z5, z6, z7⟩ := hz
                go_simp
              try simp only [qA, qB, Act.put, qD, qE, qF]
              refine wpAnyH_take (i := 1) (v := .slice (some ⟨g, p, none⟩) d.length cap) rfl (by kernel_rfl) (by kernel_rfl) (by kernel_rfl) (fun _ _ _ h => h) (Or.inl ⟨by rfl, fun z hz => ?_⟩) hS0 ?_
              · obtain ⟨⟨z1, z2, z3, z4⟩, z5, z6, z7⟩ := hz
                go_simp
              try simp only [qA, qB, qC, Act.put, qD, qE, qF]
              refine wpAnyH_take (i := 2) (v := .int .i64 (j : Int)) rfl (by kernel_rfl) (by kernel_rfl) (by kernel_rfl) (fun _ _ _ h => h) (Or.inl ⟨by rfl, fun z hz => ?_⟩) hS0 ?_
              · obtain ⟨⟨z1, z2, z3, z4⟩, z5, z6, z7⟩ := hz
                go_simp
              try simp only [qA, qB, qC, Act.put, qD, qE, qF]
              refine wpAnyH_take (i := 3) (v := .pointer (some ⟨g, p + j * 2, none⟩)) rfl (by kernel_rfl) (by kernel_rfl) (by kernel_rfl) (fun _ _ _ h => h) (Or.inl ⟨by rfl, fun z hz => ?_⟩) hS0 ?_
              · obtain ⟨⟨z1, z2, z3, z4⟩, z5, z6, z7⟩ := hz
                go_simp
              try simp only [qA, qB, qC, Act.put, qD, qE, qF]
              refine wpAnyH_take (i := 4) (v := .pointer (some ⟨g, p + j * 2, none⟩)) rfl (by kernel_rfl) (by kernel_rfl) (by kernel_rfl) (fun _ _ _ h => h) (Or.inl ⟨by rfl, fun z hz => ?_⟩) hS0 ?_
              · obtain ⟨⟨z1, z2, z3, z4⟩, z5, z6, z7⟩ := hz
                go_simp
              try simp only [qA, qB, qC, Act.put, qD, qE, qF]
              refine wpAnyH_take (i := 5) (v := .slice xd eo.length xc) rfl (by kernel_rfl) (by kernel_rfl) (by kernel_rfl) (fun _ _ _ h => h) (Or.inl ⟨by rfl, fun z hz => ?_⟩) hS0 ?_
              · obtain ⟨⟨z1, z2, z3, z4⟩, z5, z6, z7⟩ := hz
                go_simp
              try simp only [qA, qB, qC, Act.put, qD, qE, qF]
              refine wpAnyH_take (i := 6) (v := .slice (some ⟨gf, pf, none⟩) l.length fc) rfl (by kernel_rfl) (by kernel_rfl) (by kernel_rfl) (fun _ _ _ h => h) (Or.inl ⟨by rfl, fun z hz => ?_⟩) hS0 ?_
              · obtain ⟨⟨z1, z2, z3, z4⟩, z5, z6, z7⟩ := hz
                go_simp
              try simp only [qA, qB, qC, Act.put, qD, qE, qF]
              refine wpAnyH_take (i := 7) (v := .int .i64 (b : Int)) rfl (by kernel_rfl) (by kernel_rfl) (by kernel_rfl) (fun _ _ _ h => h) (Or.inl ⟨by rfl, fun z hz => ?_⟩) hS0 ?_
              · obtain ⟨⟨z1, z2, z3, z4⟩, z5, z6, z7⟩ := hz
                go_simp
              try simp only [qA, qB, qC, Act.put, qD, qE, qF]
              refine wpAnyH_take (i := 8) (v := .pointer (some ⟨gf, pf + b * 2, none⟩)) rfl (by kernel_rfl) (by kernel_rfl) (by kernel_rfl) (fun _ _ _ h => h) (Or.inl ⟨by rfl, fun z hz => ?_⟩) hS0 ?_
              · obtain ⟨⟨z1, z2, z3, z4⟩, z5, z6, z7⟩ := hz
                go_simp
              try simp only [qA, qB, qC, Act.put, qD, qE, qF]
              refine wpAnyH_take (i := 9) (v := .agg #[.int .i64 (key : Int), .string (S s)]) rfl (by kernel_rfl) (by kernel_rfl) (by kernel_rfl) (fun _ _ _ h => h) (Or.inl ⟨by rfl, fun z hz => ?_⟩) hS0 ?_
              · obtain ⟨⟨z1, z2, z3, z4⟩, z5, z6, z7⟩ := hz
                go_simp
              try simp only [qA, qB, qC, Act.put, qD, qE, qF]
              refine wpAnyH_ready (rs := [10]) (by kernel_rfl) (by simp) ?_
              refine AllReadyH.cons rfl (fun K hK => ?_) AllReadyH.nil
              go_simp
              refine (l10Unfold key s _ eo _ ((HX0.out.below HB.out).below HBW.out) HOE.out hk2).mono ?_
              rintro e v1 ⟨x, rfl, hI, hb1⟩
              have HBV := Lib.hid (HBW.out.trans (hb1.mono HBW.out.size))
              have HI1 := Lib.hid (Ints.read hI)
              refine hK.out _ _ (hS0.below hb1) (fun hS1 => ?_)
              clear hK K hb1 hI
              obtain ⟨r, hr⟩ : ∃ r, P.unf (key : Int) eo = r := ⟨_, rfl⟩
              have hov : P.over d ((key : Int), s) eo = (match P.unf (key : Int) eo with | none => false | some q => P.hasE q d) := rfl
              rw [hr] at hov
              have HOVR := Lib.hid hov
              have HPOS := Lib.hid (fun q (h : r = some q) => P.unf_pos (hr.trans h))
              rw [hr] at HI1
              clear hr hov
              obtain ⟨ya, yc, rfl, _, _⟩ := HI1.out
              try simp only [qA, qB, qC, Act.put, qD, qE, qF]
              refine wpAnyH_take (i := 11) (v := .slice ya (r.getD []).length yc) rfl (by kernel_rfl) (by kernel_rfl) (by kernel_rfl) (fun _ _ _ h => h) (Or.inl ⟨by rfl, fun z hz => ?_⟩) hS1 ?_
              · obtain ⟨⟨z1, z2, z3, z4⟩, z5, z6, z7⟩ := hz
                go_simp
              try simp only [qA, qB, qC, Act.put, qD, qE, qF]
              refine wpAnyH_done (by kernel_rfl) ?_ _
              have HKS := Lib.hid hS1
              clear hS0 hS1 HS0 HBW
              cases r with
              | none =>
                simp only [Option.getD_none, List.length_nil] at HI1 ⊢
                go_wp2
                go_roundw
                case rel => exact ⟨b + 1, by omega, by go_num, by rw [HTK.out, HOVR.out]; simp, HBV.out⟩
                case measure => simp [intOf]; omega
              | some q =>
                simp only [Option.getD_some] at HI1 ⊢
                have hq0 := HPOS.out q rfl
                obtain ⟨k0, _⟩ := HKS.out.1
                go_wp2_with fail
                refine (l6At _ _ d q _ ((HD.out.below HB.out).below HBV.out) HI1.out).mono ?_
                rintro e v2 ⟨rfl, hb2⟩
                have HBV2 := Lib.hid (HBV.out.trans (hb2.mono HBV.out.size))
                clear hb2 k0
                have HHE := Lib.hid (show P.hasE q d = decide (0 ≤ P.place q d) from rfl)
                obtain ⟨pl, hpl⟩ : ∃ pl, P.place q d = pl := ⟨_, rfl⟩
                rw [hpl] at HHE ⊢
                clear hpl
                by_cases hp : 0 ≤ pl
                · have HT2 := Lib.hid (show P.over d ((key : Int), s) eo = true by rw [HOVR.out]; show P.hasE q d = true; rw [HHE.out, decide_eq_true hp])
                  go_wp2
                  go_roundw
                  case rel => exact ⟨b + 1, by omega, by go_num, by rw [HTK.out, HT2.out, Bool.or_true], HBV2.out⟩
                  case measure => simp [intOf]; omega
                · have HT2 := Lib.hid (show P.over d ((key : Int), s) eo = false by rw [HOVR.out]; show P.hasE q d = false; rw [HHE.out, decide_eq_false hp])
                  go_wp2
                  go_roundw
                  case rel => exact ⟨b + 1, by omega, by go_num, by rw [HTK.out, HT2.out, Bool.or_false], HBV2.out⟩
                  case measure => simp [intOf]; omega
            · have hTA : l.take b = l := List.take_of_length_le (by omega)
              rw [hTA]
              clear hTA hb
              have i2 : ¬ (b : Int) < (l.length : Int) := by omega
              obtain ⟨an, han⟩ : ∃ an, l.any (fun f => P.over d f eo) = an := ⟨_, rfl⟩
              rw [han] at HEN ⊢
              clear han
              cases an
              · have HENY := Lib.hid (HEN.out.trans (rfl : _ = dl ++ []))
                clear HEN
                go_wp2
                go_roundw
                case rel => exact ⟨j + 1, xs, by omega, by go_num, by rw [HENY.out, List.append_nil]; exact HA.out.keep outE_ok HBI.out, HBX.out.below HBI.out, HB.out.trans (HBI.out.mono HB.out.size)⟩
                case measure => simp [intOf]; omega
              · have HENY := Lib.hid (HEN.out.trans (rfl : _ = dl ++ [eo]))
                clear HEN
                have hd40 := HD40.out
                have C1 := ((HB.out.trans (HBI.out.mono HB.out.size)).cell (p := ⟨g, p + j * 2, none⟩) HGS.out).trans HC0.out
                have HXa := Lib.hid ((HX0.out.below HB.out).below HBI.out)
                have HBa := HBI
                obtain ⟨b0, hwb⟩ := HBXI.out
                have hgw : g < wr.heap.size := Nat.lt_of_lt_of_le HGS.out (HB.out.trans (HBI.out.mono HB.out.size)).size
                have hba := (Below.refl wr.heap.size wr).alloc (Nat.le_refl _) (.cells #[] 3)
                have HSRC := Lib.hid (src_of_ints (HXa.out.below hba)); have HBA := Lib.hid hba; clear hba
                have HOWI := Lib.hid (World.ownsRow_lit (base := wr.heap.size) (e := 3) (size := 1) wr #[] 0 (Nat.le_refl _) (Nat.zero_le _) (by simp))
                go_wp2_with (at_builtin; refine wpList_append_src rfl _ _ 27 rfl wr.heap.size 3 i1 (.int .i64 0) 1 8 Tryz.underlying27 hi1 hy0 hy1 hy2 rfl (by decide) (.slice (some ⟨wr.heap.size, 0, none⟩) 0 0) 0 [] rfl HOWI.out (.slice xd eo.length xc) eo.length (ints eo) rfl HSRC.out ?_ ?_ (by simp) ?_)
                · unfold maxLen; omega
                · omega
                intro u1 va hown hgr _
                have HI := Lib.hid (ints_of_owns hown (by omega))
                have HBI := Lib.hid (HBA.out.grown hgr (by simp) (fun k hk => by simp [Value.ownBlock] at hk; omega))
                clear hown hgr HSRC HBA HOWI
                obtain ⟨u1d, u1c, rfl, _, _⟩ := id HI.out
                have HBA1 := Lib.hid (show Below w4.heap.size w4 va from HBa.out.trans (HBI.out.mono HBa.out.size))
                have HA2 := Lib.hid ((HA.out.keep outE_ok HBA1.out).keep outE_ok ((Below.refl va.heap.size va).alloc (Nat.le_refl _) (.cells #[.slice u1d eo.length u1c] 27)))
                have HOW := Lib.hid HA2.out.owns
                have HWV := Lib.hid (show w.heap.size + 1 ≤ va.heap.size by have h2 := HBA1.out.size; exact Nat.le_trans HWR.out h2)
                go_wp2_with (at_builtin; refine wpList_append_lies _ rfl _ _ 59 rfl (w.heap.size + 1) 27 i0 (.slice none 0 0) 1 24 Tryz.underlying59 hi hz0 hz1 hz2 rfl (by decide) (.slice uad dl.length ucap) dl.length xs rfl HOW.out ⟨va.heap.size, 0, none⟩ 1 1 [.slice u1d eo.length u1c] rfl rfl ?_ ?_ (Nat.zero_lt_one) ?_ ?_ ?_ _ rfl ?_)
                all_goals first | exact ⟨rfl, rfl⟩ | (intro y hy; simp only [List.mem_cons, List.not_mem_nil, or_false] at hy; subst hy; rfl) | (unfold maxLen; omega) | omega | (have h1 := HWV.out; simp; omega) | (intro i y hy; rcases i with _ | i; (injection hy with hy; subst hy; rw [add0]; go_simp); cases hy) | skip
                intro g1 cap1 v3 hown hgr hat hlt3
                have HB4 := Lib.hid (show Below (w.heap.size + 1) (va.alloc (.cells #[.slice u1d eo.length u1c] 27)) v3 from (Below.refl _ _).grown hgr (by have h1 := HWV.out; simp; omega) (fun k hk => (World.ownsRow.lt HA2.out.owns k hk).1))
                have HAC := Lib.hid (HA.out.snoc (a := eo) (cs := [.slice u1d eo.length u1c]) (v1 := va) (v2 := va.alloc (.cells #[.slice u1d eo.length u1c] 27)) (v3 := v3) (g := g1) (cap := cap1) (F := Bet wr.heap.size va.heap.size) outE_ok HBA1.out (fun b hb => ⟨Nat.le_trans HBa.out.size hb.1, hb.2⟩) ⟨_, rfl, HI.out⟩ rfl ((Below.refl _ _).alloc (Nat.le_refl _) _) hown hgr (by simpa using hat))
                have HBY := Lib.hid ((HBX.out.below HBA1.out).below ((Below.refl va.heap.size va).alloc (Nat.le_refl _) (.cells #[.slice u1d eo.length u1c] 27)))
                have HBX4 := Lib.hid (show Box1 w.heap.size (.slice (some ⟨g, p, none⟩) d.length cap) v3 from ⟨(HB4.out.cell (p := ⟨w.heap.size, 0, none⟩) (by show w.heap.size < w.heap.size + 1; omega)).trans HBY.out.1, Nat.lt_of_lt_of_le HBY.out.2 HB4.out.size⟩)
                have HBW := Lib.hid (((HB.out.trans (HBA1.out.mono HB.out.size)).trans ((Below.refl w.heap.size va).alloc (by have h1 := HWV.out; omega) _)).trans (HB4.out.mono (by omega)))
                clear hown hgr hat hlt3
                go_wp2
                go_roundw
                case rel => exact ⟨j + 1, _, by omega, by go_num, by rw [HENY.out]; exact HAC.out, HBX4.out, HBW.out⟩
                case measure => simp [intOf]; omega
        · have hjl : d.length = j := by omega
          have HT := Lib.hid (show d.take j = d from List.take_of_length_le (by omega))
          clear hb
          go_wp2
          go_ret2
          have h := HA.out
          have hd40 := HD40.out
          rw [HT.out] at h hdl ⊢
          refine ⟨_, by rw [HQ.out, HQF.out]; rfl, ?_, HB.out⟩
          rw [HQ.out, HQF.out]
          show OutsO _ _ _ (P.oversT d l d)
          exact (h.row (by omega)).wide (fun b hb => ⟨by have := hb.1; omega, hb.2⟩) (fun b hb => hb.2)
end Go.Proofs.YtmlklnimoknojaaGreatDoor
