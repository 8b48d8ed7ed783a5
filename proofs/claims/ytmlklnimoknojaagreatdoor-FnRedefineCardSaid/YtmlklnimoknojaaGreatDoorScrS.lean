/- Walks: the screen of strokes (program). -/
import Derived.Deep.DeepCutAuto
import Derived.Deep.RegionHeld
import Derived.Test.YtmlklnimoknojaaGreatDoorPlainScr2
import Derived.Test.YtmlklnimoknojaaGreatDoorFmtI5
import Derived.Test.YtmlklnimoknojaaGreatDoorWalkT
import Derived.Test.YtmlklnimoknojaaGreatDoorSeg
import Derived.Test.YtmlklnimoknojaaGreatDoorFmtS3
namespace Go.Proofs.YtmlklnimoknojaaGreatDoor
namespace P
theorem replace_none {t : Bs} (h : ∀ b ∈ t, b ≠ 35) : Go.Lib.replaceAll t [35] [61] = t := by
  have hc : Go.Lib.count t [35] = 0 := by
    rw [Go.Lib.count_one]
    exact List.count_eq_zero.2 fun hm => h 35 hm rfl
  unfold Go.Lib.replaceAll Go.Lib.replace Go.Lib.replaceNum
  rw [if_neg (by decide), if_pos (.inl (by decide)), hc]
  rfl
theorem replace_head {t : Bs} (h : ∀ b ∈ t, b ≠ 35) : Go.Lib.replaceAll (35 :: t) [35] [61] = 61 :: t := by
  have hc : Go.Lib.count (35 :: t) [35] = 1 := by
    rw [Go.Lib.count_one, List.count_cons_self, List.count_eq_zero.2 fun hm => h 35 hm rfl]
  have hi : Go.Lib.index (35 :: t) [35] = ((0 : Nat) : Int) := by
    unfold Go.Lib.index
    rw [if_pos (by simp)]
    rfl
  unfold Go.Lib.replaceAll Go.Lib.replace Go.Lib.replaceNum
  rw [if_neg (by decide), if_pos (.inl (by decide)), hc, Go.Lib.replaceK_hit _ _ _ _ _ hi]
  rfl
theorem replace_fmt (s : Int) : Go.Lib.replaceAll (fmt s) [35] [61] = raw s := by
  obtain ⟨t, ht, h⟩ := keys_head s
  have hl := fun m => fmtL_hash t m ht
  rcases h with h | h
  · have hf : fmt s = fmtL (midK s) t := by unfold fmt; rw [h]
    unfold raw
    rw [hf, map_hash (hl _), replace_none (hl _)]
  · have hf : fmt s = 35 :: fmtL (midK s) t := by
      unfold fmt
      rw [h]
      conv => lhs; unfold fmtL
      rfl
    unfold raw
    rw [hf, List.map_cons, map_hash (hl _), replace_head (hl _)]
    rfl
end P
open Go Go.RowKit
set_option maxHeartbeats 4000000
set_option maxRecDepth 100000
theorem replaceHash (m : Int) (w : World) (hE : Env w) :
    Calls Tryz.prog 111 #[.string (S (P.fmt m)), .string (S [35]), .string (S [61])] w fun e w' => e = .returned (.string (S (P.raw m))) ∧ Below w.heap.size w w' := by
  obtain ⟨n, hm⟩ := hE.2
  have hl := P.fmt_len m
  have hc := Lib.countB_mul_le (S [35]) (by decide) (S (P.fmt m)).size (S (P.fmt m)) (Nat.le_refl _)
  have hc2 : Lib.countB (S (P.fmt m)) (S [35]) ≤ (P.fmt m).length := by rw [S_size, S_size] at hc; simpa using hc
  refine (Tryz.strings_ReplaceAll (S (P.fmt m)) (S [35]) (S [61]) n w (by rw [S_size]; omega) hm (by decide) (by rw [S_size, S_size]; simp; omega)).mono ?_
  rintro e w' ⟨rfl, hb⟩
  rw [S_dataList, S_dataList, S_dataList, P.replace_fmt]
  exact ⟨rfl, hb⟩
theorem atomVals_len (l : List (Int × Str)) : (atomVals l).length = l.length * 2 := by
  induction l with
  | nil => rfl
  | cons a l ih =>
    have e : atomVals (a :: l) = .int .i64 a.1 :: .string (S a.2) :: atomVals l := rfl
    rw [e, List.length_cons, List.length_cons, List.length_cons, ih]
    omega
theorem atomVals_one {l : List (Int × Str)} {x : Value} (h : x ∈ atomVals l) : x.oneCell' = true := by
  unfold atomVals at h
  rw [List.mem_flatMap] at h
  obtain ⟨a, _, h⟩ := h
  simp only [List.mem_cons, List.not_mem_nil, or_false] at h
  rcases h with rfl | rfl <;> rfl
theorem atomVals_append (l m : List (Int × Str)) : atomVals (l ++ m) = atomVals l ++ atomVals m := by unfold atomVals; rw [List.flatMap_append]
theorem src_of_atoms {B : Nat} {v : World} {u : Value} {l : List (Int × Str)} (h : OwnAtoms B v u l) : SrcIs v 2 u l.length (atomVals l) := by
  refine ⟨atomVals_len l, fun x hx => atomVals_one hx, ?_⟩
  rcases id h.2 with ⟨hv, h0⟩ | ⟨g, cap, cur, hv, _⟩
  · exact .inl ⟨hv, h0⟩
  · have hob : u.ownBlock = some g := by rw [hv]; rfl
    exact .inr ⟨_, cap, hv, fun j x hx => World.ownsRow.cells h hob j x hx⟩
theorem atoms_more {w w1 w2 : World} {v v' : Value} {l m : List (Int × Str)} (hown : OwnAtoms w.heap.size w1 v l) (hb : Below w.heap.size w w1)
    (h : w2.ownsRow w.heap.size 153 2 v' (l.length + m.length) (atomVals l ++ atomVals m)) (hg : w1.grownBy w2 v.ownBlock) :
    OwnAtoms w.heap.size w2 v' (l ++ m) ∧ Below w.heap.size w w2 := by
  refine ⟨?_, hb.grown hg hb.size (fun k hk => (World.ownsRow.lt hown k hk).1)⟩
  unfold OwnAtoms; rw [atomVals_append, List.length_append]; exact h
theorem screenOf (sv u : Value) (st : List Int) (l : List P.Pc) (w : World) (hs : IntR w sv st) (hu : PcR w u l) (hsl : P.slist st = true) (hl : l.length ≤ 60)
    (hp : ∀ p ∈ l, ∃ a k : Nat, a < st.length ∧ p.1 = ((a : Int), (k : Int)) ∧ (p.2 = [] ∨ (P.transS p.2).2 = true)) (hE : Env w) :
    Calls Tryz.prog 60 #[sv, u] w (RenPost (P.render (P.atomsOf st l)) w) := by
  obtain ⟨i0, hi, hz0, hz1, hz2⟩ := info_parts info_atom
  have hba := (Below.refl w.heap.size w).alloc (Nat.le_refl _) (.cells #[] 153)
  have HST := Lib.hid hs; have HU := Lib.hid hu; have HSL := Lib.hid hsl; have HP := Lib.hid hp; have HE := Lib.hid hE
  have HOW := Lib.hid (show OwnAtoms w.heap.size (w.alloc (.cells #[] 153)) (.slice (some ⟨w.heap.size, 0, none⟩) 0 0) [] from World.ownsRow_made _ _ _ (Nat.le_refl _) (by decide) (by rfl))
  have HB0 := Lib.hid hba
  obtain ⟨sd, sc, rfl, _, _⟩ := hs
  obtain ⟨ad, cap, rfl, _, _⟩ := hu
  clear hba hsl hp hE
  go_enter Tryz.func60, Tryz.ntmps60
  go_wp2
  go_loopw [6, 16] (fun v i wr => ∃ j : Nat, j ≤ l.length ∧ i = .int .i64 j ∧ OwnAtoms w.heap.size wr v (P.atomsOf st (l.take j)) ∧ Below w.heap.size w wr) (fun _ i _ => l.length - (intOf i).toNat)
  case atStart => exact ⟨0, Nat.zero_le _, rfl, HOW.out, HB0.out⟩
  case round =>
    clear HOW HB0
    obtain ⟨j, hj, rfl, hown, hb⟩ := hrel
    have HOWN := Lib.hid hown; have HB := Lib.hid hb
    obtain ⟨va, vc, rfl⟩ := own_lenA hown
    have hal := P.atomsOf_len st (l.take j)
    rw [List.length_take, Nat.min_eq_left hj] at hal
    by_cases hlt : j < l.length
    · obtain ⟨g, o, hga, hgl, c0, c1, c2⟩ := (HU.out.below hb).at j hlt
      obtain ⟨a, k, hast, hpk, htx⟩ := HP.out _ (List.getElem_mem hlt)
      have HSN := Lib.hid (show P.atomsOf st (l.take (j + 1)) = P.atomsOf st (l.take j) ++ P.pcAtoms st l[j] by rw [take_snoc l j hlt, P.atomsOf_snoc])
      subst hga
      generalize l[j] = p at *
      obtain ⟨⟨p0, p1⟩, tx⟩ := p
      simp only [Prod.mk.injEq] at hpk
      obtain ⟨rfl, rfl⟩ := hpk
      simp only at c0 c1 c2 htx
      have HTX := Lib.hid htx
      have i1 : (j : Int) < (l.length : Int) := by omega
      have hbz := hb.size
      have HEW := Lib.hid (HE.out.below hb HE.out.size)
      obtain ⟨at0, hat0⟩ : ∃ x, P.atomsOf st (l.take j) = x := ⟨_, rfl⟩
      rw [hat0] at HOWN HSN hal ⊢
      clear hb hown htx hat0
      cases tx with
      | nil =>
        obtain ⟨m, hm, hms, hmd⟩ := P.stroke_nat HSL.out hast
        have HMS := Lib.hid hms
        have HPA := Lib.hid (show P.pcAtoms st (((a : Int), (k : Int)), []) = [(1, P.raw (m : Int))] by rw [P.atoms_word rfl rfl, hmd])
        obtain ⟨gs, os, hgs, hgsl, cs⟩ := (HST.out.below HB.out).at a hast
        rw [hm] at cs
        subst hgs
        have i2 : (a : Int) < (st.length : Int) := by omega
        clear hms hm hmd
        go_wp2_with fail
        refine (impl_formatStroke m _ HMS.out).mono ?_
        rintro e w1 ⟨rfl, hb1⟩
        have hbx : Below wr.heap.size wr w1 := ((Below.refl _ _).alloc (Nat.le_refl _) _).trans (hb1.mono (by simp))
        have HE1 := Lib.hid (HEW.out.below hbx HEW.out.size)
        have HX1 := Lib.hid hbx
        clear hb1 hbx c0 c1 c2 cs
        go_wp2_with fail
        refine (replaceHash (m : Int) _ HE1.out).mono ?_
        rintro e w2 ⟨rfl, hb2⟩
        have HX2 := Lib.hid (HX1.out.trans (hb2.mono HX1.out.size))
        have HOW2 := Lib.hid (show (w2.alloc (.cells #[.int .i64 1, .string (S (P.raw (m : Int)))] 153)).ownsRow w.heap.size 153 2 (.slice va at0.length vc) at0.length (atomVals at0) from (own_kept HOWN.out HX2.out (Nat.le_refl _)).alloc _)
        have hzw2 : w.heap.size ≤ w2.heap.size := Nat.le_trans hbz HX2.out.size
        have hal2 : at0.length ≤ 600 := by omega
        clear hb2
        generalize P.raw (m : Int) = rw' at *
        go_wp2_with (at_builtin; refine wpList_append_own _ rfl _ _ 146 rfl w.heap.size 153 i0 (.agg #[.int .i64 0, .string ⟨#[]⟩]) 2 24 Tryz.underlying146 hi hz0 hz1 hz2 rfl (by decide) _ at0.length (atomVals at0) rfl HOW2.out ⟨w2.heap.size, 0, none⟩ 1 1 [.int .i64 1, .string (S rw')] rfl rfl ?_ ?_ ?_ ?_ ?_ ?_)
        all_goals first | exact ⟨rfl, rfl⟩ | (intro z hz; simp only [List.mem_cons, List.not_mem_nil, or_false] at hz; rcases hz with rfl | rfl <;> rfl) | (unfold maxLen; omega) | omega | (simp; omega) | (intro i z hz; rcases i with _ | _ | i; (injection hz with hz; subst hz; rw [add0]; go_simp); (injection hz with hz; subst hz; go_simp); cases hz) | skip
        intro v' w3 hown' hgrow _
        have R := Lib.hid (atoms_rel (x := (1, rw')) (w1 := w2) (o := (.cells #[.int .i64 1, .string (S rw')] 153)) (v := .slice va at0.length vc) hzw2 (own_kept HOWN.out HX2.out (Nat.le_refl _)) (HB.out.trans (HX2.out.mono hbz)) hown' hgrow)
        clear hown' hgrow
        go_wp2
        go_roundw
        case rel =>
          repeat apply Exists.intro
          refine ⟨?_, rfl⟩
          exact ⟨j + 1, by omega, by go_num, by rw [HSN.out, HPA.out]; exact R.out.1, R.out.2⟩
        case measure => simp [intOf]; omega
      | cons x tl =>
        have hok : (P.transS (x :: tl)).2 = true := HTX.out.resolve_left (by simp)
        have hl60 := P.trans_len60 hok
        have HOK := Lib.hid hok
        have HPA := Lib.hid (show P.pcAtoms st (((a : Int), (k : Int)), x :: tl) = (P.transS (x :: tl)).1 from P.atoms_trans (by simp))
        have hne : ((x :: tl : Str) != []) = true := rfl
        have hne2 : ((x :: tl : Str) == []) = false := rfl
        have hne3 : ¬ (x :: tl : Str) = [] := by simp
        generalize x :: tl = tx at *
        clear hok
        go_wp2_with fail
        refine (impl_parseTranslation tx _ (by omega) (HEW.out.alloc _)).mono ?_
        rintro e w1 ⟨pv, rfl, hpo, hb1⟩
        have hpo' := hpo HOK.out
        rw [HOK.out]
        have hbx : Below wr.heap.size wr w1 := ((Below.refl _ _).alloc (Nat.le_refl _) _).trans (hb1.mono (by simp))
        have HX1 := Lib.hid hbx
        have HSRC := Lib.hid (src_of_atoms hpo')
        have hml := P.transS_len tx
        have HOW1 := Lib.hid (own_kept HOWN.out hbx (Nat.le_refl _))
        obtain ⟨ma, mc, rfl⟩ := own_lenA hpo'
        have hz1' : w.heap.size ≤ w1.heap.size := Nat.le_trans hbz hbx.size
        have hal2 : at0.length ≤ 600 := by omega
        clear hb1 hbx hpo hpo' c0 c1 c2
        generalize (P.transS tx).1 = ma1 at *
        go_wp2_with (at_builtin; refine wpList_append_src rfl _ _ 146 rfl w.heap.size 153 i0 (.agg #[.int .i64 0, .string ⟨#[]⟩]) 2 24 Tryz.underlying146 hi hz0 hz1 hz2 rfl (by decide) _ at0.length (atomVals at0) rfl HOW1.out _ ma1.length (atomVals ma1) rfl HSRC.out ?_ ?_ ?_ ?_)
        · unfold maxLen; omega
        · omega
        · exact hz1'
        intro v' w3 hown' hgrow _
        have R := Lib.hid (atoms_more HOW1.out (HB.out.trans (HX1.out.mono hbz)) hown' hgrow)
        clear hown' hgrow
        go_wp2
        go_roundw
        case rel =>
          repeat apply Exists.intro
          refine ⟨?_, rfl⟩
          exact ⟨j + 1, by omega, by go_num, by rw [HSN.out, HPA.out]; exact R.out.1, R.out.2⟩
        case measure => simp [intOf]; omega
    · have hjl : j = l.length := by omega
      have hsum : (P.atomsOf st (l.take j)).length ≤ 600 := by omega
      have HTE := Lib.hid (show l.take j = l from List.take_of_length_le (by omega))
      rw [HTE.out] at HOWN hsum
      rw [HTE.out]
      have i1 : ¬ (j : Int) < (l.length : Int) := by omega
      have HAT := Lib.hid (show ∀ x ∈ P.atomsOf st l, x.2.length ≤ 2 ^ 29 from fun x hx => P.atomsOf_text HP.out x hx)
      clear hown hb hal
      go_wp2_with fail
      refine (impl_render _ _ _ (own_atoms HOWN.out) hsum HAT.out).mono ?_
      rintro e w2 ⟨rfl, hb2⟩
      have HB2 := Lib.hid (HB.out.trans (hb2.mono HB.out.size))
      clear hb2
      go_wp2
      go_ret2
      exact ⟨rfl, HB2.out⟩
end Go.Proofs.YtmlklnimoknojaaGreatDoor
namespace Go.Proofs.YtmlklnimoknojaaGreatDoor
open Go Go.RowKit
set_option maxHeartbeats 4000000
set_option maxRecDepth 100000
theorem l11Strokes (u : Value) (l : List Int) (w : World) (hu : IntR w u l) :
    Calls Tryz.prog 138 #[u] w fun e w' => e = .returned (.bool (P.slist l)) ∧ w = w' := by
  have HU := Lib.hid hu
  obtain ⟨ad, cap, rfl, hl, _⟩ := hu
  go_enter Tryz.func138, Tryz.ntmps138
  go_wp2
  go_loop [3] (fun i => ∃ j : Nat, j ≤ l.length ∧ j ≤ 61 ∧ i = .int .i64 j ∧ (l.take j).all P.stroke = true) (fun i => l.length - (intOf i).toNat)
  case atStart => exact ⟨0, Nat.zero_le _, by omega, rfl, by simp⟩
  case round =>
    obtain ⟨j, hj, hj61, rfl, ha⟩ := hrel
    have HA := Lib.hid ha; clear ha
    by_cases hlt : j < l.length
    · by_cases h60 : j ≤ 60
      · obtain ⟨g, o, hga, _, hc⟩ := HU.out.at j hlt
        subst hga
        have HSN := Lib.hid (take_snoc l j hlt)
        generalize l[j] = x at *
        have i1 : (j : Int) < (l.length : Int) := by omega
        have i2 : (j : Int) ≤ 60 := by omega
        cases hx : P.stroke x
        · have HNO := Lib.hid (show P.slist l = false by
            unfold P.slist
            rw [← List.take_append_drop (j + 1) l, HSN.out, List.all_append, List.all_append]
            simp [hx])
          have HX := Lib.hid hx
          go_wp2_with (go_at_call 97; refine (l2Good _ _).mono ?_; rintro e w' ⟨rfl, rfl⟩)
          go_ret
          exact ⟨ret_bool HNO.out.symm, rfl⟩
        · have HX := Lib.hid hx
          go_wp2_with (go_at_call 97; refine (l2Good _ _).mono ?_; rintro e w' ⟨rfl, rfl⟩)
          go_round
          case rel => exact ⟨j + 1, by omega, by omega, by go_num, by rw [HSN.out, List.all_append, HA.out]; simp [HX.out]⟩
          case measure => simp [intOf]; omega
      · have HNO := Lib.hid (show P.slist l = false by unfold P.slist; rw [decide_eq_false (by omega)]; rfl)
        have i1 : (j : Int) < (l.length : Int) := by omega
        have i2 : ¬ (j : Int) ≤ 60 := by omega
        have i3 : ¬ (l.length : Int) ≤ 60 := by omega
        go_wp2
        go_ret
        exact ⟨ret_bool (by rw [HNO.out]), rfl⟩
    · have i1 : ¬ (j : Int) < (l.length : Int) := by omega
      have HE := Lib.hid (show P.slist l = decide ((l.length : Int) ≤ 60) by
        have h := HA.out
        rw [List.take_of_length_le (by omega)] at h
        unfold P.slist
        rw [h, Bool.and_true]
        exact decide_eq_decide.2 (by omega))
      go_wp2
      go_ret
      exact ⟨ret_bool (by rw [HE.out]), rfl⟩
theorem l14Raw (m : Nat) (w : World) (hm : P.stroke (m : Int) = true) :
    Calls Tryz.prog 190 #[.int .i64 (m : Int)] w fun e w' => e = .returned (.string (S (P.raw m))) ∧ Below w.heap.size w w' := by
  have HR := Lib.hid (P.raw_head (m : Int)); have HNE := Lib.hid (P.fmt_ne hm); have HFL := Lib.hid (P.fmt_len (m : Int))
  have HM := Lib.hid (show m < 2 ^ 23 by unfold P.stroke at hm; simp only [decide_eq_true_eq] at hm; omega)
  clear hm
  go_enter Tryz.func190, Tryz.ntmps190
  go_wp2_with fail
  refine (l2Format m w HM.out).mono ?_
  rintro e w1 ⟨rfl, hb⟩
  have HB := Lib.hid hb
  clear hb
  obtain ⟨f, hf⟩ : ∃ f, P.fmt (m : Int) = f := ⟨_, rfl⟩
  rw [hf] at HR HNE HFL ⊢
  clear hf
  cases f with
  | nil => exact absurd rfl HNE.out
  | cons b t =>
    obtain ⟨q, hq⟩ : ∃ q, (b == 35) = q := ⟨_, rfl⟩
    have f0 : ((b.toNat : Int) == 35) = q := (u8_beq b 35 (by decide)).trans hq
    cases q
    · have HE := Lib.hid (show P.raw m = b :: t from HR.out.2 fun u hu => by injection hu with hu _; rw [hu] at hq; exact absurd hq (by decide))
      clear hq
      go_wp2
      go_ret
      exact ⟨ret_str HE.out.symm, HB.out⟩
    · have HE := Lib.hid (show P.raw m = [61] ++ t from HR.out.1 t (by rw [eq_of_beq hq]))
      have hfl := HFL.out
      simp only [List.length_cons] at hfl
      clear hq
      go_wp2
      go_ret
      exact ⟨ret_str HE.out.symm, HB.out⟩
theorem l11Match (dv sv : Value) (l : P.Dic) (st : List Int) (a : Nat) (w : World) (hu : EntR w dv l) (hs : IntR w sv st) (ha : a < st.length) :
    Calls Tryz.prog 219 #[.agg #[dv], sv, .int .i64 a] w (PcPost (P.matchA l st a) w) := by
  have hb0 : Below w.heap.size w ((w.alloc (.cells #[dv] 26)).alloc (.cells #[.int .i64 0, .int .i64 0, .string (S [])] 148)) := ((Below.refl w.heap.size w).alloc (Nat.le_refl _) _).alloc (by simp) _
  have HB0 := Lib.hid hb0; have HU := Lib.hid hu; have HST := Lib.hid hs
  have HX := Lib.hid ((Box1.new dv 26 w).below ((Below.refl _ _).alloc (Nat.le_refl _) (.cells #[.int .i64 0, .int .i64 0, .string (S [])] 148)))
  have HR := Lib.hid (show PcBx (w.heap.size + 1) ((w.alloc (.cells #[dv] 26)).alloc (.cells #[.int .i64 0, .int .i64 0, .string (S [])] 148)) by refine ⟨?_, ?_, ?_, ⟨?_, ?_, ?_⟩, ?_⟩ <;> go_simp)
  clear hb0
  obtain ⟨ad, cap, rfl, _, _⟩ := hu
  obtain ⟨sd, sc, rfl, hsl, _⟩ := hs
  obtain ⟨g, o, hga, _⟩ := HST.out.at 0 (by omega)
  subst hga
  have i0 : (a : Int) < (st.length : Int) := by omega
  go_enter Tryz.func219, Tryz.ntmps219
  go_wp2_with fail
  go_loopw [7] (fun i wr => ∃ n : Nat, n ≤ 6 ∧ i = .int .i64 n ∧ P.matchA l st a = P.matchN l st a (min n (st.length - a)) ∧ Box1 w.heap.size (.slice ad l.length cap) wr ∧ PcBx (w.heap.size + 1) wr ∧ EntR wr (.slice ad l.length cap) l ∧ Below w.heap.size w wr) (fun i _ => (intOf i).toNat)
  case atStart => exact ⟨6, by omega, rfl, rfl, HX.out, HR.out, HU.out.below HB0.out, HB0.out⟩
  case round =>
    clear HX HR HB0
    obtain ⟨n, hn6, rfl, hbs0, hbx, hpb, hen, hb⟩ := hrel
    have HBX := Lib.hid hbx; have HPB := Lib.hid hpb; have HEN := Lib.hid hen; have HB := Lib.hid hb
    have HBS0 := Lib.hid hbs0
    clear hbs0 hen
    obtain ⟨k0, k1⟩ := hbx
    by_cases hn1 : 1 ≤ n
    · have i1 : (0 : Int) < (n : Int) := by omega
      by_cases hns : a + n ≤ st.length
      case neg =>
        have i4 : IntKind.i64.wrap ((a : Int) + (n : Int)) = (a : Int) + (n : Int) := by rw [IntKind.wrap_i64]; omega
        have i2 : (st.length : Int) < (a : Int) + (n : Int) := by omega
        go_wp2
        go_roundw
        case rel => exact ⟨n - 1, by omega, by congr 1; omega, by rw [HBS0.out]; congr 1; omega, HBX.out, HPB.out, HEN.out, HB.out⟩
        case measure => simp [intOf]; omega
      have HBS := Lib.hid (show P.matchA l st a = P.matchN l st a n by rw [HBS0.out]; congr 1; omega)
      have i8 : ¬ (st.length : Int) < (a : Int) + (n : Int) := by omega
      have i2 : (a : Int) + (n : Int) ≤ (sc : Int) := by omega
      have i3 : ¬ sc = a := by omega
      have i4 : IntKind.i64.wrap ((a : Int) + (n : Int)) = (a : Int) + (n : Int) := by rw [IntKind.wrap_i64]; omega
      have i5 : (0 : Int) ≤ (a : Int) + (n : Int) := by omega
      have i6 : a ≤ ((a : Int) + (n : Int)).toNat := by omega
      have i7 : ((a : Int) + (n : Int)).toNat - a = n := by omega
      clear HBS0
      have hbd := (Below.refl wr.heap.size wr).drew
      have HBD := Lib.hid (hb.trans (hbd.mono hb.size)); have HXD := Lib.hid (HBX.out.below hbd); have HPD := Lib.hid (HPB.out.below hbd); have HED := Lib.hid (HEN.out.below hbd)
      have HFR := Lib.hid (IntR.cut HST.out hns (sc - a) (by omega))
      clear hb hbd hpb
      go_upto_region 5 with fail
      refine wp_region_held_drew (S := Box1 w.heap.size (.slice ad l.length cap)) (by kernel_rfl) HXD.out (fun hS0 => ?_)
      generalize wr.drew = v0 at *
      refine wpAnyH_take (i := 0) (v := .agg #[.slice ad l.length cap]) rfl (by kernel_rfl) (by kernel_rfl) (by kernel_rfl) (fun _ _ _ h => h) (Or.inl ⟨by rfl, fun z hz => ?_⟩) hS0 ?_
      · obtain ⟨z1, z2⟩ := hz
        go_simp
      try simp only [qA, qB, Act.put, qD, qE, qF]
      refine wpAnyH_take (i := 1) (v := .slice (some ⟨g, o, none⟩) st.length sc) rfl (by kernel_rfl) (by kernel_rfl) (by kernel_rfl) (fun _ _ _ h => h) (Or.inl ⟨by rfl, fun z hz => ?_⟩) hS0 ?_
      · obtain ⟨z1, z2⟩ := hz
        go_simp
      try simp only [qA, qB, qC, Act.put, qD, qE, qF]
      refine wpAnyH_take (i := 2) (v := .int .i64 a) rfl (by kernel_rfl) (by kernel_rfl) (by kernel_rfl) (fun _ _ _ h => h) (Or.inl ⟨by rfl, fun z hz => ?_⟩) hS0 ?_
      · obtain ⟨z1, z2⟩ := hz
        go_simp
      try simp only [qA, qB, qC, Act.put, qD, qE, qF]
      refine wpAnyH_take (i := 3) (v := .int .i64 a) rfl (by kernel_rfl) (by kernel_rfl) (by kernel_rfl) (fun _ _ _ h => h) (Or.inl ⟨by rfl, fun z hz => ?_⟩) hS0 ?_
      · obtain ⟨z1, z2⟩ := hz
        go_simp
      try simp only [qA, qB, qC, Act.put, qD, qE, qF]
      refine wpAnyH_take (i := 4) (v := .int .i64 n) rfl (by kernel_rfl) (by kernel_rfl) (by kernel_rfl) (fun _ _ _ h => h) (Or.inl ⟨by rfl, fun z hz => ?_⟩) hS0 ?_
      · obtain ⟨z1, z2⟩ := hz
        go_simp
      try simp only [qA, qB, qC, Act.put, qD, qE, qF]
      refine wpAnyH_take (i := 5) (v := .int .i64 ((a : Int) + (n : Int))) rfl (by kernel_rfl) (by kernel_rfl) (by kernel_rfl) (fun _ _ _ h => h) (Or.inl ⟨by rfl, fun z hz => ?_⟩) hS0 ?_
      · obtain ⟨z1, z2⟩ := hz
        go_simp
      try simp only [qA, qB, qC, Act.put, qD, qE, qF]
      refine wpAnyH_take (i := 6) (v := .slice (some ⟨g, o + a, none⟩) n (sc - a)) rfl (by kernel_rfl) (by kernel_rfl) (by kernel_rfl) (fun _ _ _ h => h) (Or.inl ⟨by rfl, fun z hz => ?_⟩) hS0 ?_
      · obtain ⟨z1, z2⟩ := hz
        go_simp
      try simp only [qA, qB, qC, Act.put, qD, qE, qF]
      refine wpAnyH_ready (rs := [7]) (by kernel_rfl) (by simp) ?_
      refine AllReadyH.cons rfl (fun K hK => ?_) AllReadyH.nil
      go_simp
      refine (l6Find _ _ l ((st.drop a).take n) _ HED.out (HFR.out.below HBD.out)).mono ?_
      rintro e v1 ⟨rfl, hb⟩
      have HB4 := Lib.hid (HBD.out.trans (hb.mono HBD.out.size)); have HX4 := Lib.hid (HXD.out.below hb); have HP4 := Lib.hid (HPD.out.below hb); have HE4 := Lib.hid (HED.out.below hb)
      refine hK.out _ _ (hS0.below hb) (fun hS1 => ?_)
      clear hK K hb hS0
      try simp only [qA, qB, qC, Act.put, qD, qE, qF]
      have HT := Lib.hid (show P.hasE ((st.drop a).take n) l = true → P.matchA l st a = (((a : Int), (n : Int)), P.textAt ((st.drop a).take n) l) from fun h => by
        obtain ⟨m, rfl⟩ : ∃ m, n = m + 1 := ⟨n - 1, by omega⟩
        rw [HBS.out]; unfold P.matchN; rw [if_pos h])
      have HN := Lib.hid (show P.hasE ((st.drop a).take n) l = false → P.matchA l st a = P.matchN l st a (n - 1) from fun h => by
        obtain ⟨m, rfl⟩ : ∃ m, n = m + 1 := ⟨n - 1, by omega⟩
        rw [HBS.out]; conv => lhs; unfold P.matchN
        rw [if_neg (by rw [h]; decide)]; rfl)
      generalize P.textAt ((st.drop a).take n) l = tx at *
      generalize P.hasE ((st.drop a).take n) l = q at *
      refine wpAnyH_take (i := 8) (v := .tuple #[.string (S tx), .bool q]) rfl (by kernel_rfl) (by kernel_rfl) (by kernel_rfl) (fun _ _ _ h => h) (Or.inl ⟨by rfl, fun z hz => ?_⟩) hS1 ?_
      · obtain ⟨z1, z2⟩ := hz
        go_simp
      try simp only [qA, qB, qC, Act.put, qD, qE, qF]
      refine wpAnyH_take (i := 9) (v := .string (S tx)) rfl (by kernel_rfl) (by kernel_rfl) (by kernel_rfl) (fun _ _ _ h => h) (Or.inl ⟨by rfl, fun z hz => ?_⟩) hS1 ?_
      · obtain ⟨z1, z2⟩ := hz
        go_simp
      try simp only [qA, qB, qC, Act.put, qD, qE, qF]
      refine wpAnyH_take (i := 10) (v := .bool q) rfl (by kernel_rfl) (by kernel_rfl) (by kernel_rfl) (fun _ _ _ h => h) (Or.inl ⟨by rfl, fun z hz => ?_⟩) hS1 ?_
      · obtain ⟨z1, z2⟩ := hz
        go_simp
      try simp only [qA, qB, qC, Act.put, qD, qE, qF]
      refine wpAnyH_take (i := 11) (v := .string (S tx)) rfl (by kernel_rfl) (by kernel_rfl) (by kernel_rfl) (fun _ _ _ h => h) (Or.inl ⟨by rfl, fun z hz => ?_⟩) hS1 ?_
      · obtain ⟨z1, z2⟩ := hz
        go_simp
      try simp only [qA, qB, qC, Act.put, qD, qE, qF]
      refine wpAnyH_take (i := 12) (v := .bool q) rfl (by kernel_rfl) (by kernel_rfl) (by kernel_rfl) (fun _ _ _ h => h) (Or.inl ⟨by rfl, fun z hz => ?_⟩) hS1 ?_
      · obtain ⟨z1, z2⟩ := hz
        go_simp
      try simp only [qA, qB, qC, Act.put, qD, qE, qF]
      refine wpAnyH_done (by kernel_rfl) ?_ _
      clear hS1
      cases q
      · have HNN := Lib.hid (HN.out rfl)
        clear HT HN
        go_wp2
        go_roundw
        case rel => exact ⟨n - 1, by omega, by congr 1; omega, by rw [HNN.out]; congr 1; omega, HX4.out, HP4.out, HE4.out, HB4.out⟩
        case measure => simp [intOf]; omega
      · have HTT := Lib.hid (HT.out rfl)
        clear HT HN
        obtain ⟨p0, p1, p2, ⟨p3, p4, p5⟩, p6⟩ := HP4.out
        go_wp2
        refine bodyPost_ret (v := .agg #[.int .i64 a, .int .i64 n, .string (S tx)]) (by simp [results, Tryz.results219, go_sem, p0, p1, p2]) rfl ⟨by rw [HTT.out], ?_⟩
        exact ((HB4.out.setCell (by simp) _).setCell (by simp) _).setCell (by simp) _
    · have i1 : ¬ (0 : Int) < (n : Int) := by omega
      have HTT := Lib.hid (show P.matchA l st a = (((a : Int), 1), []) by rw [HBS0.out, show n = 0 by omega, Nat.zero_min]; rfl)
      clear hb
      obtain ⟨p0, p1, p2, ⟨p3, p4, p5⟩, p6⟩ := HPB.out
      go_wp2
      refine bodyPost_ret (v := .agg #[.int .i64 a, .int .i64 1, .string (S [])]) (by simp [results, Tryz.results219, go_sem, p0, p1, p2]) rfl ⟨by rw [HTT.out], ?_⟩
      exact ((HB.out.setCell (by simp) _).setCell (by simp) _).setCell (by simp) _
end Go.Proofs.YtmlklnimoknojaaGreatDoor
