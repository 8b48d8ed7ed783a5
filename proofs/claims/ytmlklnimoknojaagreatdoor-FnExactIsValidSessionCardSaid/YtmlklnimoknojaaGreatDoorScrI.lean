/- Walks: the screen of strokes (program). -/
import Derived.Deep.DeepCutAuto
import Derived.Deep.RegionHeld
import Derived.Test.YtmlklnimoknojaaGreatDoorPlainScr2
import Derived.Test.YtmlklnimoknojaaGreatDoorFmtI5
import Derived.Test.YtmlklnimoknojaaGreatDoorCurE3
import Derived.Test.YtmlklnimoknojaaGreatDoorSeg
namespace Go.Proofs.YtmlklnimoknojaaGreatDoor
namespace P
theorem replace_none {t : Bs} (h : ∀ b ∈ t, b ≠ 35) : Go.Lib.replaceAll t [35] [61] = t := by
  have hc : Go.Lib.count t [35] = 0 := by
    rw [Go.Lib.count_one]
    exact List.count_eq_zero.2 fun hm => h 35 hm rfl
  unfold Go.Lib.replaceAll Go.Lib.replace Go.Lib.replaceNum
  rw [if_neg (by decide), if_pos (.inl (by decide)), hc]
  rfl
theorem replace_head {t : Bs} (h : ∀ b ∈ t, b ≠ 35) : Go.Lib.replaceAll (35 :: t) [35] [61] = 61 :: t := by
  have hc : Go.Lib.count (35 :: t) [35] = 1 := by
    rw [Go.Lib.count_one, List.count_cons_self, List.count_eq_zero.2 fun hm => h 35 hm rfl]
  have hi : Go.Lib.index (35 :: t) [35] = ((0 : Nat) : Int) := by
    unfold Go.Lib.index
    rw [if_pos (by simp)]
    rfl
  unfold Go.Lib.replaceAll Go.Lib.replace Go.Lib.replaceNum
  rw [if_neg (by decide), if_pos (.inl (by decide)), hc, Go.Lib.replaceK_hit _ _ _ _ _ hi]
  rfl
theorem replace_fmt (s : Int) : Go.Lib.replaceAll (fmt s) [35] [61] = raw s := by
  obtain ⟨t, ht, h⟩ := keys_head s
  have hl := fun m => fmtL_hash t m ht
  rcases h with h | h
  · have hf : fmt s = fmtL (midK s) t := by unfold fmt; rw [h]
    unfold raw
    rw [hf, map_hash (hl _), replace_none (hl _)]
  · have hf : fmt s = 35 :: fmtL (midK s) t := by
      unfold fmt
      rw [h]
      conv => lhs; unfold fmtL
      rfl
    unfold raw
    rw [hf, List.map_cons, map_hash (hl _), replace_head (hl _)]
    rfl
end P
open Go Go.RowKit
set_option maxHeartbeats 4000000
set_option maxRecDepth 100000
theorem replaceHash (m : Int) (w : World) (hE : Env w) :
    Calls Tryz.prog 111 #[.string (S (P.fmt m)), .string (S [35]), .string (S [61])] w fun e w' => e = .returned (.string (S (P.raw m))) ∧ Below w.heap.size w w' := by
  obtain ⟨n, hm⟩ := hE.2
  have hl := P.fmt_len m
  have hc := Lib.countB_mul_le (S [35]) (by decide) (S (P.fmt m)).size (S (P.fmt m)) (Nat.le_refl _)
  have hc2 : Lib.countB (S (P.fmt m)) (S [35]) ≤ (P.fmt m).length := by rw [S_size, S_size] at hc; simpa using hc
  refine (Tryz.strings_ReplaceAll (S (P.fmt m)) (S [35]) (S [61]) n w (by rw [S_size]; omega) hm (by decide) (by rw [S_size, S_size]; simp; omega)).mono ?_
  rintro e w' ⟨rfl, hb⟩
  rw [S_dataList, S_dataList, S_dataList, P.replace_fmt]
  exact ⟨rfl, hb⟩
theorem atomVals_len (l : List (Int × Str)) : (atomVals l).length = l.length * 2 := by
  induction l with
  | nil => rfl
  | cons a l ih =>
    have e : atomVals (a :: l) = .int .i64 a.1 :: .string (S a.2) :: atomVals l := rfl
    rw [e, List.length_cons, List.length_cons, List.length_cons, ih]
    omega
theorem atomVals_one {l : List (Int × Str)} {x : Value} (h : x ∈ atomVals l) : x.oneCell' = true := by
  unfold atomVals at h
  rw [List.mem_flatMap] at h
  obtain ⟨a, _, h⟩ := h
  simp only [List.mem_cons, List.not_mem_nil, or_false] at h
  rcases h with rfl | rfl <;> rfl
theorem atomVals_append (l m : List (Int × Str)) : atomVals (l ++ m) = atomVals l ++ atomVals m := by unfold atomVals; rw [List.flatMap_append]
theorem src_of_atoms {B : Nat} {v : World} {u : Value} {l : List (Int × Str)} (h : OwnAtoms B v u l) : SrcIs v 2 u l.length (atomVals l) := by
  refine ⟨atomVals_len l, fun x hx => atomVals_one hx, ?_⟩
  rcases id h.2 with ⟨hv, h0⟩ | ⟨g, cap, cur, hv, _⟩
  · exact .inl ⟨hv, h0⟩
  · have hob : u.ownBlock = some g := by rw [hv]; rfl
    exact .inr ⟨_, cap, hv, fun j x hx => World.ownsRow.cells h hob j x hx⟩
/-- a row of atoms grows by a row -/
theorem atoms_more {w w1 w2 : World} {v v' : Value} {l m : List (Int × Str)} (hown : OwnAtoms w.heap.size w1 v l) (hb : Below w.heap.size w w1)
    (h : w2.ownsRow w.heap.size 153 2 v' (l.length + m.length) (atomVals l ++ atomVals m)) (hg : w1.grownBy w2 v.ownBlock) :
    OwnAtoms w.heap.size w2 v' (l ++ m) ∧ Below w.heap.size w w2 := by
  refine ⟨?_, hb.grown hg hb.size (fun k hk => (World.ownsRow.lt hown k hk).1)⟩
  unfold OwnAtoms; rw [atomVals_append, List.length_append]; exact h
theorem screenOf (sv u : Value) (st : List Int) (l : List P.Pc) (w : World) (hs : IntR w sv st) (hu : PcR w u l) (hsl : P.slist st = true) (hl : l.length ≤ 60)
    (hp : ∀ p ∈ l, ∃ a k : Nat, a < st.length ∧ p.1 = ((a : Int), (k : Int)) ∧ (p.2 = [] ∨ (P.transS p.2).2 = true)) (hE : Env w) :
    Calls Tryz.prog 60 #[sv, u] w (RenPost (P.render (P.atomsOf st l)) w) := by
  obtain ⟨i0, hi, hz0, hz1, hz2⟩ := info_parts info_atom
  have hba := (Below.refl w.heap.size w).alloc (Nat.le_refl _) (.cells #[] 153)
  have HST := Lib.hid hs; have HU := Lib.hid hu; have HSL := Lib.hid hsl; have HP := Lib.hid hp; have HE := Lib.hid hE
  have HOW := Lib.hid (show OwnAtoms w.heap.size (w.alloc (.cells #[] 153)) (.slice (some ⟨w.heap.size, 0, none⟩) 0 0) [] from World.ownsRow_made _ _ _ (Nat.le_refl _) (by decide) (by rfl))
  have HB0 := Lib.hid hba
  obtain ⟨sd, sc, rfl, _, _⟩ := hs
  obtain ⟨ad, cap, rfl, _, _⟩ := hu
  clear hba hsl hp hE
  go_enter Tryz.func60, Tryz.ntmps60
  go_wp2
  go_loopw [6, 16] (fun v i wr => ∃ j : Nat, j ≤ l.length ∧ i = .int .i64 j ∧ OwnAtoms w.heap.size wr v (P.atomsOf st (l.take j)) ∧ Below w.heap.size w wr) (fun _ i _ => l.length - (intOf i).toNat)
  case atStart => exact ⟨0, Nat.zero_le _, rfl, HOW.out, HB0.out⟩
  case round =>
    clear HOW HB0
    obtain ⟨j, hj, rfl, hown, hb⟩ := hrel
    have HOWN := Lib.hid hown; have HB := Lib.hid hb
    obtain ⟨va, vc, rfl⟩ := own_lenA hown
    have hal := P.atomsOf_len st (l.take j)
    rw [List.length_take, Nat.min_eq_left hj] at hal
    by_cases hlt : j < l.length
    · obtain ⟨g, o, hga, hgl, c0, c1, c2⟩ := (HU.out.below hb).at j hlt
      obtain ⟨a, k, hast, hpk, htx⟩ := HP.out _ (List.getElem_mem hlt)
      have HSN := Lib.hid (show P.atomsOf st (l.take (j + 1)) = P.atomsOf st (l.take j) ++ P.pcAtoms st l[j] by rw [take_snoc l j hlt, P.atomsOf_snoc])
      subst hga
      generalize l[j] = p at *
      obtain ⟨⟨p0, p1⟩, tx⟩ := p
      simp only [Prod.mk.injEq] at hpk
      obtain ⟨rfl, rfl⟩ := hpk
      simp only at c0 c1 c2 htx
      have HTX := Lib.hid htx
      have i1 : (j : Int) < (l.length : Int) := by omega
      have hbz := hb.size
      have HEW := Lib.hid (HE.out.below hb HE.out.size)
      obtain ⟨at0, hat0⟩ : ∃ x, P.atomsOf st (l.take j) = x := ⟨_, rfl⟩
      rw [hat0] at HOWN HSN hal ⊢
      clear hb hown htx hat0
      cases tx with
      | nil =>
        obtain ⟨m, hm, hms, hmd⟩ := P.stroke_nat HSL.out hast
        have HMS := Lib.hid hms
        have HPA := Lib.hid (show P.pcAtoms st (((a : Int), (k : Int)), []) = [(1, P.raw (m : Int))] by rw [P.atoms_word rfl rfl, hmd])
        obtain ⟨gs, os, hgs, hgsl, cs⟩ := (HST.out.below HB.out).at a hast
        rw [hm] at cs
        subst hgs
        have i2 : (a : Int) < (st.length : Int) := by omega
        clear hms hm hmd
        go_wp2_with fail
        refine (impl_formatStroke m _ HMS.out).mono ?_
        rintro e w1 ⟨rfl, hb1⟩
        have hbx : Below wr.heap.size wr w1 := ((Below.refl _ _).alloc (Nat.le_refl _) _).trans (hb1.mono (by simp))
        have HE1 := Lib.hid (HEW.out.below hbx HEW.out.size)
        have HX1 := Lib.hid hbx
        clear hb1 hbx c0 c1 c2 cs
        go_wp2_with fail
        refine (replaceHash (m : Int) _ HE1.out).mono ?_
        rintro e w2 ⟨rfl, hb2⟩
        have HX2 := Lib.hid (HX1.out.trans (hb2.mono HX1.out.size))
        have HOW2 := Lib.hid (show (w2.alloc (.cells #[.int .i64 1, .string (S (P.raw (m : Int)))] 153)).ownsRow w.heap.size 153 2 (.slice va at0.length vc) at0.length (atomVals at0) from (own_kept HOWN.out HX2.out (Nat.le_refl _)).alloc _)
        have hzw2 : w.heap.size ≤ w2.heap.size := Nat.le_trans hbz HX2.out.size
        have hal2 : at0.length ≤ 600 := by omega
        clear hb2
        generalize P.raw (m : Int) = rw' at *
        go_wp2_with (at_builtin; refine wpList_append_own _ rfl _ _ 146 rfl w.heap.size 153 i0 (.agg #[.int .i64 0, .string ⟨#[]⟩]) 2 24 Tryz.underlying146 hi hz0 hz1 hz2 rfl (by decide) _ at0.length (atomVals at0) rfl HOW2.out ⟨w2.heap.size, 0, none⟩ 1 1 [.int .i64 1, .string (S rw')] rfl rfl ?_ ?_ ?_ ?_ ?_ ?_)
        all_goals first | exact ⟨rfl, rfl⟩ | (intro z hz; simp only [List.mem_cons, List.not_mem_nil, or_false] at hz; rcases hz with rfl | rfl <;> rfl) | (unfold maxLen; omega) | omega | (simp; omega) | (intro i z hz; rcases i with _ | _ | i; (injection hz with hz; subst hz; rw [add0]; go_simp); (injection hz with hz; subst hz; go_simp); cases hz) | skip
        intro v' w3 hown' hgrow _
        have R := Lib.hid (atoms_rel (x := (1, rw')) (w1 := w2) (o := (.cells #[.int .i64 1, .string (S rw')] 153)) (v := .slice va at0.length vc) hzw2 (own_kept HOWN.out HX2.out (Nat.le_refl _)) (HB.out.trans (HX2.out.mono hbz)) hown' hgrow)
        clear hown' hgrow
        go_wp2
        go_roundw
        case rel =>
          repeat apply Exists.intro
          refine ⟨?_, rfl⟩
          exact ⟨j + 1, by omega, by go_num, by rw [HSN.out, HPA.out]; exact R.out.1, R.out.2⟩
        case measure => simp [intOf]; omega
      | cons x tl =>
        have hok : (P.transS (x :: tl)).2 = true := HTX.out.resolve_left (by simp)
        have hl60 := P.trans_len60 hok
        have HOK := Lib.hid hok
        have HPA := Lib.hid (show P.pcAtoms st (((a : Int), (k : Int)), x :: tl) = (P.transS (x :: tl)).1 from P.atoms_trans (by simp))
        have hne : ((x :: tl : Str) != []) = true := rfl
        have hne2 : ((x :: tl : Str) == []) = false := rfl
        have hne3 : ¬ (x :: tl : Str) = [] := by simp
        generalize x :: tl = tx at *
        clear hok
        go_wp2_with fail
        refine (impl_parseTranslation tx _ (by omega) (HEW.out.alloc _)).mono ?_
        rintro e w1 ⟨pv, rfl, hpo, hb1⟩
        have hpo' := hpo HOK.out
        rw [HOK.out]
        have hbx : Below wr.heap.size wr w1 := ((Below.refl _ _).alloc (Nat.le_refl _) _).trans (hb1.mono (by simp))
        have HX1 := Lib.hid hbx
        have HSRC := Lib.hid (src_of_atoms hpo')
        have hml := P.transS_len tx
        have HOW1 := Lib.hid (own_kept HOWN.out hbx (Nat.le_refl _))
        obtain ⟨ma, mc, rfl⟩ := own_lenA hpo'
        have hz1' : w.heap.size ≤ w1.heap.size := Nat.le_trans hbz hbx.size
        have hal2 : at0.length ≤ 600 := by omega
        clear hb1 hbx hpo hpo' c0 c1 c2
        generalize (P.transS tx).1 = ma1 at *
        go_wp2_with (at_builtin; refine wpList_append_src rfl _ _ 146 rfl w.heap.size 153 i0 (.agg #[.int .i64 0, .string ⟨#[]⟩]) 2 24 Tryz.underlying146 hi hz0 hz1 hz2 rfl (by decide) _ at0.length (atomVals at0) rfl HOW1.out _ ma1.length (atomVals ma1) rfl HSRC.out ?_ ?_ ?_ ?_)
        · unfold maxLen; omega
        · omega
        · exact hz1'
        intro v' w3 hown' hgrow _
        have R := Lib.hid (atoms_more HOW1.out (HB.out.trans (HX1.out.mono hbz)) hown' hgrow)
        clear hown' hgrow
        go_wp2
        go_roundw
        case rel =>
          repeat apply Exists.intro
          refine ⟨?_, rfl⟩
          exact ⟨j + 1, by omega, by go_num, by rw [HSN.out, HPA.out]; exact R.out.1, R.out.2⟩
        case measure => simp [intOf]; omega
    · have hjl : j = l.length := by omega
      have hsum : (P.atomsOf st (l.take j)).length ≤ 600 := by omega
      have HTE := Lib.hid (show l.take j = l from List.take_of_length_le (by omega))
      rw [HTE.out] at HOWN hsum
      rw [HTE.out]
      have i1 : ¬ (j : Int) < (l.length : Int) := by omega
      have HAT := Lib.hid (show ∀ x ∈ P.atomsOf st l, x.2.length ≤ 2 ^ 29 from fun x hx => P.atomsOf_text HP.out x hx)
      clear hown hb hal
      go_wp2_with fail
      refine (impl_render _ _ _ (own_atoms HOWN.out) hsum HAT.out).mono ?_
      rintro e w2 ⟨rfl, hb2⟩
      have HB2 := Lib.hid (HB.out.trans (hb2.mono HB.out.size))
      clear hb2
      go_wp2
      go_ret2
      exact ⟨rfl, HB2.out⟩
end Go.Proofs.YtmlklnimoknojaaGreatDoor
