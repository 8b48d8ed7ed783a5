/- Walks: segments (reference). -/
import Derived.Test.YtmlklnimoknojaaGreatDoorScrS
namespace Go.Proofs.YtmlklnimoknojaaGreatDoor
open Go Go.RowKit
set_option maxHeartbeats 4000000
set_option maxRecDepth 100000
def SgOwnPost (l : List P.Pc) (w : World) (e : Ending) (w' : World) : Prop := ∃ u, e = .returned u ∧ OwnP w.heap.size w' u l ∧ Below w.heap.size w w'
theorem l11Segment (dv sv : Value) (l : P.Dic) (st : List Int) (w : World) (hu : EntR w dv l) (hs : IntR w sv st) (hl60 : st.length ≤ 60) :
    Calls Tryz.prog 189 #[.agg #[dv], sv] w (SgOwnPost (P.segA l st) w) := by
  obtain ⟨i0, hi, hz0, hz1, hz2⟩ := info_parts info_pc
  have hb0 : Below w.heap.size w ((w.alloc (.cells #[dv] 26)).alloc (.cells #[] 148)) := ((Below.refl w.heap.size w).alloc (Nat.le_refl _) _).alloc (by simp) _
  have HST := Lib.hid hs; have HU := Lib.hid hu
  have HG := Lib.hid (show SgR w dv l st (.slice (some ⟨w.heap.size + 1, 0, none⟩) 0 0) [] 0 st.length ((w.alloc (.cells #[dv] 26)).alloc (.cells #[] 148)) from
    ⟨by have h := World.ownsRow_lit (base := w.heap.size + 1) (e := 148) (size := 3) (w.alloc (.cells #[dv] 26)) #[] 0 (by simp) (Nat.zero_le _) (by simp); simp at h; exact h,
     (DBx.new dv 26 w).below ((Below.refl _ _).alloc (Nat.le_refl _) _), hb0, by omega, rfl, by omega, by simp⟩)
  clear hb0
  obtain ⟨ad, cap, rfl, _, _⟩ := hu
  obtain ⟨sd, sc, rfl, hsl, _⟩ := hs
  go_enter Tryz.func189, Tryz.ntmps189
  go_wp2_with fail
  go_loopw [5, 6] (fun s i wr => ∃ (row : List P.Pc) (a f : Nat), i = .int .i64 a ∧ SgR w (.slice ad l.length cap) l st s row a f wr) (fun _ i _ => st.length - (intOf i).toNat)
  case atStart => exact ⟨[], 0, st.length, rfl, HG.out⟩
  case round =>
    clear HG
    obtain ⟨row, a, f, rfl, hg⟩ := hrel
    have HG := Lib.hid hg
    obtain ⟨ua, uc, rfl⟩ := hg.own.form
    by_cases hlt : a < st.length
    · have i1 : (a : Int) < (st.length : Int) := by omega
      obtain ⟨k, hk, hk1, hk2⟩ := P.matchA_cnt (d := l) hlt
      have HK := Lib.hid (P.segs_step hlt hg.fuel hk hk1)
      have HKE := Lib.hid hk
      have hra := hg.lr
      obtain ⟨k0, _⟩ := hg.bx
      clear hg hk
      go_wp2_with fail
      refine (l11Match _ _ l st a _ (HU.out.below HG.out.bel) (HST.out.below HG.out.bel) hlt).mono ?_
      rintro e w1 ⟨rfl, hb⟩
      rw [HKE.out]
      obtain ⟨tx, htx⟩ : ∃ tx, (P.matchA l st a).2 = tx := ⟨_, rfl⟩
      rw [htx]
      have HPE := Lib.hid (show P.matchA l st a = (((a : Int), (k : Int)), tx) from Prod.ext HKE.out htx)
      clear htx k0
      have hbx : Below w1.heap.size w1 (w1.alloc (.cells #[.int .i64 a, .int .i64 k, .string (S tx)] 148)) := (Below.refl _ _).alloc (Nat.le_refl _) _
      have HB1 := Lib.hid (hb.trans (hbx.mono hb.size))
      have HZ := Lib.hid (show w.heap.size + 1 ≤ w1.heap.size by have h1 := hb.size; have h2 := HG.out.bx.2.2; omega)
      have HOW := Lib.hid (show OwnP (w.heap.size + 1) (w1.alloc (.cells #[.int .i64 a, .int .i64 k, .string (S tx)] 148)) (.slice ua row.length uc) row from owns_stand HG.out.own (Below.chg HB1.out (fun _ => False)) (fun _ _ h => h))
      have HLT := Lib.hid (show ∀ j, (Value.slice ua row.length uc).ownBlock = some j → j < w1.heap.size from fun j hj => Nat.lt_of_lt_of_le (World.ownsRow.lt HG.out.own j hj).2 hb.size)
      clear hb hbx
      go_wp2_with (at_builtin; refine wpList_append_own _ rfl _ _ 103 rfl (w.heap.size + 1) 148 i0 (.agg #[.int .i64 0, .int .i64 0, .string ⟨#[]⟩]) 3 32 Tryz.underlying103 hi hz0 hz1 hz2 rfl (by decide) (.slice ua row.length uc) row.length (pcells row) rfl HOW.out ⟨w1.heap.size, 0, none⟩ 1 1 [.int .i64 a, .int .i64 k, .string (S tx)] rfl rfl ?_ ?_ ?_ ?_ ?_ ?_)
      all_goals first | exact ⟨rfl, rfl⟩ | (intro z hz; simp only [List.mem_cons, List.not_mem_nil, or_false] at hz; rcases hz with rfl | rfl | rfl <;> rfl) | (unfold maxLen; omega) | omega | (have h1 := HZ.out; simp; omega) | (intro i z hz; rcases i with _ | _ | _ | i; (injection hz with hz; subst hz; rw [add0]; go_simp); (injection hz with hz; subst hz; go_simp); (injection hz with hz; subst hz; go_simp); cases hz) | skip
      intro u4 w4 hown hgr _
      obtain ⟨f', hf', hse⟩ := HK.out
      have HG4 := Lib.hid (HG.out.app (p := (((a : Int), (k : Int)), tx)) (a' := a + k) (f' := f') HB1.out hown hgr hf' (by rw [hse, HPE.out]) hk2 (by omega))
      obtain ⟨ub, uc4, rfl⟩ := HG4.out.own.form
      have hll : (row ++ [(((a : Int), (k : Int)), tx)]).length = row.length + 1 := by simp
      obtain ⟨g4, o4, hub, hg4, _, c1, _⟩ := (HG4.out.own.read (by rw [hll]; omega)).at row.length (by rw [hll]; omega)
      rw [List.getElem_append_right (Nat.le_refl _)] at c1
      simp only [Nat.sub_self, List.getElem_cons_zero] at c1
      subst hub
      rw [hll] at HG4 ⊢
      clear hown hgr hf' hse HOW HLT HK HKE HPE HG HB1
      go_wp2
      go_roundw
      case rel => exact ⟨_, a + k, f', by go_num, HG4.out⟩
      case measure => simp [intOf]; omega
    · have HE := Lib.hid (show P.segA l st = row by rw [hg.seg, P.segs_end (by omega), List.append_nil])
      have hra := hg.lr
      have hla := hg.la
      clear hg
      go_wp2
      go_ret
      exact ⟨_, rfl, by rw [HE.out]; exact own_base HG.out.own (Nat.le_succ _), HG.out.bel⟩
end Go.Proofs.YtmlklnimoknojaaGreatDoor
namespace Go.Proofs.YtmlklnimoknojaaGreatDoor
open Go Go.RowKit
set_option maxHeartbeats 4000000
set_option maxRecDepth 100000
theorem pc_sep {B C : Nat} {v : World} {u x : Value} {l : List P.Pc} {m : List (Int × Str)} (h : OwnP B v u l) (k : OwnAtoms C v x m) : u.ownBlock = none ∨ u.ownBlock ≠ x.ownBlock := by
  rcases h.2 with ⟨rfl, _⟩ | ⟨g, _, cur, rfl, _, h1, _⟩
  · exact .inl rfl
  · refine .inr fun hg => ?_
    rcases k.2 with ⟨rfl, _⟩ | ⟨g', _, cur', rfl, _, h2, _⟩
    · cases hg
    · injection hg with hg
      have hg : g = g' := hg
      subst hg
      rw [h1] at h2
      injection h2 with h2
      injection h2 with _ h3 _
      exact absurd h3 (by decide)
def AtsPost (l : List (Int × Str)) (w : World) (e : Ending) (w' : World) : Prop := ∃ u, e = .returned u ∧ OwnAtoms w.heap.size w' u l ∧ Below w.heap.size w w'
theorem l14Atoms (dv sv : Value) (dl : P.Dic) (st : List Int) (w : World) (hu : EntR w dv dl) (hs : IntR w sv st) (hd : P.dic dl = true) (hsl : P.slist st = true) :
    Calls Tryz.prog 157 #[.agg #[dv], sv] w (AtsPost (P.atomsOf st (P.segA dl st)) w) := by
  obtain ⟨i0, hi, hz0, hz1, hz2⟩ := info_parts info_atom
  obtain ⟨W, hW⟩ : ∃ v, w.alloc (.cells #[dv] 26) = v := ⟨_, rfl⟩
  have hb0 : Below w.heap.size w W := by rw [← hW]; exact (Below.refl w.heap.size w).alloc (Nat.le_refl _) _
  have HBX := Lib.hid (show Box1 w.heap.size dv W by rw [← hW]; exact Box1.new _ _ _)
  have hba := (Below.refl W.heap.size W).alloc (Nat.le_refl _) (.cells #[] 153)
  have HST := Lib.hid (hs.below hb0); have HUU := Lib.hid (hu.below hb0); have HSL := Lib.hid hsl; have HB00 := Lib.hid hb0
  have HP := Lib.hid (show ∀ p ∈ P.segA dl st, ∃ a k : Nat, a < st.length ∧ p.1 = ((a : Int), (k : Int)) ∧ (p.2 = [] ∨ (P.transS p.2).2 = true) from fun p hp => P.seg_piece hd hp)
  have HOW := Lib.hid (show OwnAtoms W.heap.size (W.alloc (.cells #[] 153)) (.slice (some ⟨W.heap.size, 0, none⟩) 0 0) [] from World.ownsRow_made _ _ _ (Nat.le_refl _) (by decide) (by rfl))
  have HB0 := Lib.hid hba
  have hl60 := P.slist_len hsl
  have hl := Nat.le_trans (P.segA_len dl st) hl60
  obtain ⟨sd, sc, rfl, _, _⟩ := hs
  obtain ⟨dd, dc, rfl, _, _⟩ := hu
  clear hba hsl hb0 hd
  go_enter Tryz.func157, Tryz.ntmps157
  go_upto_region 2 with (fail)
  try rw [hW]
  clear hW
  obtain ⟨k0, k1⟩ := HBX.out.below HB0.out
  go_wp2_with fail
  refine (l11Segment _ _ dl st _ (HUU.out.below HB0.out) (HST.out.below HB0.out) hl60).mono ?_
  rintro e w1 ⟨u, rfl, hu, hb1⟩
  have HB1 := Lib.hid (HB0.out.trans (hb1.mono HB0.out.size)); have HOW1 := Lib.hid (own_kept HOW.out hb1 (Nat.le_refl _))
  obtain ⟨l, hlE⟩ : ∃ l, P.segA dl st = l := ⟨_, rfl⟩
  rw [hlE] at hu HP hl
  have HLE := Lib.hid hlE
  clear hlE
  have HU1 := Lib.hid (own_base hu HB0.out.size)
  obtain ⟨ad, cap, rfl⟩ := OwnP.form hu
  clear hu hb1 k0 k1 HOW HB0 HUU
  go_wp2
  go_loopw [5, 7] (fun v i wr => ∃ j : Nat, j ≤ l.length ∧ i = .int .i64 j ∧ OwnAtoms W.heap.size wr v (P.atomsOf st (l.take j)) ∧ OwnP W.heap.size wr (.slice ad l.length cap) l ∧ Below W.heap.size W wr) (fun _ i _ => l.length - (intOf i).toNat)
  case atStart => exact ⟨0, Nat.zero_le _, rfl, HOW1.out, HU1.out, HB1.out⟩
  case round =>
    clear HOW1 HB1 HU1
    obtain ⟨j, hj, rfl, hown, hpc, hb⟩ := hrel
    have HPC := Lib.hid hpc
    have HOWN := Lib.hid hown; have HB := Lib.hid hb
    obtain ⟨va, vc, rfl⟩ := own_lenA hown
    have hal := P.atomsOf_len st (l.take j)
    rw [List.length_take, Nat.min_eq_left hj] at hal
    by_cases hlt : j < l.length
    · obtain ⟨g, o, hga, hgl, c0, c1, c2⟩ := (hpc.read (by omega)).at j hlt
      obtain ⟨a, k, hast, hpk, htx⟩ := HP.out _ (List.getElem_mem hlt)
      have HSN := Lib.hid (show P.atomsOf st (l.take (j + 1)) = P.atomsOf st (l.take j) ++ P.pcAtoms st l[j] by rw [take_snoc l j hlt, P.atomsOf_snoc])
      subst hga
      generalize l[j] = p at *
      obtain ⟨⟨p0, p1⟩, tx⟩ := p
      simp only [Prod.mk.injEq] at hpk
      obtain ⟨rfl, rfl⟩ := hpk
      simp only at c0 c1 c2 htx
      have HTX := Lib.hid htx
      have i1 : (j : Int) < (l.length : Int) := by omega
      have hbz := hb.size
      obtain ⟨at0, hat0⟩ : ∃ x, P.atomsOf st (l.take j) = x := ⟨_, rfl⟩
      rw [hat0] at HOWN HSN hal ⊢
      clear hb hown htx hat0 hpc
      cases tx with
      | nil =>
        obtain ⟨m, hm, hms, hmd⟩ := P.stroke_nat HSL.out hast
        have HMS := Lib.hid hms
        have HPA := Lib.hid (show P.pcAtoms st (((a : Int), (k : Int)), []) = [(1, P.raw (m : Int))] by rw [P.atoms_word rfl rfl, hmd])
        obtain ⟨gs, os, hgs, hgsl, cs⟩ := (HST.out.below HB.out).at a hast
        rw [hm] at cs
        subst hgs
        have i2 : (a : Int) < (st.length : Int) := by omega
        clear hms hm hmd
        obtain ⟨k0, k1⟩ := (HBX.out.below HB.out)
        go_wp2_with fail
        refine (l14Raw m _ HMS.out).mono ?_
        rintro e w2 ⟨rfl, hb2⟩
        have HX2 := Lib.hid hb2
        clear c0 c1 c2 cs k0 k1
        have HOW2 := Lib.hid (show (w2.alloc (.cells #[.int .i64 1, .string (S (P.raw (m : Int)))] 153)).ownsRow W.heap.size 153 2 (.slice va at0.length vc) at0.length (atomVals at0) from (own_kept HOWN.out HX2.out (Nat.le_refl _)).alloc _)
        have hzw2 : W.heap.size ≤ w2.heap.size := Nat.le_trans hbz HX2.out.size
        have hal2 : at0.length ≤ 600 := by omega
        clear hb2
        generalize P.raw (m : Int) = rw' at *
        go_wp2_with (at_builtin; refine wpList_append_own _ rfl _ _ 146 rfl W.heap.size 153 i0 (.agg #[.int .i64 0, .string ⟨#[]⟩]) 2 24 Tryz.underlying146 hi hz0 hz1 hz2 rfl (by decide) _ at0.length (atomVals at0) rfl HOW2.out ⟨w2.heap.size, 0, none⟩ 1 1 [.int .i64 1, .string (S rw')] rfl rfl ?_ ?_ ?_ ?_ ?_ ?_)
        all_goals first | exact ⟨rfl, rfl⟩ | (intro z hz; simp only [List.mem_cons, List.not_mem_nil, or_false] at hz; rcases hz with rfl | rfl <;> rfl) | (unfold maxLen; omega) | omega | (simp; omega) | (intro i z hz; rcases i with _ | _ | i; (injection hz with hz; subst hz; rw [add0]; go_simp); (injection hz with hz; subst hz; go_simp); cases hz) | skip
        intro v' w3 hown' hgrow _
        have R := Lib.hid (atoms_rel (x := (1, rw')) (w1 := w2) (o := (.cells #[.int .i64 1, .string (S rw')] 153)) (v := .slice va at0.length vc) hzw2 (own_kept HOWN.out HX2.out (Nat.le_refl _)) (HB.out.trans (HX2.out.mono hbz)) hown' hgrow)
        have HPC3 := Lib.hid (show OwnP W.heap.size w3 (.slice (some ⟨g, o, none⟩) l.length cap) l from World.ownsRow.kept ((own_kept HPC.out HX2.out (Nat.le_refl _)).alloc (.cells #[.int .i64 1, .string (S rw')] 153)) hgrow (pc_sep (own_kept HPC.out HX2.out (Nat.le_refl _)) (own_kept HOWN.out HX2.out (Nat.le_refl _))))
        clear hown' hgrow
        go_wp2
        go_roundw
        case rel =>
          exact ⟨j + 1, by omega, by go_num, by rw [HSN.out, HPA.out]; exact R.out.1, HPC3.out, R.out.2⟩
        case measure => simp [intOf]; omega
      | cons x tl =>
        have hok : (P.transS (x :: tl)).2 = true := HTX.out.resolve_left (by simp)
        have hl60 := P.trans_len60 hok
        have HOK := Lib.hid hok
        have HPA := Lib.hid (show P.pcAtoms st (((a : Int), (k : Int)), x :: tl) = (P.transS (x :: tl)).1 from P.atoms_trans (by simp))
        have hne2 : ((x :: tl : Str) == []) = false := rfl
        have hne3 : ¬ (x :: tl : Str) = [] := by simp
        generalize x :: tl = tx at *
        clear hok
        go_wp2_with fail
        refine (l5Parse tx _ (by omega)).mono ?_
        rintro e w1 ⟨pv, rfl, hpo, hb1⟩
        have hpo' := hpo HOK.out
        rw [HOK.out]
        have hbx : Below wr.heap.size wr w1 := hb1
        have HX1 := Lib.hid hbx
        have HSRC := Lib.hid (src_of_atoms hpo')
        have hml := P.transS_len tx
        have HOW1 := Lib.hid (own_kept HOWN.out hbx (Nat.le_refl _))
        obtain ⟨ma, mc, rfl⟩ := own_lenA hpo'
        have hz1' : W.heap.size ≤ w1.heap.size := Nat.le_trans hbz hbx.size
        have hal2 : at0.length ≤ 600 := by omega
        clear hb1 hbx hpo hpo' c0 c1 c2
        generalize (P.transS tx).1 = ma1 at *
        go_wp2_with (at_builtin; refine wpList_append_src rfl _ _ 146 rfl W.heap.size 153 i0 (.agg #[.int .i64 0, .string ⟨#[]⟩]) 2 24 Tryz.underlying146 hi hz0 hz1 hz2 rfl (by decide) _ at0.length (atomVals at0) rfl HOW1.out _ ma1.length (atomVals ma1) rfl HSRC.out ?_ ?_ ?_ ?_)
        · unfold maxLen; omega
        · omega
        · exact hz1'
        intro v' w3 hown' hgrow _
        have R := Lib.hid (atoms_more HOW1.out (HB.out.trans (HX1.out.mono hbz)) hown' hgrow)
        have HPC3 := Lib.hid (show OwnP W.heap.size w3 (.slice (some ⟨g, o, none⟩) l.length cap) l from World.ownsRow.kept (own_kept HPC.out HX1.out (Nat.le_refl _)) hgrow (pc_sep (own_kept HPC.out HX1.out (Nat.le_refl _)) HOW1.out))
        clear hown' hgrow
        go_wp2
        go_roundw
        case rel =>
          exact ⟨j + 1, by omega, by go_num, by rw [HSN.out, HPA.out]; exact R.out.1, HPC3.out, R.out.2⟩
        case measure => simp [intOf]; omega
    · have hjl : j = l.length := by omega
      have HTE := Lib.hid (show l.take j = l from List.take_of_length_le (by omega))
      rw [HTE.out] at HOWN
      have i1 : ¬ (j : Int) < (l.length : Int) := by omega
      clear hown hb hpc
      go_wp2
      go_ret
      exact ⟨_, rfl, by rw [HLE.out]; exact own_base HOWN.out HB00.out.size, HB00.out.trans (HB.out.mono HB00.out.size)⟩
end Go.Proofs.YtmlklnimoknojaaGreatDoor
