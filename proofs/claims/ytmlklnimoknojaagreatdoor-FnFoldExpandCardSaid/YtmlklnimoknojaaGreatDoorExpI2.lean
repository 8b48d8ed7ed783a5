/- Walks: a dictionary with entries for all folded outlines (program): the walk. -/
import Derived.Deep.DeepCutAuto
import Derived.Deep.RegionHeld
import Derived.Test.YtmlklnimoknojaaGreatDoorExpI
namespace Go.Proofs.YtmlklnimoknojaaGreatDoor
open Go Go.RowKit
set_option maxHeartbeats 4000000
set_option maxRecDepth 100000
/-- the box of the entry whose outline is folded -/
def EB0 (E : Nat) (x : Value) (v : World) : Prop := v.cell? ⟨E, 0, none⟩ = some x ∧ E < v.heap.size
theorem EB0.chg {E : Nat} {x : Value} {v v' : World} {X : Blk} (h : EB0 E x v) (hc : Chg X v v') (hX : ¬ X E) : EB0 E x v' :=
  ⟨(hc.cell (p := ⟨E, 0, none⟩) h.2 hX).trans h.1, Nat.lt_of_lt_of_le h.2 hc.size⟩
theorem EB0.below {E : Nat} {x : Value} {v v' : World} (h : EB0 E x v) (hb : Below v.heap.size v v') : EB0 E x v' := h.chg (Below.chg hb fun _ => False) (fun h => h)
theorem EB0.new (x : Value) (t : Str) (T : TypeId) (v : World) : EB0 v.heap.size x (v.alloc (.cells #[x, .string (S t)] T)) := by
  refine ⟨?_, ?_⟩ <;> go_simp
theorem impl_expandFolds (dv fv : Value) (d : P.Dic) (l : P.Folds) (w : World) (hd : EntR w dv d) (hf : FldR w fv l) (hs : Small d) (h29 : ∀ e ∈ d, e.2.length ≤ 2 ^ 29) (hft : ∀ f ∈ l, f.2.length ≤ 2 ^ 30) (hE : Env w) :
    Calls Tryz.prog 28 #[.agg #[dv], fv] w (DkPost (P.expOk d l) (P.expS d l) w) := by
  obtain ⟨i0, hi, hz0, hz1, hz2⟩ := info_parts info_ent
  have hb0 : Below w.heap.size w ((w.alloc (.cells #[dv] 26)).alloc (.cells #[.slice none 0 0] 26)) := ((Below.refl w.heap.size w).alloc (Nat.le_refl _) _).alloc (by simp) _
  have HD := Lib.hid hd; have HFR := Lib.hid hf; have HB0 := Lib.hid hb0; have HEV0 := Lib.hid hE
  have HX := Lib.hid ((DBx.new dv 26 w).below ((Below.refl _ _).alloc (Nat.le_refl _) (.cells #[.slice none 0 0] 26)))
  have HR := Lib.hid (show DBx (w.heap.size + 1) (.slice none 0 0) ((w.alloc (.cells #[dv] 26)).alloc (.cells #[.slice none 0 0] 26)) by
    have h := DBx.new (.slice none 0 0) 26 (w.alloc (.cells #[dv] 26)); simpa using h)
  have HS := Lib.hid hs; have H29 := Lib.hid h29; have HFT := Lib.hid hft
  have HEX := Lib.hid (show P.expOk d l = (P.dic d && (P.foldsOk l && P.dic (P.expS d l))) from rfl)
  clear hb0 hs h29 hft hE
  obtain ⟨ad, cap, rfl, _, _⟩ := hd
  obtain ⟨fa, fc, rfl, ⟨hl45, _⟩, _, _⟩ := hf
  go_enter Tryz.func28, Tryz.ntmps28
  go_wp2_with fail
  refine (isValidDictionary _ d _ (HD.out.below HB0.out) HS.out.texts (HEV0.out.below HB0.out HEV0.out.size)).mono ?_
  rintro e w1 ⟨rfl, hb⟩
  have HB1 := Lib.hid (HB0.out.trans (hb.mono HB0.out.size)); have HX1 := Lib.hid (HX.out.below hb); have HR1 := Lib.hid (HR.out.below hb)
  clear hb HB0 HX HR
  obtain ⟨q, hq⟩ : ∃ q, P.dic d = q := ⟨_, rfl⟩
  have HQ := Lib.hid hq
  rw [hq]
  clear hq
  cases q
  · have hno : P.expOk d l = false := by rw [HEX.out, HQ.out]; rfl
    have HNO := Lib.hid hno
    obtain ⟨r0, r1, r2⟩ := HR1.out
    clear hno
    go_wp2
    refine bodyPost_ret (v := .tuple #[.agg #[.slice none 0 0], .bool false]) (by simp [results, Tryz.results28, go_sem, r0]) rfl ⟨_, by rw [HNO.out], by rw [HNO.out]; exact RowO.nil _ _, HB1.out.setCell (by simp) _⟩
  · go_wp2_with fail
    refine (isValidFolds _ l _ (HFR.out.below HB1.out) HFT.out).mono ?_
    rintro e w2 ⟨rfl, hb⟩
    have HB2 := Lib.hid (HB1.out.trans (hb.mono HB1.out.size)); have HX2 := Lib.hid (HX1.out.below hb); have HR2 := Lib.hid (HR1.out.below hb)
    clear hb HB1 HX1 HR1
    obtain ⟨q, hq⟩ : ∃ q, P.foldsOk l = q := ⟨_, rfl⟩
    have HQF := Lib.hid hq
    rw [hq]
    clear hq
    cases q
    · have hno : P.expOk d l = false := by rw [HEX.out, HQ.out, HQF.out]; rfl
      have HNO := Lib.hid hno
      obtain ⟨r0, r1, r2⟩ := HR2.out
      clear hno
      go_wp2
      refine bodyPost_ret (v := .tuple #[.agg #[.slice none 0 0], .bool false]) (by simp [results, Tryz.results28, go_sem, r0]) rfl ⟨_, by rw [HNO.out], by rw [HNO.out]; exact RowO.nil _ _, HB2.out.setCell (by simp) _⟩
    · have HDL := Lib.hid (P.dic_len HQ.out)
      have HL6 := Lib.hid (show l.length ≤ 6 by have h := HQF.out; unfold P.foldsOk at h; simp only [Bool.and_eq_true, decide_eq_true_eq] at h; omega)
      have HFO := Lib.hid (show ∀ f ∈ l, P.fold f = true by have h := HQF.out; unfold P.foldsOk at h; simp only [Bool.and_eq_true, List.all_eq_true] at h; exact h.2.1)
      have HOV := Lib.hid (show ∀ e ∈ d, P.outline e.1 = true from fun e he => by
        have h := HQ.out
        unfold P.dic at h
        simp only [Bool.and_eq_true, List.all_eq_true] at h
        have h2 := h.2.1 e he
        unfold P.entry at h2
        simp only [Bool.and_eq_true] at h2
        exact h2.1)
      have HOUT := Lib.hid (show ∀ e ∈ d, e.1.length ≤ 6 from fun e he => by
        have h3 := HOV.out e he
        unfold P.outline at h3
        simp only [Bool.and_eq_true, decide_eq_true_eq] at h3
        omega)
      have HUP := Lib.hid (show P.Up d from P.up_of_dic HQ.out)
      obtain ⟨k0, _⟩ := HX2.out
      go_wp2_with fail
      refine (dictionaryOf_own _ d _ (HD.out.below HB2.out) HUP.out HS.out.len HS.out.outs).mono ?_
      rintro e w3 ⟨u, xs, rfl, hO, hb⟩
      have hba : Below w3.heap.size w3 (w3.alloc (.cells #[u] 26)) := (Below.refl _ _).alloc (Nat.le_refl _) _
      have hb2 := hb.trans (hba.mono hb.size)
      have hz2 : w.heap.size + 2 ≤ w2.heap.size := HR2.out.2.2
      have HE := Lib.hid (show ∃ (its : List EIt) (F : Blk), its.map (·.1.2) = d ∧ EIm w (w2.heap.size + 1) w3.heap.size (.slice ad d.length cap) u its F (w3.alloc (.cells #[u] 26)) from by
        have hz3 := hb.size
        by_cases hn : 0 < d.length
        · obtain ⟨g, gc, its, rfl, hgB, hg, _, hm, hx, hok⟩ := Ents.whole_items (hO.row (by have := HDL.out; omega)) hO.owns hn
          have hlen : its.length = d.length := by rw [← hm, List.length_map]
          refine ⟨its, _, hm, HX2.out.below hb2, HR2.out.below hb2, DBx.new _ _ _, ?_, hok.keep ⟨hba.size, fun b hF => hba.block b hF.1.2⟩, ?_, ?_, ⟨by omega, by omega⟩, HB2.out.trans (hb2.mono HB2.out.size)⟩
          · rw [hlen, ← hx]; exact owns_stand hO.owns (Below.chg hba fun _ => False) (fun _ _ h => h)
          · rintro b ⟨⟨h1, h2⟩, h3⟩
            exact ⟨by omega, by simp; omega, by omega, fun e => by injection e with e; exact h3 e.symm⟩
          · exact fun e => by injection e with e; have e2 : g = w3.heap.size := e; omega
        · have hd0 : d = [] := List.eq_nil_of_length_eq_zero (by omega)
          subst hd0
          refine ⟨[], fun _ => False, rfl, HX2.out.below hb2, HR2.out.below hb2, DBx.new _ _ _, ?_, ⟨(fun _ h => by cases h), (fun _ h => by cases h), List.Pairwise.nil⟩, (fun _ h => h.elim), ?_, ⟨by omega, by omega⟩, HB2.out.trans (hb2.mono HB2.out.size)⟩
          · have h := owns_stand hO.owns (Below.chg hba fun _ => False) (fun _ _ h => h)
            have hx0 : xs = [] := by have := h.1; simpa using this
            rw [hx0] at h
            exact h
          · exact fun e => by have := (World.ownsRow.lt hO.owns _ e).2; omega)
      obtain ⟨ua, uc, rfl⟩ := hO.form
      have HE0z := Lib.hid (show w2.heap.size ≤ w3.heap.size from hb.size)
      clear hO hb hba hb2 hz2 k0 HB2 HX2 HR2
      obtain ⟨its0, F0, hm0, he0⟩ := HE.out
      obtain ⟨k0, _⟩ := he0.bd
      have HE0 := Lib.hid he0
      clear he0 HE
      go_wp2_with fail
      go_loopw [32] (fun i wr => ∃ (j : Nat) (u : Value) (its : List EIt) (F : Blk), j ≤ d.length ∧ i = .int .i64 j ∧ its.map (·.1.2) = (d.take j).foldl (P.rowI d l l) d ∧ its.length ≤ 40 + 6 * j ∧ (∀ t ∈ its, t.1.2.1.length ≤ 6) ∧ EIm w (w2.heap.size + 1) w3.heap.size (.slice ad d.length cap) u its F wr) (fun i _ => d.length - (intOf i).toNat)
      case atStart => exact ⟨0, _, its0, F0, by omega, rfl, hm0, by have h := congrArg List.length hm0; rw [List.length_map] at h; have := HDL.out; omega, fun t ht => HOUT.out _ (by rw [← hm0]; exact List.mem_map_of_mem ht), HE0.out⟩
      case round =>
        clear HE0 k0
        obtain ⟨j, u, its, F, hj, rfl, hout, hol, ho6, he⟩ := hrel
        have HOT := Lib.hid hout; have HO6 := Lib.hid ho6; have HE := Lib.hid he
        have HWR := Lib.hid (show w.heap.size + 2 ≤ wr.heap.size by have h1 := he.bo.2.2; have h2 := he.low.2; omega)
        clear hout ho6
        by_cases hlt : j < d.length
        · have i1 : (j : Int) < (d.length : Int) := by omega
          have HEV := Lib.hid (HOV.out _ (List.getElem_mem hlt))
          have HTK := Lib.hid (P.foldl_take_succ (P.rowI d l l) d d j hlt)
          obtain ⟨g, p, hga, hgl, x, c0w, c1w, hx⟩ := (HD.out).at j hlt
          have c0 := (he.bel.cell (p := ⟨g, p + j * 2, none⟩) hgl).trans c0w
          have c1 := (he.bel.cell (p := ⟨g, p + j * 2 + 1, none⟩) hgl).trans c1w
          clear c0w c1w
          subst hga
          have HXX := Lib.hid hx
          obtain ⟨xa, xc, rfl, _, _⟩ := id hx
          generalize d[j] = en at *
          obtain ⟨eo, et⟩ := en
          simp only at HEV HXX c0 c1
          have hba : Below wr.heap.size wr (wr.alloc (.cells #[.slice xa eo.length xc, .string (S et)] 47)) := (Below.refl _ _).alloc (Nat.le_refl _) _
          have HE1 := Lib.hid (HE.out.below hba)
          have HB01 := Lib.hid (EB0.new (.slice xa eo.length xc) et 47 wr)
          have HNE := Lib.hid (show u.ownBlock ≠ some wr.heap.size from fun e => by have := (World.ownsRow.lt HE.out.own _ e).2; omega)
          have HBE := Lib.hid (show w3.heap.size < wr.heap.size from HE.out.bo.2.2)
          clear he hx hgl hba HE
          go_wp2_with fail
          go_loopw [38] (fun i wx => ∃ (b : Nat) (u : Value) (it2 : List EIt) (F : Blk), b ≤ l.length ∧ i = .int .i64 b ∧ it2.map (·.1.2) = (l.take b).foldl (P.foI d l eo) (its.map (·.1.2)) ∧ it2.length ≤ 40 + 6 * j + b ∧ (∀ t ∈ it2, t.1.2.1.length ≤ 6) ∧ EIm w (w2.heap.size + 1) w3.heap.size (.slice (some ⟨g, p, none⟩) d.length cap) u it2 F wx ∧ EB0 wr.heap.size (.slice xa eo.length xc) wx ∧ u.ownBlock ≠ some wr.heap.size) (fun i _ => l.length - (intOf i).toNat)
          case atStart => exact ⟨0, u, its, F, by omega, rfl, rfl, by omega, HO6.out, HE1.out, HB01.out, HNE.out⟩
          case round =>
            clear HE1 HB01 HNE c0 c1
            obtain ⟨b, u2, it2, F2, hb, rfl, hm2, hl2, h62, he, hbx, hne2⟩ := hrel
            have HM2 := Lib.hid hm2; have H62 := Lib.hid h62; have HE := Lib.hid he; have HBX := Lib.hid hbx; have HN2 := Lib.hid hne2
            clear hm2 h62 hne2
            by_cases hlb : b < l.length
            · have i2 : (b : Int) < (l.length : Int) := by omega
              obtain ⟨gf, pf, hgf, hfl, f0, f1⟩ := (HFR.out.below he.bel).at b hlb
              subst hgf
              have HFB := Lib.hid (HFO.out _ (List.getElem_mem hlb))
              have HTK2 := Lib.hid (P.foldl_take_succ (P.foI d l eo) (its.map (·.1.2)) l b hlb)
              generalize l[b] = fn at *
              obtain ⟨key, s⟩ := fn
              obtain ⟨key, rfl, hk1, hk2, hs8⟩ := P.fold_key HFB.out
              simp only at HTK2 f0 f1
              have hba : Below wr.heap.size wr (wr.alloc (.cells #[.int .i64 (key : Int), .string (S s)] 115)) := (Below.refl _ _).alloc (Nat.le_refl _) _
              have HE1 := Lib.hid (HE.out.below hba); have HBX1 := Lib.hid (HBX.out.below hba)
              have HFX := Lib.hid (FBx.new (key : Int) s 115 wr)
              have bx0 := hbx.1
              have bx1 := hbx.2
              clear he hbx hba HE HBX
              go_wp2_with fail
              refine (foldInto key s _ eo _ (HXX.out.below HE1.out.bel) HEV.out HFB.out).mono ?_
              rintro e v1 ⟨x, rfl, hI, hb1⟩
              have HI1 := Lib.hid hI; have HB1 := Lib.hid hb1
              have HE2 := Lib.hid (HE1.out.below hb1); have HBX2 := Lib.hid (HBX1.out.below hb1)
              clear hI hb1 HFX f0 f1 bx0 bx1 HBX1
              obtain ⟨r, hr⟩ : ∃ r, P.into (key : Int) eo = r := ⟨_, rfl⟩
              have HRR := Lib.hid hr
              rw [hr] at HI1 ⊢
              clear hr
              cases r with
              | none =>
                have HN := Lib.hid (P.foI_none (out := it2.map (·.1.2)) (P.cand_none (d := d) (l := l) (f := ((key : Int), s)) HRR.out))
                obtain ⟨ya, yc, rfl, _, _⟩ := id HI1.out
                go_wp2
                go_roundw
                case rel => exact ⟨b + 1, u2, it2, F2, by omega, by go_num, by rw [HTK2.out, ← HM2.out, HN.out], by omega, H62.out, HE2.out, HBX2.out, HN2.out⟩
                case measure => simp [intOf]; omega
              | some q =>
                simp only [Option.isSome_some, Option.getD_some] at HI1 ⊢
                obtain ⟨hqo, hql⟩ := P.into_outline HEV.out hk2 HRR.out
                have HQO := Lib.hid hqo
                have hq6 : q.length ≤ 6 := by have h := hqo; unfold P.outline at h; simp only [Bool.and_eq_true, decide_eq_true_eq] at h; omega
                have HCS := Lib.hid (P.cand_some (d := d) (l := l) (f := ((key : Int), s)) HRR.out)
                have HOLD := Lib.hid (fun h => P.foI_old (d := d) (l := l) (f := ((key : Int), s)) (out := it2.map (·.1.2)) HRR.out h)
                clear hqo hql
                obtain ⟨ya, yc, rfl, _, _⟩ := id HI1.out
                obtain ⟨b0, _⟩ := HE2.out.bo
                obtain ⟨sa, sc, rfl⟩ := HE2.out.form
                have hlm : (it2.map (·.1.2)).length = it2.length := List.length_map _
                have HRD := Lib.hid (HE2.out.read (by have := HDL.out; have := HL6.out; omega))
                have HLM := Lib.hid hlm
                clear hlm
                go_wp2_with fail
                refine (dicFind _ _ (it2.map (·.1.2)) q _ HRD.out (Ints.read HI1.out)).mono ?_
                rintro e v2 ⟨rfl, hb2⟩
                have HE3 := Lib.hid (HE2.out.below hb2); have HBX3 := Lib.hid (HBX2.out.below hb2); have HI2 := Lib.hid (HI1.out.below intE_ok hb2); have HB2 := Lib.hid (HB1.out.trans (hb2.mono HB1.out.size)); have HSV := Lib.hid (show v1.heap.size ≤ v2.heap.size from hb2.size)
                clear hb2 b0 HE2 HBX2 HRD
                obtain ⟨pl, hpl⟩ : ∃ pl, P.place q (it2.map (·.1.2)) = pl := ⟨_, rfl⟩
                have HPL := Lib.hid hpl
                rw [hpl]
                clear hpl
                by_cases hp0 : 0 ≤ pl
                · have HN := Lib.hid (HOLD.out (by unfold P.hasE; rw [HPL.out, decide_eq_true hp0]))
                  go_wp2
                  go_roundw
                  case rel => exact ⟨b + 1, _, it2, F2, by omega, by go_num, by rw [HTK2.out, ← HM2.out, HN.out], by omega, H62.out, HE3.out, HBX3.out, HN2.out⟩
                  case measure => simp [intOf]; omega
                · have HHN := Lib.hid (show P.hasE q (it2.map (·.1.2)) = false by unfold P.hasE; rw [HPL.out, decide_eq_false hp0])
                  obtain ⟨k0, _⟩ := HE3.out.bd
                  go_wp2_with fail
                  refine (lookupFolded _ _ _ d l q _ (HD.out.below HE3.out.bel) (HFR.out.below HE3.out.bel) (Ints.read HI2.out) H29.out HQO.out HQF.out (HEV0.out.below HE3.out.bel HEV0.out.size)).mono ?_
                  rintro e v3 ⟨rfl, hb3⟩
                  have HE4 := Lib.hid (HE3.out.below hb3); have HBX4 := Lib.hid (HBX3.out.below hb3); have HI3 := Lib.hid (HI2.out.below intE_ok hb3); have HB3 := Lib.hid (HB2.out.trans (hb3.mono HB2.out.size)); have HV13 := Lib.hid (show v1.heap.size ≤ v3.heap.size from Nat.le_trans HSV.out hb3.size)
                  clear hb3 k0 HE3 HBX3 HI2 HB2
                  obtain ⟨r3, hr3⟩ : ∃ r, P.lookF d l q = r := ⟨_, rfl⟩
                  rw [hr3] at HCS
                  rw [hr3]
                  clear hr3
                  obtain ⟨tx, at', fd⟩ := r3
                  simp only at HCS ⊢
                  by_cases hfd : fd = true ∧ 0 ≤ at'
                  · obtain ⟨rfl, hat'⟩ := hfd
                    have HC := Lib.hid (show P.cand d l eo ((key : Int), s) = some (q, tx) by rw [HCS.out, decide_eq_true hat']; rfl)
                    have HSO := Lib.hid (P.foI_new (out := it2.map (·.1.2)) HC.out HHN.out)
                    have hbl : Below v3.heap.size v3 (v3.alloc (.cells #[.slice ya q.length yc, .string (S tx)] 47)) := (Below.refl _ _).alloc (Nat.le_refl _) _
                    have HBL := Lib.hid hbl
                    have HOW := Lib.hid (owns_stand HE4.out.own (Below.chg hbl fun _ => False) (fun _ _ h => h))
                    have HZ3 := Lib.hid (show w2.heap.size + 1 ≤ v3.heap.size by have h1 := HE4.out.bo.2.2; have h2 := HBE.out; have h3 := HE4.out.low; have h4 := HE0z.out; omega)
                    obtain ⟨b0, b1, b2⟩ := HE4.out.bo
                    clear hbl
                    go_wp2_with (at_builtin; refine wpList_append_lies _ rfl _ _ 24 rfl (w2.heap.size + 1) 47 i0 (.agg #[.slice none 0 0, .string ⟨#[]⟩]) 2 40 Tryz.underlying24 hi hz0 hz1 hz2 rfl (by decide) (.slice sa it2.length sc) it2.length (ecells it2) rfl HOW.out ⟨v3.heap.size, 0, none⟩ 1 1 [.slice ya q.length yc, .string (S tx)] rfl rfl ?_ ?_ (Nat.zero_lt_one) ?_ ?_ ?_ _ rfl ?_)
                    · intro i y hy
                      match i, hy with
                      | 0, hy => injection hy with hy; subst hy; rw [add0]; go_simp
                      | 1, hy => injection hy with hy; subst hy; rw [add0]; go_simp
                    · intro y hy
                      simp only [List.mem_cons, List.not_mem_nil, or_false] at hy
                      rcases hy with rfl | rfl <;> rfl
                    · unfold maxLen; have := HDL.out; have := HL6.out; omega
                    · have := HDL.out; have := HL6.out; omega
                    · have h1 := HZ3.out; simp; omega
                    intro g1 cap1 v4 hown hgr hat hlt3
                    have hcg : Chg (fun b => (Value.slice sa it2.length sc).ownBlock = some b) _ v4 := Chg.grown hgr
                    obtain ⟨d0, d1, d2⟩ := (HE4.out.bo.below HBL.out).stand hcg (fun e => HE4.out.nb e)
                    have hset : Chg (fun b => b = w3.heap.size) v4 (v4.setCell ⟨w3.heap.size, 0, none⟩ (.slice (some ⟨g1, 0, none⟩) (it2.length + 1) cap1)) := (Chg.refl (fun b => b = w3.heap.size) v4).setCell (p := ⟨w3.heap.size, 0, none⟩) rfl _
                    have HBX5 := Lib.hid (((HBX4.out.below HBL.out).chg hcg (fun e => HN2.out e)).chg hset (fun e => by have := HBE.out; omega))
                    have HAP := Lib.hid (HE1.out.app (t := tx) HB3.out (RowO.wide HI3.out (fun b hb => ⟨hb.1, Nat.lt_of_lt_of_le hb.2 HV13.out⟩) (fun b hb => hb.2)) HBL.out hown hgr (hat.imp id fun e => by rw [e]; simp))
                    have HN5 := Lib.hid (show (Value.slice (some ⟨g1, 0, none⟩) (it2.length + 1) cap1).ownBlock ≠ some _ from fun e => by
                      injection e with e
                      rcases hat with e2 | e2
                      · exact HN2.out (e2.trans (congrArg some e))
                      · have h1 := HBX4.out.2; have h2 : g1 = _ := e; omega)
                    have HL62 := Lib.hid (show ∀ t ∈ it2 ++ [((Value.slice ya q.length yc, (q, tx)), Bet (wr.alloc (.cells #[.int .i64 (key : Int), .string (S s)] 115)).heap.size v3.heap.size)], t.1.2.1.length ≤ 6 from fun t ht => by
                      rcases List.mem_append.1 ht with ht | ht
                      · exact H62.out t ht
                      · simp only [List.mem_cons, List.not_mem_nil, or_false] at ht
                        subst ht; exact hq6)
                    clear hown hgr hat hlt3 hcg hset b0 HE4 HBX4 HI3 HOW HBL
                    obtain ⟨F3, hap⟩ := HAP.out
                    have HA := Lib.hid hap
                    clear hap HAP
                    go_wp2
                    go_roundw
                    case rel => exact ⟨b + 1, _, _, F3, by omega, by go_num, by rw [List.map_append, HTK2.out, ← HM2.out, HSO.out]; rfl, by rw [List.length_append]; simp; omega, HL62.out, HA.out, HBX5.out, HN5.out⟩
                    case measure => simp [intOf]; omega
                  · have HC := Lib.hid (show P.cand d l eo ((key : Int), s) = none by
                      rw [HCS.out]
                      cases fd with
                      | false => rfl
                      | true => rw [decide_eq_false (fun h => hfd ⟨rfl, h⟩)]; rfl)
                    have HN := Lib.hid (P.foI_none (out := it2.map (·.1.2)) HC.out)
                    cases fd with
                    | false =>
                      clear hfd
                      go_wp2
                      go_roundw
                      case rel => exact ⟨b + 1, _, it2, F2, by omega, by go_num, by rw [HTK2.out, ← HM2.out, HN.out], by omega, H62.out, HE4.out, HBX4.out, HN2.out⟩
                      case measure => simp [intOf]; omega
                    | true =>
                      have hat' : ¬ 0 ≤ at' := fun h => hfd ⟨rfl, h⟩
                      clear hfd
                      go_wp2
                      go_roundw
                      case rel => exact ⟨b + 1, _, it2, F2, by omega, by go_num, by rw [HTK2.out, ← HM2.out, HN.out], by omega, H62.out, HE4.out, HBX4.out, HN2.out⟩
                      case measure => simp [intOf]; omega
            · have i2 : ¬ (b : Int) < (l.length : Int) := by omega
              have HTA := Lib.hid (show l.take b = l from List.take_of_length_le (by omega))
              have hb6 : b ≤ 6 := by have := HL6.out; omega
              clear he hbx
              go_wp2
              go_roundw
              case rel => exact ⟨j + 1, u2, it2, F2, by omega, by go_num, by rw [HTK.out, ← HOT.out, HM2.out, HTA.out]; rfl, by omega, H62.out, HE.out⟩
              case measure => simp [intOf]; omega
        · have i1 : ¬ (j : Int) < (d.length : Int) := by omega
          have HTA := Lib.hid (show d.take j = d from List.take_of_length_le (by omega))
          have HXP := Lib.hid (show its.map (·.1.2) = P.expI d l by rw [HOT.out, HTA.out]; rfl)
          have HBS := Lib.hid (P.beside_all (l := l) (P.pair_of_dic HQ.out))
          have HPR := Lib.hid (P.exp_ne (l := l) (P.pair_of_dic HQ.out))
          have HRD := Lib.hid (he.read (by have := HDL.out; omega))
          have HTX := Lib.hid (show ∀ e ∈ P.expS d l, e.2.length ≤ 2 ^ 30 from fun e he' => foldtext_len H29.out HFO.out (HBS.out.gd e he'))
          obtain ⟨ua, uc, rfl⟩ := he.form
          obtain ⟨b0, _⟩ := he.bo
          have HL20 := Lib.hid (show (its.map (·.1.2)).length ≤ 2 ^ 20 by rw [List.length_map]; have := HDL.out; omega)
          have HO20 := Lib.hid (show ∀ e ∈ its.map (·.1.2), e.1.length ≤ 2 ^ 20 from fun e he2 => by obtain ⟨t, ht, rfl⟩ := List.mem_map.1 he2; have := HO6.out t ht; omega)
          have HLM := Lib.hid (show (its.map (·.1.2)).length = its.length from List.length_map _)
          clear he
          go_wp2_with fail
          refine (dictionaryOf_as _ (its.map (·.1.2)) (P.expS d l) _ HRD.out HL20.out HO20.out HBS.out.up (fun x => by rw [HXP.out]; exact HBS.out.pm.mem_iff) (by rw [HXP.out]; exact HPR.out)).mono ?_
          rintro e w8 ⟨u8, rfl, hI, hb⟩
          have hba : Below w8.heap.size w8 (w8.alloc (.cells #[u8] 26)) := (Below.refl _ _).alloc (Nat.le_refl _) _
          have HE8 := Lib.hid ((HE.out.below hb).below hba)
          have HI := Lib.hid hI
          have HW8 := Lib.hid (show wr.heap.size ≤ w8.heap.size from hb.size)
          obtain ⟨u8d, u8c, rfl, _, _⟩ := hI
          have HI2 := Lib.hid (show Ents _ _ _ (P.expS d l) from HI.out.below entE_ok hba)
          have HX8 := Lib.hid (DBx.new (.slice u8d (P.expS d l).length u8c) 26 w8)
          have HEV8 := Lib.hid (HEV0.out.below HE8.out.bel HEV0.out.size)
          clear hb hba b0 HE HI HRD
          go_wp2_with fail
          refine (isValidDictionary _ (P.expS d l) _ (Ents.read HI2.out) HTX.out HEV8.out).mono ?_
          rintro e w9 ⟨rfl, hb⟩
          have HE9 := Lib.hid (HE8.out.below hb); have HI3 := Lib.hid (HI2.out.below entE_ok hb); have HX9 := Lib.hid (HX8.out.below hb)
          have HZ9 := Lib.hid (show w8.heap.size < w9.heap.size by have := hb.size; simp at this; omega)
          clear hb HE8 HI2 HX8
          obtain ⟨q, hq⟩ : ∃ q, P.dic (P.expS d l) = q := ⟨_, rfl⟩
          have HQ9 := Lib.hid hq
          rw [hq]
          clear hq
          obtain ⟨r0, r1, r2⟩ := HE9.out.br
          obtain ⟨b0, b1, b2⟩ := HX9.out
          have HLO := Lib.hid (show w.heap.size + 2 ≤ w8.heap.size by have h1 := HW8.out; have h2 := HWR.out; omega)
          cases q
          · have hno : P.expOk d l = false := by rw [HEX.out, HQ.out, HQF.out, HQ9.out]; rfl
            have HNO := Lib.hid hno
            clear hno
            go_wp2
            refine bodyPost_ret (v := .tuple #[.agg #[.slice none 0 0], .bool false]) (by simp [results, Tryz.results28, go_sem, r0]) rfl ⟨_, by rw [HNO.out], by rw [HNO.out]; exact RowO.nil _ _, HE9.out.bel.setCell (by simp) _⟩
          · have hno : P.expOk d l = true := by rw [HEX.out, HQ.out, HQF.out, HQ9.out]; rfl
            have HNO := Lib.hid hno
            clear hno
            go_wp2
            refine bodyPost_ret (v := .tuple #[.agg #[.slice u8d (P.expS d l).length u8c], .bool true]) (by simp [results, Tryz.results28, go_sem, r0]) rfl ⟨.slice u8d (P.expS d l).length u8c, by rw [HNO.out], ?_, HE9.out.bel.setCell (by simp) _⟩
            rw [HNO.out, dic_kept rfl]
            refine ents_done (w.heap.size + 1) HI3.out fun b hb => ?_
            have h1 := hb.1; have h2 := hb.2; have h3 := HZ9.out; have h4 := HLO.out; have h5 := HWR.out
            omega
end Go.Proofs.YtmlklnimoknojaaGreatDoor
