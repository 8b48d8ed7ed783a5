/- Walks: the entries that a fold overrides (program). -/
import Derived.Deep.DeepCutAuto
import Derived.Deep.RegionHeld
import Derived.Test.YtmlklnimoknojaaGreatDoorFold4
import Derived.Test.YtmlklnimoknojaaGreatDoorOuts
namespace Go.Proofs.YtmlklnimoknojaaGreatDoor
namespace P
def oversT (d : Dic) (l : Folds) (m : Dic) : Outs := (m.filter fun e => l.any fun f => over d f e.1).map (·.1)
theorem oversT_snoc (d : Dic) (l : Folds) (m : Dic) (e : Ent) : oversT d l (m ++ [e]) = oversT d l m ++ if l.any (fun f => over d f e.1) then [e.1] else [] := by
  unfold oversT
  rw [List.filter_append, List.map_append]
  congr 1
  cases h : l.any (fun f => over d f e.1) <;> simp [h]
theorem oversT_len (d : Dic) (l : Folds) (m : Dic) : (oversT d l m).length ≤ m.length := by
  unfold oversT; rw [List.length_map]; exact List.length_filter_le _ _
end P
open Go Go.RowKit
set_option maxHeartbeats 4000000
set_option maxRecDepth 100000
theorem over_step (k : Nat) (s : Str) (C D : Nat) (xv dv : Value) (eo : List Int) (d : P.Dic) (w : World) (hC : w.cell? ⟨C, 0, none⟩ = some xv) (hD : w.cell? ⟨D, 0, none⟩ = some dv) (hx : IntR w xv eo) (hd : EntR w dv d) (ho : P.outline eo = true) (hk : k ≤ 22) :
    Calls Tryz.prog 89 #[.agg #[.int .i64 (k : Int), .string (S s)], .pointer (some ⟨C, 0, none⟩), .pointer (some ⟨D, 0, none⟩)] w fun e w' => e = .returned (.bool (P.over d ((k : Int), s) eo)) ∧ Below w.heap.size w w' := by
  have hb0 := (Below.refl w.heap.size w).alloc (Nat.le_refl _) (.cells #[.int .i64 (k : Int), .string (S s)] 115)
  have HX := Lib.hid (hx.below hb0); have HDD := Lib.hid (hd.below hb0)
  have hC' := (hb0.cell (p := ⟨C, 0, none⟩) (World.block_lt_of_cell? w _ hC)).trans hC
  have HD' := Lib.hid ((hb0.cell (p := ⟨D, 0, none⟩) (World.block_lt_of_cell? w _ hD)).trans hD)
  have HDL := Lib.hid (World.block_lt_of_cell? _ _ HD'.out)
  have HB0 := Lib.hid hb0; have HOL := Lib.hid ho
  obtain ⟨xd, xc, rfl, _, _⟩ := hx
  obtain ⟨dd, dc, rfl, _, _⟩ := hd
  clear hb0 hC hD ho
  go_enter Tryz.func89, Tryz.ntmps89
  go_wp2_with fail
  refine (unfoldF k s _ eo _ HX.out HOL.out hk).mono ?_
  rintro e w1 ⟨x, rfl, hI, hb⟩
  have hD1 := (hb.cell (p := ⟨D, 0, none⟩) HDL.out).trans HD'.out
  have HD1 := Lib.hid (HDD.out.below hb); have HB1 := Lib.hid (HB0.out.trans (hb.mono HB0.out.size))
  have HI := Lib.hid hI
  clear hb hI hC' HD' HDD HB0
  obtain ⟨r, hr⟩ : ∃ r, P.unf (k : Int) eo = r := ⟨_, rfl⟩
  have hov : P.over d ((k : Int), s) eo = (match P.unf (k : Int) eo with | none => false | some q => P.hasE q d) := rfl
  rw [hr] at hov
  have HOV := Lib.hid hov
  rw [hr] at HI ⊢
  clear hr hov
  cases r with
  | none =>
    obtain ⟨ya, yc, rfl, _, _⟩ := id HI.out
    go_wp2
    go_ret
    exact ⟨ret_bool (by rw [HOV.out]), HB1.out⟩
  | some q =>
    simp only [Option.isSome_some, Option.getD_some] at HI ⊢
    obtain ⟨ya, yc, rfl, _, _⟩ := id HI.out
    go_wp2_with fail
    refine (dicFind _ _ d q _ HD1.out (Ints.read HI.out)).mono ?_
    rintro e w2 ⟨rfl, hb2⟩
    have HB2 := Lib.hid (HB1.out.trans (hb2.mono HB1.out.size))
    clear hb2
    go_wp2
    go_ret
    exact ⟨ret_bool (by rw [HOV.out]; rfl), HB2.out⟩
theorem indexFold (fv xv dv : Value) (l : P.Folds) (d : P.Dic) (eo : List Int) (C D : Nat) (w : World) (hf : FldR w fv l) (hC : w.cell? ⟨C, 0, none⟩ = some xv) (hD : w.cell? ⟨D, 0, none⟩ = some dv) (hx : IntR w xv eo) (hd : EntR w dv d) (ho : P.outline eo = true) (hfo : ∀ f ∈ l, P.fold f = true) :
    Calls Tryz.prog 153 #[fv, .func (Fn.func 89) #[] #[.pointer (some ⟨C, 0, none⟩), .pointer (some ⟨D, 0, none⟩)]] w fun e w' => (∃ i : Int, e = .returned (.int .i64 i) ∧ decide (0 ≤ i) = l.any (fun f => P.over d f eo)) ∧ Below w.heap.size w w' := by
  have HF := Lib.hid hf; have HX := Lib.hid hx; have HD := Lib.hid hd
  have HC := Lib.hid hC; have HDC := Lib.hid hD
  have HCL := Lib.hid (World.block_lt_of_cell? w _ hC); have HDL := Lib.hid (World.block_lt_of_cell? w _ hD)
  have HOL := Lib.hid ho; have HFO := Lib.hid hfo
  obtain ⟨fa, fc, rfl, ⟨hl45, _⟩, _, _⟩ := hf
  clear hx hd hC hD ho hfo
  go_enter Tryz.func153, Tryz.ntmps153
  go_wp2
  go_loopw [5, 8] (fun _ i wr => ∃ j : Nat, j ≤ l.length ∧ i = .int .i64 j ∧ (∀ f ∈ l.take j, P.over d f eo = false) ∧ Below w.heap.size w wr) (fun _ i _ => l.length - (intOf i).toNat)
  case atStart => exact ⟨0, Nat.zero_le _, rfl, (fun f h => by simp at h), Below.refl _ _⟩
  case round =>
    obtain ⟨j, hj, rfl, hn, hb⟩ := hrel
    have HN := Lib.hid hn; have HB := Lib.hid hb
    clear hn
    by_cases hlt : j < l.length
    · obtain ⟨g, p, hga, hgl, c0, c1⟩ := (HF.out.below hb).at j hlt
      have HX2 := Lib.hid (HX.out.below hb); have HD2 := Lib.hid (HD.out.below hb)
      have HC2 := Lib.hid ((hb.cell (p := ⟨C, 0, none⟩) HCL.out).trans HC.out); have HDC2 := Lib.hid ((hb.cell (p := ⟨D, 0, none⟩) HDL.out).trans HDC.out)
      have HHIT := Lib.hid (show P.over d l[j] eo = true → decide (0 ≤ (j : Int)) = l.any (fun f => P.over d f eo) from fun h => by
        rw [decide_eq_true (by omega)]
        exact (List.any_eq_true.2 ⟨_, List.getElem_mem hlt, h⟩).symm)
      have HMISS := Lib.hid (show P.over d l[j] eo = false → ∀ f ∈ l.take (j + 1), P.over d f eo = false from fun h f hf => by
        rw [take_snoc l j hlt, List.mem_append, List.mem_singleton] at hf
        rcases hf with hf | rfl
        · exact HN.out f hf
        · exact h)
      have HFB := Lib.hid (HFO.out _ (List.getElem_mem hlt))
      have hbz := hb.size
      subst hga
      generalize l[j] = fn at *
      obtain ⟨key, s⟩ := fn
      obtain ⟨key, rfl, hk1, hk2, hs8⟩ := P.fold_key HFB.out
      simp only at HHIT HMISS c0 c1
      clear hb
      have i1 : (j : Int) < (l.length : Int) := by omega
      go_wp2_with fail
      refine (over_step key s C D xv dv eo d _ HC2.out HDC2.out HX2.out HD2.out HOL.out hk2).mono ?_
      rintro e w1 ⟨rfl, hb⟩
      have HB1 := Lib.hid (HB.out.trans (hb.mono hbz))
      clear hb
      obtain ⟨b, hbv⟩ : ∃ b, P.over d ((key : Int), s) eo = b := ⟨_, rfl⟩
      rw [hbv] at HHIT HMISS ⊢
      clear hbv
      cases b
      · have HQQ := Lib.hid (HMISS.out rfl)
        clear HHIT HMISS
        go_wp2
        go_roundw
        case rel => exact ⟨j + 1, by omega, by go_num, HQQ.out, HB1.out⟩
        case measure => simp [intOf]; omega
      · have HPP := Lib.hid (HHIT.out rfl)
        clear HHIT HMISS
        go_wp2
        go_ret
        exact ⟨⟨_, rfl, HPP.out⟩, HB1.out⟩
    · have HP := Lib.hid (show decide (0 ≤ (-1 : Int)) = l.any (fun f => P.over d f eo) by
        have h := HN.out
        rw [List.take_of_length_le (by omega)] at h
        have h2 : l.any (fun f => P.over d f eo) = false := List.any_eq_false.2 fun f hf => by rw [h f hf]; decide
        rw [h2]; rfl)
      clear hb
      go_wp2
      go_ret
      exact ⟨⟨_, rfl, HP.out⟩, HB.out⟩
theorem containsFold (fv xv dv : Value) (l : P.Folds) (d : P.Dic) (eo : List Int) (C D : Nat) (w : World) (hf : FldR w fv l) (hC : w.cell? ⟨C, 0, none⟩ = some xv) (hD : w.cell? ⟨D, 0, none⟩ = some dv) (hx : IntR w xv eo) (hd : EntR w dv d) (ho : P.outline eo = true) (hfo : ∀ f ∈ l, P.fold f = true) :
    Calls Tryz.prog 88 #[fv, .func (Fn.func 89) #[] #[.pointer (some ⟨C, 0, none⟩), .pointer (some ⟨D, 0, none⟩)]] w fun e w' => e = .returned (.bool (l.any (fun f => P.over d f eo))) ∧ Below w.heap.size w w' := by
  have HF := Lib.hid hf; have HX := Lib.hid hx; have HD := Lib.hid hd
  have HC := Lib.hid hC; have HDC := Lib.hid hD; have HOL := Lib.hid ho; have HFO := Lib.hid hfo
  obtain ⟨fa, fc, rfl, ⟨hl45, _⟩, _, _⟩ := hf
  clear hx hd hC hD ho hfo
  go_enter Tryz.func88, Tryz.ntmps88
  go_wp2_with fail
  refine (indexFold _ xv dv l d eo C D _ HF.out HC.out HDC.out HX.out HD.out HOL.out HFO.out).mono ?_
  rintro e w1 ⟨⟨i, rfl, hi⟩, hb⟩
  have HI := Lib.hid hi; have HB1 := Lib.hid hb
  clear hi hb
  go_wp2
  go_ret
  exact ⟨ret_bool (by rw [← HI.out]), HB1.out⟩
def FoPost (ok : Bool) (l : P.Outs) (w : World) (e : Ending) (w' : World) : Prop := ∃ u, e = .returned (.tuple #[u, .bool ok]) ∧ OutsO w' (Bet w.heap.size w'.heap.size) u (P.keptO ok l) ∧ Below w.heap.size w w'
theorem impl_foldOverrides (dv fv : Value) (d : P.Dic) (l : P.Folds) (w : World) (hd : EntR w dv d) (hf : FldR w fv l) (hs : Small d) (hft : ∀ f ∈ l, f.2.length ≤ 2 ^ 30) (hE : Env w) :
    Calls Tryz.prog 31 #[.agg #[dv], fv] w (FoPost (P.dic d && P.foldsOk l) (P.overs d l) w) := by
  obtain ⟨i0, hi, hz0, hz1, hz2⟩ := info_parts info_sl
  have hb0 : Below w.heap.size w (w.alloc (.cells #[dv] 26)) := (Below.refl w.heap.size w).alloc (Nat.le_refl _) _
  have HD := Lib.hid hd; have HFR := Lib.hid hf; have HB0 := Lib.hid hb0; have HEV0 := Lib.hid hE
  have HX := Lib.hid (Box1.new dv 26 w)
  have HS := Lib.hid hs; have HFT := Lib.hid hft
  clear hb0 hs hft hE
  obtain ⟨ad, cap, rfl, _, _⟩ := hd
  obtain ⟨fa, fc, rfl, ⟨hl45, _⟩, _, _⟩ := hf
  go_enter Tryz.func31, Tryz.ntmps31
  go_wp2_with fail
  refine (isValidDictionary _ d _ (HD.out.below HB0.out) HS.out.texts (HEV0.out.below HB0.out HEV0.out.size)).mono ?_
  rintro e w1 ⟨rfl, hb⟩
  have HB1 := Lib.hid (HB0.out.trans (hb.mono HB0.out.size)); have HX1 := Lib.hid (HX.out.below hb)
  clear hb HB0 HX
  obtain ⟨q, hq⟩ : ∃ q, P.dic d = q := ⟨_, rfl⟩
  have HQ := Lib.hid hq
  rw [hq]
  clear hq
  cases q
  · go_wp2
    go_ret2
    exact ⟨.slice none 0 0, by rw [HQ.out]; rfl, by rw [HQ.out]; exact RowO.nil _ _, HB1.out⟩
  · go_wp2_with fail
    refine (isValidFolds _ l _ (HFR.out.below HB1.out) HFT.out).mono ?_
    rintro e w2 ⟨rfl, hb⟩
    have HB2 := Lib.hid (HB1.out.trans (hb.mono HB1.out.size)); have HX2 := Lib.hid (HX1.out.below hb)
    clear hb HB1 HX1
    obtain ⟨q, hq⟩ : ∃ q, P.foldsOk l = q := ⟨_, rfl⟩
    have HQF := Lib.hid hq
    rw [hq]
    clear hq
    cases q
    · go_wp2
      go_ret2
      exact ⟨.slice none 0 0, by rw [HQ.out, HQF.out]; rfl, by rw [HQ.out, HQF.out]; exact RowO.nil _ _, HB2.out⟩
    · have HFO := Lib.hid (show ∀ f ∈ l, P.fold f = true by have h := HQF.out; unfold P.foldsOk at h; simp only [Bool.and_eq_true, List.all_eq_true] at h; exact h.2.1)
      have HDL := Lib.hid (P.dic_len HQ.out)
      have HOV := Lib.hid (show ∀ e ∈ d, P.outline e.1 = true from fun e he => by
        have h := HQ.out
        unfold P.dic at h
        simp only [Bool.and_eq_true, List.all_eq_true] at h
        have h2 := h.2.1 e he
        unfold P.entry at h2
        simp only [Bool.and_eq_true] at h2
        exact h2.1)
      have hz := HB2.out.size
      have hx2 := HX2.out.2
      have hba := (Below.refl w2.heap.size w2).alloc (Nat.le_refl _) (.cells #[] 27)
      have HA0 := Lib.hid (show Acc 27 1 outE (w.heap.size + 1) (w2.alloc (.cells #[] 27)) (.slice (some ⟨w2.heap.size, 0, none⟩) 0 0) [] [] from
        Acc.nil (by have h := World.ownsRow_lit (base := w.heap.size + 1) (e := 27) (size := 1) w2 #[] 0 (by omega) (Nat.zero_le _) (by simp); simpa using h) (by simp; omega))
      have HX3 := Lib.hid (HX2.out.below hba); have HB3 := Lib.hid (HB2.out.trans (hba.mono HB2.out.size))
      obtain ⟨k0, _⟩ := HX3.out
      clear hba hz hx2 HB2 HX2
      go_wp2_with fail
      go_loopw [6, 22] (fun s i wr => ∃ (j : Nat) (xs : List Value), j ≤ d.length ∧ i = .int .i64 j ∧ Acc 27 1 outE (w.heap.size + 1) wr s (P.oversT d l (d.take j)) xs ∧ Box1 w.heap.size (.slice ad d.length cap) wr ∧ Below w.heap.size w wr) (fun _ i _ => d.length - (intOf i).toNat)
      case atStart => exact ⟨0, [], Nat.zero_le _, rfl, HA0.out, HX3.out, HB3.out⟩
      case round =>
        clear HA0 HB3 HX3 k0
        obtain ⟨j, xs, hj, rfl, hacc, hbx, hb⟩ := hrel
        have HWR := Lib.hid (show w.heap.size + 1 ≤ wr.heap.size by have h := hbx.2; omega)
        have HA := Lib.hid hacc; have HB := Lib.hid hb; have HBX := Lib.hid hbx
        have hdl : (P.oversT d l (d.take j)).length ≤ j := Nat.le_trans (P.oversT_len _ _ _) (by rw [List.length_take]; omega)
        obtain ⟨uad, ucap, rfl⟩ := hacc.form
        have HD40 := Lib.hid (show d.length ≤ 40 by have := HDL.out; omega)
        clear hacc
        by_cases hlt : j < d.length
        · obtain ⟨g, p, hga, hgs, x, c0, c1, hx⟩ := HD.out.at j hlt
          have c0' := (hb.cell (p := ⟨g, _, none⟩) hgs).trans c0
          have c1' := (hb.cell (p := ⟨g, _, none⟩) hgs).trans c1
          have HX0 := Lib.hid (hx.below hb)
          have HEN := Lib.hid (show P.oversT d l (d.take (j + 1)) = P.oversT d l (d.take j) ++ if l.any (fun f => P.over d f d[j].1) then [d[j].1] else [] by rw [take_snoc d j hlt, P.oversT_snoc])
          have HOE := Lib.hid (HOV.out _ (List.getElem_mem hlt))
          have hll := HS.out.outs _ (List.getElem_mem hlt)
          obtain ⟨xd, xc, rfl, hxl, _⟩ := hx
          subst hga
          generalize d[j] = en at *
          obtain ⟨eo, et⟩ := en
          simp only at HX0 HEN hxl hll c1' HOE
          generalize P.oversT d l (d.take j) = dl at *
          have i1' : (j : Int) < (d.length : Int) := by omega
          have hba := (Below.refl wr.heap.size wr).alloc (Nat.le_refl _) (.cells #[.slice xd eo.length xc, .string (S et)] 47)
          have HXa := Lib.hid (HX0.out.below hba); have HBa := Lib.hid hba
          have HFa := Lib.hid ((HFR.out.below hb).below hba); have HDa := Lib.hid ((HD.out.below hb).below hba)
          have HEB := Lib.hid (Box1.mk2 (.slice xd eo.length xc) et 47 wr)
          have HBXa := Lib.hid (hbx.below hba)
          clear hba HX0 c0 c1 hb hbx
          go_wp2_with fail
          refine (containsFold _ _ _ l d eo wr.heap.size w.heap.size _ HFa.out HEB.out.1 HBXa.out.1 HXa.out HDa.out HOE.out HFO.out).mono ?_
          rintro e v0 ⟨rfl, hb1⟩
          have HXb := Lib.hid (HXa.out.below hb1); have HBb := Lib.hid (HBa.out.trans (hb1.mono HBa.out.size)); have HEBb := Lib.hid (HEB.out.below hb1)
          clear hb1 HXa HBa HEB HFa HDa HBXa
          have HXa := HXb; have HBa := HBb; have HEB := HEBb; clear HXb HBb HEBb
          obtain ⟨e0, _⟩ := HEB.out
          obtain ⟨an, han⟩ : ∃ an, l.any (fun f => P.over d f eo) = an := ⟨_, rfl⟩
          rw [han] at HEN ⊢
          clear han
          cases an
          · have HENY := Lib.hid (HEN.out.trans (rfl : _ = dl ++ []))
            clear HEN
            go_wp2
            go_roundw
            case rel => exact ⟨j + 1, xs, by omega, by go_num, by rw [HENY.out, List.append_nil]; exact HA.out.keep outE_ok HBa.out, HBX.out.below HBa.out, HB.out.trans (HBa.out.mono HB.out.size)⟩
            case measure => simp [intOf]; omega
          · have HENY := Lib.hid (HEN.out.trans (rfl : _ = dl ++ [eo]))
            clear HEN
            have hd40 := HD40.out
            go_wp2_with fail
            refine (copyOf _ eo _ HXa.out (by omega)).mono ?_
            rintro e va ⟨u1, rfl, hI, hbi⟩
            have HI := Lib.hid hI; have HBI := Lib.hid hbi; clear hI hbi
            obtain ⟨u1d, u1c, rfl, _, _⟩ := id HI.out
            have HBA1 := Lib.hid (show Below wr.heap.size wr va from HBa.out.trans (HBI.out.mono HBa.out.size))
            have HA2 := Lib.hid ((HA.out.keep outE_ok HBA1.out).keep outE_ok ((Below.refl va.heap.size va).alloc (Nat.le_refl _) (.cells #[.slice u1d eo.length u1c] 27)))
            have HOW := Lib.hid HA2.out.owns
            have HWV := Lib.hid (show w.heap.size + 1 ≤ va.heap.size by have h2 := HBA1.out.size; exact Nat.le_trans HWR.out h2)
            go_wp2_with (at_builtin; refine wpList_append_lies _ rfl _ _ 59 rfl (w.heap.size + 1) 27 i0 (.slice none 0 0) 1 24 Tryz.underlying59 hi hz0 hz1 hz2 rfl (by decide) (.slice uad dl.length ucap) dl.length xs rfl HOW.out ⟨va.heap.size, 0, none⟩ 1 1 [.slice u1d eo.length u1c] rfl rfl ?_ ?_ (Nat.zero_lt_one) ?_ ?_ ?_ _ rfl ?_)
            all_goals first | exact ⟨rfl, rfl⟩ | (intro y hy; simp only [List.mem_cons, List.not_mem_nil, or_false] at hy; subst hy; rfl) | (unfold maxLen; omega) | omega | (have h1 := HWV.out; simp; omega) | (intro i y hy; rcases i with _ | i; (injection hy with hy; subst hy; rw [add0]; go_simp); cases hy) | skip
            intro g1 cap1 v3 hown hgr hat hlt3
            have HB4 := Lib.hid (show Below (w.heap.size + 1) (va.alloc (.cells #[.slice u1d eo.length u1c] 27)) v3 from (Below.refl _ _).grown hgr (by have h1 := HWV.out; simp; omega) (fun k hk => (World.ownsRow.lt HA2.out.owns k hk).1))
            have HAC := Lib.hid (HA.out.snoc (a := eo) (cs := [.slice u1d eo.length u1c]) (v1 := va) (v2 := va.alloc (.cells #[.slice u1d eo.length u1c] 27)) (v3 := v3) (g := g1) (cap := cap1) (F := Bet v0.heap.size va.heap.size) outE_ok HBA1.out (fun b hb => ⟨Nat.le_trans HBa.out.size hb.1, hb.2⟩) ⟨_, rfl, HI.out⟩ rfl ((Below.refl _ _).alloc (Nat.le_refl _) _) hown hgr (by simpa using hat))
            have HBY := Lib.hid ((HBX.out.below HBA1.out).below ((Below.refl va.heap.size va).alloc (Nat.le_refl _) (.cells #[.slice u1d eo.length u1c] 27)))
            have HBX4 := Lib.hid (show Box1 w.heap.size (.slice (some ⟨g, p, none⟩) d.length cap) v3 from ⟨(HB4.out.cell (p := ⟨w.heap.size, 0, none⟩) (by show w.heap.size < w.heap.size + 1; omega)).trans HBY.out.1, Nat.lt_of_lt_of_le HBY.out.2 HB4.out.size⟩)
            have HBW := Lib.hid (((HB.out.trans (HBA1.out.mono HB.out.size)).trans ((Below.refl w.heap.size va).alloc (by have h1 := HWV.out; omega) _)).trans (HB4.out.mono (by omega)))
            clear hown hgr hat hlt3
            go_wp2
            go_roundw
            case rel => exact ⟨j + 1, _, by omega, by go_num, by rw [HENY.out]; exact HAC.out, HBX4.out, HBW.out⟩
            case measure => simp [intOf]; omega
        · have hjl : d.length = j := by omega
          have HT := Lib.hid (show d.take j = d from List.take_of_length_le (by omega))
          clear hb
          go_wp2
          go_ret2
          have h := HA.out
          have hd40 := HD40.out
          rw [HT.out] at h hdl ⊢
          refine ⟨_, by rw [HQ.out, HQF.out]; rfl, ?_, HB.out⟩
          rw [HQ.out, HQF.out]
          show OutsO _ _ _ (P.oversT d l d)
          exact (h.row (by omega)).wide (fun b hb => ⟨by have := hb.1; omega, hb.2⟩) (fun b hb => hb.2)
end Go.Proofs.YtmlklnimoknojaaGreatDoor
