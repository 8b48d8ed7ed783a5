/- Walks: an entry taken out of a dictionary (program). -/
import Derived.Test.YtfoajpehmbojbaaGreatDoorDel3
import Derived.Test.YtfoajpehmbojbaaGreatDoorValD
namespace Go.Proofs.YtfoajpehmbojbaaGreatDoor
open Go Go.RowKit
set_option maxHeartbeats 2000000
set_option maxRecDepth 100000
theorem del_step (x : Value) (eo o : List Int) (t : Str) (C : Nat) (ov : Value) (w : World) (hx : IntR w x eo) (hc : w.cell? ⟨C, 0, none⟩ = some ov) (ho : IntR w ov o) :
    Calls Tryz.prog 40 #[.agg #[x, .string (S t)], .pointer (some ⟨C, 0, none⟩)] w fun e w' => e = .returned (.bool (!decide (eo = o))) ∧ Below w.heap.size w w' := by
  have hb0 := (Below.refl w.heap.size w).alloc (Nat.le_refl _) (.cells #[x, .string (S t)] 74)
  have HX := Lib.hid (hx.below hb0); have HO := Lib.hid (ho.below hb0)
  have hc' := (hb0.cell (p := ⟨C, 0, none⟩) (World.block_lt_of_cell? w _ hc)).trans hc
  have HB0 := Lib.hid hb0
  obtain ⟨xd, xc, rfl, _, _⟩ := hx
  obtain ⟨od, oc, rfl, _, _⟩ := ho
  clear hb0 hc
  go_enter Tryz.func40, Tryz.ntmps40
  go_wp2_with fail
  refine (equalInts _ _ eo o _ HX.out HO.out).mono ?_
  rintro e w1 ⟨rfl, hb⟩
  have HB1 := Lib.hid (HB0.out.trans (hb.mono (by simp)))
  clear hb
  cases hok : decide (eo = o)
  · have HK := Lib.hid hok; clear hok
    go_wp2
    go_ret
    exact ⟨ret_bool (by rw [HK.out]; rfl), HB1.out⟩
  · have HK := Lib.hid hok; clear hok
    go_wp2
    go_ret
    exact ⟨ret_bool (by rw [HK.out]; rfl), HB1.out⟩
/-- an entry whose outline lies in memory that was there -/
def refE (w : World) : ElT P.Ent := fun _ _ cs e => ∃ x, cs = [x, .string (S e.2)] ∧ IntR w x e.1
theorem refE_ok (w : World) : ElOk (refE w) := ⟨fun h _ => h, fun h _ _ => h⟩
theorem ref_read {w v : World} {F : Blk} {u : Value} {l : P.Dic} (h : RowO 2 (refE w) v F u l) (hb : Below w.heap.size w v) : EntR v u l := by
  obtain ⟨ad, cap, h1, h2, hn, h3⟩ := h
  refine ⟨ad, cap, h1, by omega, hn.1, h3.imp id ?_⟩
  rintro ⟨g, o, G, C, h4, h5⟩
  refine ⟨g, o, h4, h5.lt _ h5.own, fun j hj => ?_⟩
  obtain ⟨x, he, hx⟩ := h5.el j hj
  have hc := (h5.cel j hj 0 (by rw [he]; simp)).1
  have hd := (h5.cel j hj 1 (by rw [he]; simp)).1
  simp only [he, List.getElem_cons_zero, List.getElem_cons_succ, Nat.add_zero] at hc hd
  exact ⟨x, hc, hd, hx.below hb⟩
theorem P.del_snoc (o : List Int) (l : P.Dic) (e : P.Ent) : P.del o (l ++ [e]) = if e.1 = o then P.del o l else P.del o l ++ [e] := by
  unfold P.del
  rw [List.filter_append]
  by_cases h : e.1 = o
  · rw [if_pos h, List.filter_cons_of_neg (by simp [h])]; simp
  · rw [if_neg h, List.filter_cons_of_pos (by simp [h])]; simp
theorem filterDel (u ov : Value) (l : P.Dic) (o : List Int) (C : Nat) (w : World) (hu : EntR w u l) (hl : l.length ≤ 2 ^ 20) (hc : w.cell? ⟨C, 0, none⟩ = some ov) (ho : IntR w ov o) :
    Calls Tryz.prog 39 #[u, .func (Fn.func 40) #[] #[.pointer (some ⟨C, 0, none⟩)]] w
      fun e w' => (∃ u', e = .returned u' ∧ EntR w' u' (P.del o l)) ∧ Below w.heap.size w w' := by
  obtain ⟨i0, hi, hz0, hz1, hz2⟩ := info_parts info_ent
  have HU := Lib.hid hu; have HO := Lib.hid ho
  have HC := Lib.hid hc
  have HCL := Lib.hid (World.block_lt_of_cell? w _ hc)
  have hB0 : Below w.heap.size w (w.alloc (.cells #[] 74)) := (Below.refl w.heap.size w).alloc (Nat.le_refl _) _
  have HB0 := Lib.hid hB0; clear hB0
  have HA0 := Lib.hid (show Acc 74 2 (refE w) w.heap.size (w.alloc (.cells #[] 74)) (.slice (some ⟨w.heap.size, 0, none⟩) 0 0) [] [] from
    Acc.nil (by have h := World.ownsRow_lit (base := w.heap.size) (e := 74) (size := 2) w #[] 0 (Nat.le_refl _) (Nat.zero_le _) (by simp); simpa using h) (by simp))
  obtain ⟨ad, cap, rfl, _, _⟩ := hu
  clear hc ho
  go_enter Tryz.func39, Tryz.ntmps39
  go_wp2_with fail
  go_loopw [5, 11] (fun s i wr => ∃ (j : Nat) (xs : List Value), j ≤ l.length ∧ i = .int .i64 j ∧ Acc 74 2 (refE w) w.heap.size wr s (P.del o (l.take j)) xs ∧ Below w.heap.size w wr) (fun _ i _ => l.length - (intOf i).toNat)
  case atStart => exact ⟨0, [], Nat.zero_le _, rfl, HA0.out, HB0.out⟩
  case round =>
    obtain ⟨j, xs, hj, rfl, hacc, hb⟩ := hrel
    clear HA0 HB0
    have HBZ := Lib.hid hb.size
    have HA := Lib.hid hacc; have HB := Lib.hid hb
    have hdl : (P.del o (l.take j)).length ≤ j := Nat.le_trans (P.del_len _ _) (by rw [List.length_take]; omega)
    obtain ⟨uad, ucap, rfl⟩ := hacc.form
    clear hacc
    by_cases hlt : j < l.length
    · obtain ⟨g, p, hga, hgs, x, c0, c1, hx⟩ := HU.out.at j hlt
      have HXW := Lib.hid hx
      have c0' := (hb.cell (p := ⟨g, _, none⟩) hgs).trans c0
      have c1' := (hb.cell (p := ⟨g, _, none⟩) hgs).trans c1
      have HEN := Lib.hid (show P.del o (l.take (j + 1)) = if l[j].1 = o then P.del o (l.take j) else P.del o (l.take j) ++ [l[j]] by rw [take_snoc l j hlt, P.del_snoc])
      have hba := (Below.refl wr.heap.size wr).alloc (Nat.le_refl _) (.cells #[x, .string (S l[j].2)] 74)
      have HBA := Lib.hid hba
      have HX := Lib.hid ((hx.below hb).below hba)
      have HO2 := Lib.hid ((HO.out.below hb).below hba)
      have HC2 := Lib.hid ((hba.cell (p := ⟨C, 0, none⟩) (Nat.lt_of_lt_of_le HCL.out hb.size)).trans ((hb.cell (p := ⟨C, 0, none⟩) HCL.out).trans HC.out))
      obtain ⟨xd, xc, rfl, _, _⟩ := hx
      subst hga
      generalize l[j] = en at *
      obtain ⟨eo, et⟩ := en
      simp only at HX HXW HBA HEN c1' c1 hba HC2 HO2
      generalize P.del o (l.take j) = dl at *
      have i1 : (j : Int) < (l.length : Int) := by omega
      clear hb hba c0 c1
      go_wp2_with fail
      refine (del_step _ eo o et C ov _ HX.out HC2.out HO2.out).mono ?_
      rintro e v1 ⟨rfl, hb1⟩
      have hzz : wr.heap.size + 1 ≤ v1.heap.size := by have := hb1.size; simp at this; omega
      have HB1 := Lib.hid (show Below wr.heap.size wr v1 from HBA.out.trans (hb1.mono (by simp)))
      have e0 := (hb1.cell (p := ⟨wr.heap.size, 0, none⟩) (by simp)).trans (show (wr.alloc (.cells #[.slice xd eo.length xc, .string (S et)] 74)).cell? ⟨wr.heap.size, 0, none⟩ = some (.slice xd eo.length xc) by go_simp)
      have e1 := (hb1.cell (p := ⟨wr.heap.size, 1, none⟩) (by simp)).trans (show (wr.alloc (.cells #[.slice xd eo.length xc, .string (S et)] 74)).cell? ⟨wr.heap.size, 1, none⟩ = some (.string (S et)) by go_simp)
      have HZ1 := Lib.hid hzz
      clear hb1 hzz HX HC2 HO2 HBA
      by_cases heo : eo = o
      · have HEN2 := Lib.hid (HEN.out.trans (if_pos heo))
        rw [decide_eq_true heo]
        clear heo HEN e0 e1
        go_wp2
        go_roundw
        case rel => exact ⟨j + 1, xs, by omega, by go_num, by rw [HEN2.out]; exact HA.out.keep (refE_ok w) HB1.out, HB.out.trans (HB1.out.mono HBZ.out)⟩
        case measure => simp [intOf]; omega
      · have HEN2 := Lib.hid (HEN.out.trans (if_neg heo))
        rw [decide_eq_false heo]
        clear heo HEN
        have HA2 := Lib.hid ((HA.out.keep (refE_ok w) HB1.out).keep (refE_ok w) ((Below.refl v1.heap.size v1).alloc (Nat.le_refl _) (.cells #[.slice xd eo.length xc, .string (S et)] 74)))
        have HOW := Lib.hid HA2.out.owns
        have HWV := Lib.hid (Nat.le_trans HBZ.out HB1.out.size)
        go_wp2_with (at_builtin; refine wpList_append_lies _ rfl _ _ 27 rfl w.heap.size 74 i0 (.agg #[.slice none 0 0, .string ⟨#[]⟩]) 2 40 Tryz.underlying27 hi hz0 hz1 hz2 rfl (by decide) (.slice uad dl.length ucap) dl.length xs rfl HOW.out ⟨v1.heap.size, 0, none⟩ 1 1 [.slice xd eo.length xc, .string (S et)] rfl rfl ?_ ?_ (Nat.zero_lt_one) ?_ ?_ ?_ _ rfl ?_)
        · intro i y hy
          match i, hy with
          | 0, hy => injection hy with hy; subst hy; rw [add0]; go_simp
          | 1, hy => injection hy with hy; subst hy; rw [add0]; go_simp
        · intro y hy
          simp only [List.mem_cons, List.not_mem_nil, or_false] at hy
          rcases hy with rfl | rfl <;> rfl
        · unfold maxLen; omega
        · omega
        · have h1 := HWV.out; simp; omega
        intro g1 cap1 v3 hown hgr hat hlt3
        have HB3 := Lib.hid (show Below w.heap.size (v1.alloc (.cells #[.slice xd eo.length xc, .string (S et)] 74)) v3 from
          (Below.refl _ _).grown hgr (by have h1 := HWV.out; simp; omega) (fun k hk => (World.ownsRow.lt HA2.out.owns k hk).1))
        have HAC := Lib.hid (HA.out.snoc (a := (eo, et)) (cs := [.slice xd eo.length xc, .string (S et)]) (v1 := v1) (v2 := v1.alloc (.cells #[.slice xd eo.length xc, .string (S et)] 74)) (v3 := v3) (g := g1) (cap := cap1) (F := fun _ => False) (refE_ok w) HB1.out (fun b hb => hb.elim) ⟨_, rfl, HXW.out⟩ rfl ((Below.refl _ _).alloc (Nat.le_refl _) _) hown hgr (by simpa using hat))
        have HBW := Lib.hid (((HB.out.trans (HB1.out.mono HBZ.out)).trans ((Below.refl w.heap.size v1).alloc HWV.out _)).trans HB3.out)
        clear hown hgr hat hlt3 e0 e1
        go_wp2
        go_roundw
        case rel => exact ⟨j + 1, _, by omega, by go_num, by rw [HEN2.out]; exact HAC.out, HBW.out⟩
        case measure => simp [intOf]; omega
    · have HT := Lib.hid (show l.take j = l from List.take_of_length_le (by omega))
      clear hb
      go_wp2
      go_ret
      refine ⟨⟨.slice uad (P.del o (l.take j)).length ucap, rfl, ?_⟩, HB.out⟩
      have h := HA.out
      rw [HT.out] at h ⊢
      exact ref_read (h.row (by have := P.del_len o l; omega)) HB.out
/-- the boxes of the program's Delete -/
def EBox (W : Nat) (dv ov : Value) (v : World) : Prop :=
  v.cell? ⟨W, 0, none⟩ = some dv ∧ v.cell? ⟨W + 1, 0, none⟩ = some ov ∧ v.cell? ⟨W + 2, 0, none⟩ = some (.slice none 0 0) ∧ v.frozen? ⟨W + 2, 0, none⟩ = false ∧ W + 2 < v.heap.size
theorem EBox.below {W : Nat} {dv ov : Value} {v v' : World} (h : EBox W dv ov v) (hb : Below v.heap.size v v') : EBox W dv ov v' := by
  obtain ⟨a, b, c, d, e⟩ := h
  exact ⟨(hb.cell (p := ⟨W, 0, none⟩) (by show W < _; omega)).trans a, (hb.cell (p := ⟨W + 1, 0, none⟩) (by show W + 1 < _; omega)).trans b, (hb.cell (p := ⟨W + 2, 0, none⟩) e).trans c, (hb.frozen (p := ⟨W + 2, 0, none⟩) e).trans d, Nat.lt_of_lt_of_le e hb.size⟩
theorem impl_delete (dv ov : Value) (l : P.Dic) (o : List Int) (w : World) (hu : EntR w dv l) (ho : IntR w ov o) (hs : Small l) (hE : Env w) :
    Calls Tryz.prog 11 #[.agg #[dv], ov] w (DelPost l o w) := by
  have hb0 : Below w.heap.size w (((w.alloc (.cells #[dv] 29)).alloc (.cells #[ov] 25)).alloc (.cells #[.slice none 0 0] 29)) := (((Below.refl w.heap.size w).alloc (Nat.le_refl _) _).alloc (by simp) _).alloc (by simp; omega) _
  have HU := Lib.hid (hu.below hb0); have HO := Lib.hid (ho.below hb0); have HE := Lib.hid (hE.below hb0 hE.size)
  have HB0 := Lib.hid hb0; clear hb0 hE
  have HN := Lib.hid (show EBox w.heap.size dv ov (((w.alloc (.cells #[dv] 29)).alloc (.cells #[ov] 25)).alloc (.cells #[.slice none 0 0] 29)) by refine ⟨?_, ?_, ?_, ?_, ?_⟩ <;> go_simp)
  have HSM := Lib.hid hs; clear hs
  obtain ⟨ad, cap, rfl, _, _⟩ := hu
  obtain ⟨od, oc, rfl, _, _⟩ := ho
  go_enter Tryz.func11, Tryz.ntmps11
  go_wp2_with fail
  refine (isValidDictionary _ l _ HU.out HSM.out.texts HE.out).mono ?_
  rintro e w1 ⟨rfl, hb⟩
  have HU1 := Lib.hid (HU.out.below hb); have HO1 := Lib.hid (HO.out.below hb)
  have HN1 := Lib.hid (HN.out.below hb)
  have HB1 := Lib.hid (HB0.out.trans (hb.mono (by simp; omega)))
  clear hb HU HB0 HN HO HE
  cases hd : P.dic l
  · have HD := Lib.hid (show P.delOk o l = false by unfold P.delOk; rw [hd]; rfl); clear hd
    obtain ⟨_, _, b0, f0, _⟩ := HN1.out
    go_wp2
    refine bodyPost_ret (v := .tuple #[.agg #[.slice none 0 0], .bool false]) (by simp [results, Tryz.results11, go_sem, b0]) rfl ⟨_, by rw [HD.out], ?_, ?_⟩
    · rw [HD.out]; exact RowO.nil _ _
    · exact HB1.out.setCell (by simp; omega) _
  · have HDC := Lib.hid hd
    obtain ⟨a0, a1, _⟩ := HN1.out
    go_wp2_with fail
    refine (dicFind _ _ l o _ HU1.out HO1.out).mono ?_
    rintro e w2 ⟨rfl, hb⟩
    have HU2 := Lib.hid (HU1.out.below hb); have HO2 := Lib.hid (HO1.out.below hb)
    have HN2 := Lib.hid (HN1.out.below hb)
    have HB2 := Lib.hid (HB1.out.trans (hb.mono HB1.out.size))
    clear hb HU1 HB1 HN1 HO1 a0 a1
    have hplo := P.place_lo o l
    have hplt := P.place_lt (o := o) (l := l)
    have hl20 := HSM.out.len
    by_cases hneg : P.place o l < 0
    · have HD := Lib.hid (show P.delOk o l = false by unfold P.delOk; rw [decide_eq_false (by omega), Bool.and_false]); clear hd
      obtain ⟨_, _, b0, f0, _⟩ := HN2.out
      go_wp2
      refine bodyPost_ret (v := .tuple #[.agg #[.slice none 0 0], .bool false]) (by simp [results, Tryz.results11, go_sem, b0]) rfl ⟨_, by rw [HD.out], ?_, ?_⟩
      · rw [HD.out]; exact RowO.nil _ _
      · exact HB2.out.setCell (by simp; omega) _
    · have HD := Lib.hid (show P.delOk o l = true by unfold P.delOk; rw [hd, decide_eq_true (by omega)]; rfl); clear hd
      obtain ⟨a0, a1, _⟩ := HN2.out
      have HA1 := Lib.hid a1
      go_wp2_with fail
      refine (filterDel _ (.slice od o.length oc) l o _ _ HU2.out hl20 HA1.out HO2.out).mono ?_
      rintro e w3 ⟨⟨u3, rfl, hu3⟩, hb⟩
      have HN3 := Lib.hid (HN2.out.below hb)
      have HB3 := Lib.hid (HB2.out.trans (hb.mono HB2.out.size))
      have HU3 := Lib.hid hu3
      obtain ⟨u3d, u3c, rfl, _, _⟩ := hu3
      clear hb HN2 HU2 HB2 a0 a1 HA1 HO2 hplo hplt hneg
      go_wp2_with fail
      refine (dictionaryOf_up _ (P.del o l) _ HU3.out (P.del_up HDC.out) (small_del HSM.out o).len (small_del HSM.out o).outs).mono ?_
      rintro e w4 ⟨u4, rfl, hI, hb⟩
      have HN4 := Lib.hid (HN3.out.below hb)
      have hN3 : w.heap.size + 2 < w3.heap.size := HN3.out.2.2.2.2
      have HB4 := Lib.hid (HB3.out.trans (hb.mono HB3.out.size))
      have HI := Lib.hid hI
      obtain ⟨u4d, u4c, rfl, _, _⟩ := hI
      clear hb HN3 HB3
      obtain ⟨_, _, b0, f0, _⟩ := HN4.out
      go_wp2
      refine bodyPost_ret (v := .tuple #[.agg #[.slice u4d (P.del o l).length u4c], .bool true]) (by simp [results, Tryz.results11, go_sem, b0]) rfl ⟨_, by rw [HD.out], ?_, ?_⟩
      · rw [HD.out]
        show Ents _ _ _ (P.del o l)
        refine (HI.out.stand (X := fun b => b = w.heap.size + 2) entE_ok ((Chg.refl (fun b => b = w.heap.size + 2) w4).setCell (p := ⟨w.heap.size + 2, 0, none⟩) rfl _) ?_).wide ?_ ?_
        · intro b hb e; have := hb.1; omega
        · intro b hb; have h1 := hb.1; have h2 := hb.2; exact ⟨by omega, by simp [World.setCell]; omega⟩
        · intro b hb; exact hb.2
      · exact HB4.out.setCell (by simp; omega) _
end Go.Proofs.YtfoajpehmbojbaaGreatDoor
