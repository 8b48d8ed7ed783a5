/- Walks: the entries that a stack of layers shows (program); Flatten (program). -/
import Derived.Deep.DeepCutAuto
import Derived.Test.YtonhkglilnplbaaGreatDoorLook1
import Derived.Test.YtonhkglilnplbaaGreatDoorIns1
set_option linter.all false
namespace Go.Proofs.YtonhkglilnplbaaGreatDoor
namespace P
theorem vis_snoc (L : Lays) (e : Lay) : ∀ (l : Lays) (i : Nat), vis L i (l ++ [e]) = vis L i l ++ e.1.filter fun x => decide (layAt x.1 L = (i + l.length : Nat))
  | [], i => by simp [vis]
  | a :: l, i => by
    rw [List.cons_append, vis, vis, vis_snoc L e l (i + 1), List.append_assoc, List.length_cons, show i + 1 + l.length = i + (l.length + 1) by omega]
theorem visAt {o : List Int} {L : Lays} {j : Nat} (h : layOk o L = true) (hi : layIdx o L = j) : layAt o L = j := by
  unfold layOk at h
  rw [decide_eq_true_eq] at h
  unfold layIdx at hi
  rw [if_neg (by omega)] at hi
  exact hi
theorem visNo {o : List Int} {L : Lays} {j : Nat} (h : layOk o L = false ∨ layIdx o L ≠ j) : layAt o L ≠ j := by
  intro e
  rcases h with h | h
  · unfold layOk at h; rw [decide_eq_false_iff_not] at h; omega
  · unfold layIdx at h; rw [if_neg (by omega)] at h; exact h e
theorem stack_len {l : Lays} (h : stack l = true) : l.length ≤ 4 := by
  unfold stack at h; simp only [Bool.and_eq_true, decide_eq_true_eq] at h; omega
end P
open Go Go.RowKit
set_option maxHeartbeats 4000000
set_option maxRecDepth 100000
@[go_sem] theorem field_dic (a : Option Addr) (n c : Nat) (z : World) : (Instr.field 32 (.agg #[.slice a n c]) 0).run Tryz.prog z = .ok (.slice a n c) z := by kernel_rfl
/-- a row of a call's own, as a function returns it -/
def EntsRet (l : P.Dic) (w : World) (e : Ending) (w' : World) : Prop := ∃ u, e = .returned u ∧ Ents w' (Bet w.heap.size w'.heap.size) u l ∧ Below w.heap.size w w'
theorem stackEntries (dv : Value) (l : P.Lays) (w : World) (hu : LayR w dv l) (hs : SmallS l) (hst : P.stack l = true) :
    Calls Tryz.prog 109 #[.agg #[dv]] w (EntsRet (P.flatS l) w) := by
  obtain ⟨i0, hi, hz0, hz1, hz2⟩ := info_parts info_ent
  have HU := Lib.hid hu; have HSM := Lib.hid hs; have HST := Lib.hid hst
  clear hs hst
  have hB0 : Below w.heap.size w ((w.alloc (.cells #[dv] 52)).alloc (.cells #[] 36)) := ((Below.refl w.heap.size w).alloc (Nat.le_refl _) _).alloc (by simp) _
  have HB0 := Lib.hid hB0; clear hB0
  have HBX := Lib.hid ((Box1.new dv 52 w).below ((Below.refl _ _).alloc (Nat.le_refl _) (.cells #[] 36)))
  have HA0 := Lib.hid (show Acc 36 2 (refE w) (w.heap.size + 1) ((w.alloc (.cells #[dv] 52)).alloc (.cells #[] 36)) (.slice (some ⟨w.heap.size + 1, 0, none⟩) 0 0) [] [] from
    Acc.nil (by have h := World.ownsRow_lit (base := w.heap.size + 1) (e := 36) (size := 2) (w.alloc (.cells #[dv] 52)) #[] 0 (by simp) (Nat.zero_le _) (by simp); simpa using h) (by simp))
  obtain ⟨ad, cap, rfl, _, _⟩ := hu
  go_enter Tryz.func109, Tryz.ntmps109
  go_wp2_with fail
  go_loopw [3, 15] (fun s i wr => ∃ (j : Nat) (xs : List Value), j ≤ l.length ∧ i = .int .i64 j ∧ Acc 36 2 (refE w) (w.heap.size + 1) wr s (P.vis l 0 (l.take j)) xs ∧ Box1 w.heap.size (.slice ad l.length cap) wr ∧ Below w.heap.size w wr) (fun _ i _ => l.length - (intOf i).toNat)
  case atStart => exact ⟨0, [], Nat.zero_le _, rfl, HA0.out, HBX.out, HB0.out⟩
  case round =>
    clear HA0 HB0 HBX
    obtain ⟨j, xs, hj, rfl, hacc, hbx, hb⟩ := hrel
    have HLJ := Lib.hid (show (l.take j).length = j by rw [List.length_take]; omega)
    by_cases hlt : j < l.length
    · obtain ⟨g, p, hga, hgs, x, c0, c1, hx⟩ := HU.out.at j hlt
      have HD := Lib.hid hx
      have c0' := (hb.cell (p := ⟨g, _, none⟩) hgs).trans c0
      have c1' := (hb.cell (p := ⟨g, _, none⟩) hgs).trans c1
      have HEN := Lib.hid (show P.vis l 0 (l.take (j + 1)) = P.vis l 0 (l.take j) ++ l[j].1.filter fun x => decide (P.layAt x.1 l = j) by rw [take_snoc l j hlt, P.vis_snoc, HLJ.out, Nat.zero_add])
      have hdl := P.layers_up (P.stack_layers HST.out) l[j] (List.getElem_mem hlt)
      have hd40 : l[j].1.length ≤ 40 := by have h := List.all_eq_true.1 (P.stack_layers HST.out) l[j] (List.getElem_mem hlt); exact P.dic_len h
      have HVL := Lib.hid (show (P.vis l 0 (l.take j)).length ≤ 160 by
        have h := P.vis_len (L := l) (l := l.take j) (i := 0) (fun e he => P.dic_len (List.all_eq_true.1 (P.stack_layers HST.out) e (List.mem_of_mem_take he)))
        have h2 := P.stack_len HST.out
        rw [HLJ.out] at h; omega)
      have hba := (Below.refl wr.heap.size wr).alloc (Nat.le_refl _) (.cells #[x, .bool l[j].2] 74)
      have HA1 := Lib.hid (hacc.keep (refE_ok w) hba)
      have HBX1 := Lib.hid (hbx.below hba)
      have HB1 := Lib.hid (hb.trans (hba.mono hb.size))
      obtain ⟨xd, xc, rfl, _, _⟩ := hx
      obtain ⟨b0, _⟩ := hbx
      subst hga
      generalize l[j] = en at *
      obtain ⟨d, t⟩ := en
      simp only at HD HEN HA1 HBX1 HB1 c1' hd40
      generalize P.vis l 0 (l.take j) = dd at *
      have i1 : (j : Int) < (l.length : Int) := by omega
      clear hacc hb hba c0 c1 hdl
      go_wp2_with fail
      go_loopw [3, 24] (fun s i wr => ∃ (k : Nat) (xs : List Value), k ≤ d.length ∧ i = .int .i64 k ∧ Acc 36 2 (refE w) (w.heap.size + 1) wr s (dd ++ (d.take k).filter fun x => decide (P.layAt x.1 l = j)) xs ∧ Box1 w.heap.size (.slice (some ⟨g, p, none⟩) l.length cap) wr ∧ Below w.heap.size w wr) (fun _ i _ => d.length - (intOf i).toNat)
      case atStart => exact ⟨0, xs, Nat.zero_le _, rfl, by simpa using HA1.out, HBX1.out, HB1.out⟩
      case round =>
        clear HA1 HBX1 HB1 c0' c1' b0
        obtain ⟨k, ys, hk, rfl, hacc, hbx, hb⟩ := hrel
        have HBX := Lib.hid hbx; have HB := Lib.hid hb; have HBZ := Lib.hid hb.size
        have hfl : (dd ++ (d.take k).filter fun x => decide (P.layAt x.1 l = j)).length ≤ 200 := by
          have h1 := List.length_filter_le (fun x : P.Ent => decide (P.layAt x.1 l = j)) (d.take k)
          have h2 := HVL.out
          rw [List.length_take] at h1
          rw [List.length_append]
          refine Nat.le_trans (Nat.add_le_add h2 (Nat.le_trans (List.length_filter_le _ _) (by rw [List.length_take]; exact Nat.min_le_right _ _))) ?_
          omega
        by_cases hlt2 : k < d.length
        · obtain ⟨g2, q, hga2, hgs2, y, e0, e1, hy⟩ := HD.out.at k hlt2
          have HYW := Lib.hid hy
          have e0' := (hb.cell (p := ⟨g2, _, none⟩) hgs2).trans e0
          have e1' := (hb.cell (p := ⟨g2, _, none⟩) hgs2).trans e1
          have HEN2 := Lib.hid (show (d.take (k + 1)).filter (fun x => decide (P.layAt x.1 l = j)) = (d.take k).filter (fun x => decide (P.layAt x.1 l = j)) ++ if P.layAt d[k].1 l = j then [d[k]] else [] by
            rw [take_snoc d k hlt2, List.filter_append]
            congr 1
            by_cases h : P.layAt d[k].1 l = j
            · rw [if_pos h, List.filter_cons_of_pos (by simpa using h)]; rfl
            · rw [if_neg h, List.filter_cons_of_neg (by simpa using h)]; rfl)
          have hba := (Below.refl wr.heap.size wr).alloc (Nat.le_refl _) (.cells #[y, .string (S d[k].2)] 36)
          have HBA := Lib.hid hba
          have HX := Lib.hid ((hy.below hb).below hba)
          have HU2 := Lib.hid ((HU.out.below hb).below hba)
          have HBX2 := Lib.hid (hbx.below hba)
          obtain ⟨b0, _⟩ := hbx.below hba
          have HB2 := Lib.hid (hb.trans (hba.mono hb.size))
          obtain ⟨yd, yc, rfl, _, _⟩ := hy
          subst hga2
          generalize d[k] = en at *
          obtain ⟨eo, et⟩ := en
          simp only at HX HYW HBA HEN2 HU2 HBX2 HB2 e1'
          obtain ⟨row, hrow⟩ : ∃ row, dd ++ (d.take k).filter (fun x => decide (P.layAt x.1 l = j)) = row := ⟨_, rfl⟩
          rw [hrow] at hacc hfl
          have HROWE := Lib.hid hrow; clear hrow
          have HA := Lib.hid hacc
          obtain ⟨uad, ucap, rfl⟩ := hacc.form
          have i2 : (k : Int) < (d.length : Int) := by omega
          clear hacc hb hba e0 e1 hbx
          go_wp2_with fail
          refine (stackLookup _ _ l eo _ HU2.out HX.out).mono ?_
          rintro e v1 ⟨rfl, hb1⟩
          have hzz : wr.heap.size + 1 ≤ v1.heap.size := by have := hb1.size; simp at this; omega
          have HZ1 := Lib.hid hzz
          have HBv := Lib.hid (show Below wr.heap.size wr v1 from HBA.out.trans (hb1.mono (by simp)))
          have HBX3 := Lib.hid (HBX2.out.below hb1)
          have HB3 := Lib.hid (HB2.out.trans (hb1.mono HB2.out.size))
          have f0 := (hb1.cell (p := ⟨wr.heap.size, 0, none⟩) (by simp)).trans (show (wr.alloc (.cells #[.slice yd eo.length yc, .string (S et)] 36)).cell? ⟨wr.heap.size, 0, none⟩ = some (.slice yd eo.length yc) by go_simp)
          have f1 := (hb1.cell (p := ⟨wr.heap.size, 1, none⟩) (by simp)).trans (show (wr.alloc (.cells #[.slice yd eo.length yc, .string (S et)] 36)).cell? ⟨wr.heap.size, 1, none⟩ = some (.string (S et)) by go_simp)
          have HAV := Lib.hid (HA.out.keep (refE_ok w) HBv.out)
          clear hb1 hzz HX HU2 HBX2 HB2 b0
          cases hok : P.layOk eo l
          · have HNO := Lib.hid (P.visNo (j := j) (.inl hok)); clear hok f0 f1
            have HE3 := Lib.hid (HEN2.out.trans (by rw [if_neg HNO.out, List.append_nil]))
            go_wp2
            go_roundw
            case rel => exact ⟨k + 1, ys, by omega, by go_num, by rw [HE3.out, HROWE.out]; exact HAV.out, HBX3.out, HB3.out⟩
            case measure => simp [intOf]; omega
          · by_cases hix : P.layIdx eo l = j
            · have HYE := Lib.hid (P.visAt hok hix)
              have HOK := Lib.hid hok; have HIX := Lib.hid hix
              have HE3 := Lib.hid (HEN2.out.trans (by rw [if_pos HYE.out]))
              have hq : (P.layIdx eo l == (j : Int)) = true := by simp [hix]
              clear hok hix HEN2
              have HA2 := Lib.hid (HAV.out.keep (refE_ok w) ((Below.refl v1.heap.size v1).alloc (Nat.le_refl _) (.cells #[.slice yd eo.length yc, .string (S et)] 36)))
              have HOW := Lib.hid HA2.out.owns
              have HWV := Lib.hid (show w.heap.size + 1 ≤ v1.heap.size by have h1 := HBZ.out; have h2 := HZ1.out; omega)
              go_wp2_with (at_builtin; refine wpList_append_lies _ rfl _ _ 30 rfl (w.heap.size + 1) 36 i0 (.agg #[.slice none 0 0, .string ⟨#[]⟩]) 2 40 Tryz.underlying30 hi hz0 hz1 hz2 rfl (by decide) (.slice uad row.length ucap) row.length ys rfl HOW.out ⟨v1.heap.size, 0, none⟩ 1 1 [.slice yd eo.length yc, .string (S et)] rfl rfl ?_ ?_ (Nat.zero_lt_one) ?_ ?_ ?_ _ rfl ?_)
              all_goals first | exact ⟨rfl, rfl⟩ | (intro y hy; simp only [List.mem_cons, List.not_mem_nil, or_false] at hy; rcases hy with rfl | rfl <;> rfl) | (unfold maxLen; omega) | omega | (have h1 := HWV.out; simp; omega) | (intro i y hy; rcases i with _ | _ | i; (injection hy with hy; subst hy; rw [add0]; go_simp); (injection hy with hy; subst hy; rw [add0]; go_simp); cases hy) | skip
              intro g1 cap1 v3 hown hgr hat hlt3
              have HB4 := Lib.hid (show Below (w.heap.size + 1) (v1.alloc (.cells #[.slice yd eo.length yc, .string (S et)] 36)) v3 from
                (Below.refl _ _).grown hgr (by have h1 := HWV.out; simp; omega) (fun k hk => (World.ownsRow.lt HA2.out.owns k hk).1))
              have HAC := Lib.hid (HA.out.snoc (a := (eo, et)) (cs := [.slice yd eo.length yc, .string (S et)]) (v1 := v1) (v2 := v1.alloc (.cells #[.slice yd eo.length yc, .string (S et)] 36)) (v3 := v3) (g := g1) (cap := cap1) (F := fun _ => False) (refE_ok w) HBv.out (fun b hb => hb.elim) ⟨_, rfl, HYW.out⟩ rfl ((Below.refl _ _).alloc (Nat.le_refl _) _) hown hgr (by simpa using hat))
              have HBW := Lib.hid (((HB3.out.trans ((Below.refl w.heap.size v1).alloc HB3.out.size _)).trans (HB4.out.mono (by omega))))
              have HBX4 := Lib.hid (show Box1 w.heap.size (.slice (some ⟨g, p, none⟩) l.length cap) v3 from by
                have h2 := HBX3.out.below ((Below.refl v1.heap.size v1).alloc (Nat.le_refl _) (.cells #[.slice yd eo.length yc, .string (S et)] 36))
                exact ⟨(HB4.out.cell (p := ⟨w.heap.size, 0, none⟩) (by show w.heap.size < w.heap.size + 1; omega)).trans h2.1, Nat.lt_of_lt_of_le h2.2 HB4.out.size⟩)
              clear hown hgr hat hlt3 f0 f1
              go_wp2
              go_roundw
              case rel => exact ⟨k + 1, _, by omega, by go_num, by rw [HE3.out, ← List.append_assoc, HROWE.out]; exact HAC.out, HBX4.out, HBW.out⟩
              case measure => simp [intOf]; omega
            · have HNO := Lib.hid (P.visNo (j := j) (.inr hix))
              have HE3 := Lib.hid (HEN2.out.trans (by rw [if_neg HNO.out, List.append_nil]))
              have hq : (P.layIdx eo l == (j : Int)) = false := by simp [hix]
              have HOK := Lib.hid hok
              clear hok hix f0 f1
              go_wp2
              go_roundw
              case rel => exact ⟨k + 1, ys, by omega, by go_num, by rw [HE3.out, HROWE.out]; exact HAV.out, HBX3.out, HB3.out⟩
              case measure => simp [intOf]; omega
        · have hkd : d.length = k := by omega
          have HT := Lib.hid (show d.take k = d from List.take_of_length_le (by omega))
          have HA := Lib.hid hacc
          clear hb hbx hacc
          go_wp2
          go_roundw
          case rel => exact ⟨j + 1, ys, by omega, by go_num, by rw [HEN.out]; have h := HA.out; rw [HT.out] at h; exact h, HBX.out, HB.out⟩
          case measure => simp [intOf]; omega
    · have hjl : l.length = j := by omega
      have HT := Lib.hid (show l.take j = l from List.take_of_length_le (by omega))
      have HB := Lib.hid hb
      have hvl : (P.vis l 0 l).length ≤ 160 := by
        have h := P.vis_len (L := l) (l := l) (i := 0) (fun e he => P.dic_len (List.all_eq_true.1 (P.stack_layers HST.out) e he))
        have h2 := P.stack_len HST.out
        omega
      rw [HT.out] at hacc
      have HRD := Lib.hid (ref_read (hacc.row (by omega)) hb)
      obtain ⟨uad, ucap, rfl⟩ := hacc.form
      have HP := Lib.hid (P.layers_pair (P.stack_layers HST.out))
      clear hb hbx hacc
      go_wp2_with fail
      refine (dictionaryOf_as _ (P.vis l 0 l) (P.flatS l) _ HRD.out (by omega) ?_ (P.flatS_rising l) ?_ (P.vis_ne HP.out)).mono ?_
      · intro e he
        obtain ⟨y, hy, hey⟩ := P.seen_mem (P.vis_seen.1 he)
        exact (HSM.out.each y hy).outs e hey
      · intro x
        rw [P.flatS_seen HP.out, P.vis_seen]
      rintro e w2 ⟨u2, rfl, hI, hb⟩
      have HB2 := Lib.hid (HB.out.trans (hb.mono HB.out.size))
      have HI := Lib.hid hI
      have HZ := Lib.hid HB.out.size
      obtain ⟨u2d, u2c, rfl, _, _⟩ := hI
      clear hb
      go_wp2
      go_ret
      exact ⟨_, rfl, HI.out.wide (fun b hb => ⟨by have h1 := hb.1; have h2 := HZ.out; omega, hb.2⟩) (fun b hb => hb.2), HB2.out⟩
end Go.Proofs.YtonhkglilnplbaaGreatDoor
