/- Walks: a stack made of layers in order (program). -/
import Derived.Deep.DeepCutAuto
import Derived.Deep.RegionLaw
import Derived.Deep.AppendLies
import Derived.Test.YtfoajpehmbojbaaGreatDoorLay5
import Derived.Test.YtfoajpehmbojbaaGreatDoorMemF
namespace Go.Proofs.YtfoajpehmbojbaaGreatDoor
open Go Go.RowKit
set_option maxHeartbeats 4000000
set_option maxRecDepth 100000
/-- what region 5 of stackOf keeps -/
def KOS (W q : Nat) (u x : Value) (et : Bool) (v : World) : Prop :=
  v.cell? ⟨W + 1, 0, none⟩ = some u ∧ v.cell? ⟨q, 0, none⟩ = some x ∧ v.cell? ⟨q, 1, none⟩ = some (.bool et) ∧ v.frozen? ⟨W + 1, 0, none⟩ = false ∧ W + 1 < v.heap.size ∧ q < v.heap.size
theorem KOS.chg {W q : Nat} {u x : Value} {et : Bool} {v v' : World} {X : Blk} (h : KOS W q u x et v) (hc : Chg X v v') (h1 : ¬ X (W + 1)) (h2 : ¬ X q) : KOS W q u x et v' := by
  obtain ⟨a1, a2, a3, a4, a5, a6⟩ := h
  exact ⟨(hc.cell (p := ⟨W + 1, 0, none⟩) a5 h1).trans a1, (hc.cell (p := ⟨q, 0, none⟩) a6 h2).trans a2, (hc.cell (p := ⟨q, 1, none⟩) a6 h2).trans a3, (hc.frozen (p := ⟨W + 1, 0, none⟩) a5 h1).trans a4, Nat.lt_of_lt_of_le a5 hc.size, Nat.lt_of_lt_of_le a6 hc.size⟩
theorem KOS.step {W q : Nat} {u x : Value} {et : Bool} {v v' : World} (h : KOS W q u x et v) (hb : Below v.heap.size v v') : KOS W q u x et v' :=
  h.chg (Below.chg hb fun _ => False) (fun h => h) fun h => h
/-- the two boxes of stackOf -/
def Boxes2 (W : Nat) (u : Value) (v : World) : Prop :=
  v.cell? ⟨W, 0, none⟩ = some (.slice none 0 0) ∧ v.cell? ⟨W + 1, 0, none⟩ = some u ∧ v.frozen? ⟨W, 0, none⟩ = false ∧ v.frozen? ⟨W + 1, 0, none⟩ = false
theorem Boxes2.step {W : Nat} {u : Value} {v v' : World} (h : Boxes2 W u v) (hb : Below (W + 2) v v') : Boxes2 W u v' := by
  obtain ⟨h1, h2, h3, h4⟩ := h
  exact ⟨(hb.cell (p := ⟨W, 0, none⟩) (by show W < W + 2; omega)).trans h1, (hb.cell (p := ⟨W + 1, 0, none⟩) (by show W + 1 < W + 2; omega)).trans h2,
    (hb.frozen (p := ⟨W, 0, none⟩) (by show W < W + 2; omega)).trans h3, (hb.frozen (p := ⟨W + 1, 0, none⟩) (by show W + 1 < W + 2; omega)).trans h4⟩
theorem Boxes2.put {W : Nat} {u u' : Value} {v : World} (h : Boxes2 W u v) : Boxes2 W u' (v.setCell ⟨W + 1, 0, none⟩ u') := by
  obtain ⟨h1, h2, h3, h4⟩ := h
  refine ⟨?_, World.cell?_setCell_same _ _ _ h2, by simpa using h3, by simpa using h4⟩
  rw [World.cell?_setCell_other _ _ _ _ (by intro e; injection e; omega)]; exact h1
theorem stackOf_up (dv : Value) (l : P.Lays) (w : World) (hu : LayR w dv l) (hl : l.length ≤ 2 ^ 20) (hle : ∀ e ∈ l, Small e.1 ∧ P.Up e.1) :
    Calls Tryz.prog 54 #[dv] w (StackPost l w) := by
  obtain ⟨i0, hi, hz0, hz1, hz2⟩ := info_parts info_lay
  have HU := Lib.hid hu
  have HLE := Lib.hid hle; clear hle
  have HBX := Lib.hid (show Boxes2 w.heap.size (.slice none 0 0) ((w.alloc (.cells #[.slice none 0 0] 56)).alloc (.cells #[.slice none 0 0] 56)) by
    refine ⟨?_, ?_, ?_, ?_⟩ <;> go_simp)
  have HB0 := Lib.hid (((Below.refl w.heap.size w).alloc (Nat.le_refl _) (.cells #[.slice none 0 0] 56)).alloc (by simp) (.cells #[.slice none 0 0] 56))
  have HA0 := Lib.hid (show Acc 84 2 layE (w.heap.size + 2) ((w.alloc (.cells #[.slice none 0 0] 56)).alloc (.cells #[.slice none 0 0] 56)) (.slice none 0 0) [] [] from
    Acc.nil (World.ownsRow_nil _ _ _ _) (by simp))
  obtain ⟨dad, dcap, rfl, _, _⟩ := hu
  go_enter Tryz.func54, Tryz.ntmps54
  go_wp2_with fail
  go_loopw [9] (fun i wr => ∃ (j : Nat) (u : Value) (xs : List Value), j ≤ l.length ∧ i = .int .i64 j ∧ Boxes2 w.heap.size u wr ∧ Acc 84 2 layE (w.heap.size + 2) wr u (l.take j) xs ∧ Below w.heap.size w wr) (fun i _ => l.length - (intOf i).toNat)
  case atStart => exact ⟨0, _, _, Nat.zero_le _, rfl, HBX.out, HA0.out, HB0.out⟩
  case round =>
    obtain ⟨j, u, xs, hj, rfl, hbx, hacc, hb⟩ := hrel
    clear HA0 HBX HB0
    have HBZ := Lib.hid (show w.heap.size + 2 ≤ wr.heap.size by obtain ⟨_, _, _, _, h, _⟩ := hacc; exact h)
    have hlt0 : (l.take j).length = j := by rw [List.length_take]; omega
    obtain ⟨uad, ucap, hu'⟩ := hacc.form
    rw [hlt0] at hu'
    subst hu'
    have HA := Lib.hid hacc; have HBX := Lib.hid hbx; have HB := Lib.hid hb
    have HL0 := Lib.hid hlt0; clear hlt0
    obtain ⟨b0, b1, f0, f1⟩ := hbx
    by_cases hlt : j < l.length
    · obtain ⟨g, o, hga, hgs, x, c0, c1, hx⟩ := (HU.out.below hb).at j hlt
      have HEN := Lib.hid (take_snoc l j hlt)
      have hll := (HLE.out _ (List.getElem_mem hlt)).1
      have HUP := Lib.hid (HLE.out _ (List.getElem_mem hlt)).2
      have hba := (Below.refl wr.heap.size wr).alloc (Nat.le_refl _) (.cells #[x, .bool l[j].2] 84)
      have HBA := Lib.hid hba
      have HX := Lib.hid (hx.below hba)
      have HS := Lib.hid (show KOS w.heap.size wr.heap.size (.slice uad j ucap) x l[j].2 (wr.alloc (.cells #[x, .bool l[j].2] 84)).drew from by
        have h0 := HBZ.out
        have k1 : (wr.alloc (.cells #[x, .bool l[j].2] 84)).cell? ⟨w.heap.size + 1, 0, none⟩ = some (.slice uad j ucap) := (hba.cell (p := ⟨w.heap.size + 1, 0, none⟩) (by show w.heap.size + 1 < wr.heap.size; omega)).trans b1
        have k2 : (wr.alloc (.cells #[x, .bool l[j].2] 84)).frozen? ⟨w.heap.size + 1, 0, none⟩ = false := (hba.frozen (p := ⟨w.heap.size + 1, 0, none⟩) (by show w.heap.size + 1 < wr.heap.size; omega)).trans f1
        refine KOS.step (v := wr.alloc (.cells #[x, .bool l[j].2] 84)) ⟨k1, ?_, ?_, k2, by simp; omega, by simp⟩ (Below.refl _ _).drew <;> go_simp)
      obtain ⟨xd, xc, rfl, _, _⟩ := hx
      subst hga
      generalize l[j] = en at *
      obtain ⟨eo, et⟩ := en
      simp only at hll HX HS HBA HUP c1
      have i1 : (j : Int) < (l.length : Int) := by omega
      clear hb hacc hba
      go_upto_region 5 with fail
      refine Left.region [12] (S := KOS w.heap.size wr.heap.size (.slice uad j ucap) (.slice xd eo.length xc) et) (by kernel_rfl) HS.out (fun hS0 => ?_)
      refine Left.take (i := 0) (v := .pointer (some ⟨w.heap.size + 1, 0, none⟩)) rfl (by kernel_rfl) (by kernel_rfl) (by kernel_rfl) (by kernel_rfl) (fun _ _ _ h => h) (Or.inl ⟨by rfl, fun z hz => ?_⟩) hS0 ?_
      · obtain ⟨z1, z2, z3, z4, z5, z6⟩ := hz
        go_simp
      try simp only [List.getElem_toArray, List.getElem_cons_zero, Act.put, List.setIfInBounds_toArray, List.set_cons_zero, List.set_cons_succ]
      refine Left.take (i := 1) (v := .slice uad j ucap) rfl (by kernel_rfl) (by kernel_rfl) (by kernel_rfl) (by kernel_rfl) (fun _ _ _ h => h) (Or.inl ⟨by rfl, fun z hz => ?_⟩) hS0 ?_
      · obtain ⟨z1, z2, z3, z4, z5, z6⟩ := hz
        go_simp
      try simp only [List.getElem_toArray, List.getElem_cons_zero, List.getElem_cons_succ, Act.put, List.setIfInBounds_toArray, List.set_cons_zero, List.set_cons_succ]
      refine Left.take (i := 2) (v := .pointer (some ⟨wr.heap.size, 0, none⟩)) rfl (by kernel_rfl) (by kernel_rfl) (by kernel_rfl) (by kernel_rfl) (fun _ _ _ h => h) (Or.inl ⟨by rfl, fun z hz => ?_⟩) hS0 ?_
      · obtain ⟨z1, z2, z3, z4, z5, z6⟩ := hz
        go_simp
      try simp only [List.getElem_toArray, List.getElem_cons_zero, List.getElem_cons_succ, Act.put, List.setIfInBounds_toArray, List.set_cons_zero, List.set_cons_succ]
      refine Left.take (i := 3) (v := .pointer (some ⟨wr.heap.size, 0, none⟩)) rfl (by kernel_rfl) (by kernel_rfl) (by kernel_rfl) (by kernel_rfl) (fun _ _ _ h => h) (Or.inl ⟨by rfl, fun z hz => ?_⟩) hS0 ?_
      · obtain ⟨z1, z2, z3, z4, z5, z6⟩ := hz
        go_simp
      try simp only [List.getElem_toArray, List.getElem_cons_zero, List.getElem_cons_succ, Act.put, List.setIfInBounds_toArray, List.set_cons_zero, List.set_cons_succ]
      refine Left.take (i := 4) (v := .slice xd eo.length xc) rfl (by kernel_rfl) (by kernel_rfl) (by kernel_rfl) (by kernel_rfl) (fun _ _ _ h => h) (Or.inl ⟨by rfl, fun z hz => ?_⟩) hS0 ?_
      · obtain ⟨z1, z2, z3, z4, z5, z6⟩ := hz
        go_simp
      try simp only [List.getElem_toArray, List.getElem_cons_zero, List.getElem_cons_succ, Act.put, List.setIfInBounds_toArray, List.set_cons_zero, List.set_cons_succ]
      refine Left.take (i := 6) (v := .pointer (some ⟨wr.heap.size, 1, none⟩)) rfl (by kernel_rfl) (by kernel_rfl) (by kernel_rfl) (by kernel_rfl) (fun _ _ _ h => h) (Or.inl ⟨by rfl, fun z hz => ?_⟩) hS0 ?_
      · obtain ⟨z1, z2, z3, z4, z5, z6⟩ := hz
        go_simp
      try simp only [List.getElem_toArray, List.getElem_cons_zero, List.getElem_cons_succ, Act.put, List.setIfInBounds_toArray, List.set_cons_zero, List.set_cons_succ]
      refine Left.take (i := 7) (v := .bool et) rfl (by kernel_rfl) (by kernel_rfl) (by kernel_rfl) (by kernel_rfl) (fun _ _ _ h => h) (Or.inl ⟨by rfl, fun z hz => ?_⟩) hS0 ?_
      · obtain ⟨z1, z2, z3, z4, z5, z6⟩ := hz
        go_simp
      try simp only [List.getElem_toArray, List.getElem_cons_zero, List.getElem_cons_succ, Act.put, List.setIfInBounds_toArray, List.set_cons_zero, List.set_cons_succ]
      refine Left.ready (rs := [5]) (by kernel_rfl) (by simp) ?_
      refine Nexts.cons rfl (fun K hK => ?_) Nexts.nil
      have HXD := Lib.hid (HX.out.below (Below.refl _ _).drew)
      go_simp
      refine (dictionaryOf_up _ eo _ HXD.out HUP.out hll.len hll.outs).mono ?_
      rintro e v1 ⟨x1, rfl, hI, hb1⟩
      have hzz : wr.heap.size + 1 ≤ v1.heap.size := by have := hb1.size; simp at this; omega
      have HZ1 := Lib.hid hzz
      have HB1 := Lib.hid (show Below wr.heap.size wr v1 from HBA.out.drew.trans (hb1.mono (by simp)))
      have HI := Lib.hid (show Ents v1 (Bet (wr.heap.size + 1) v1.heap.size) x1 eo from by simpa using hI)
      obtain ⟨x1d, x1c, rfl, _, _⟩ := hI
      refine on_held hK (by decide) (hS0.step hb1) (fun hS1 => ?_)
      clear hK K hb1 hzz
      try simp only [List.getElem_toArray, List.getElem_cons_zero, List.getElem_cons_succ, Act.put, List.setIfInBounds_toArray, List.set_cons_zero, List.set_cons_succ]
      refine Left.take (i := 8) (v := .agg #[.slice x1d eo.length x1c, .bool et]) rfl (by kernel_rfl) (by kernel_rfl) (by kernel_rfl) (by kernel_rfl) (fun _ _ _ h => h) (Or.inl ⟨by rfl, fun z hz => ?_⟩) hS1 ?_
      · obtain ⟨z1, z2, z3, z4, z5, z6⟩ := hz
        go_simp
      try simp only [List.getElem_toArray, List.getElem_cons_zero, List.getElem_cons_succ, Act.put, List.setIfInBounds_toArray, List.set_cons_zero, List.set_cons_succ]
      refine Left.ready (rs := [9]) (by kernel_rfl) (by simp) ?_
      refine Nexts.cons rfl (fun K hK => ?_) Nexts.nil
      go_simp
      refine on_held hK (by decide) (hS1.step ((Below.refl _ _).alloc (Nat.le_refl _) _)) (fun hS2 => ?_)
      clear hK K
      try simp only [List.getElem_toArray, List.getElem_cons_zero, List.getElem_cons_succ, Act.put, List.setIfInBounds_toArray, List.set_cons_zero, List.set_cons_succ]
      refine Left.ready (rs := [10]) (by kernel_rfl) (by simp) ?_
      refine Nexts.cons rfl (fun K hK => ?_) Nexts.nil
      have HA2 := Lib.hid ((HA.out.keep layE_ok HB1.out).keep layE_ok ((Below.refl v1.heap.size v1).alloc (Nat.le_refl _) (.cells #[.slice x1d eo.length x1c, .bool et] 84)))
      refine step_append_lies _ rfl _ _ 54 rfl (w.heap.size + 2) 84 i0 (.agg #[.slice none 0 0, .bool false]) 2 32 Tryz.underlying54 hi hz0 hz1 hz2 rfl (by decide) (.slice uad j ucap) j xs rfl (by have := HA2.out.owns; rwa [HL0.out] at this) ⟨v1.heap.size, 0, none⟩ 1 1 [.slice x1d eo.length x1c, .bool et] rfl rfl ?_ ?_ (by decide) (by unfold maxLen; omega) (by omega) ?_ _ rfl ?_
      · intro i y hy
        match i, hy with
        | 0, hy => injection hy with hy; subst hy; rw [add0]; go_simp
        | 1, hy => injection hy with hy; subst hy; rw [add0]; go_simp
      · intro y hy
        simp only [List.mem_cons, List.not_mem_nil, or_false] at hy
        rcases hy with rfl | rfl <;> rfl
      · have h1 := HZ1.out; have h2 := HBZ.out; simp; omega
      intro g1 cap1 v3 hown hgr hat hlt3
      have HB3 := Lib.hid (show Below (w.heap.size + 2) (v1.alloc (.cells #[.slice x1d eo.length x1c, .bool et] 84)) v3 from
        (Below.refl _ _).grown hgr (by have h1 := HZ1.out; have h2 := HBZ.out; simp; omega) (fun k hk => (World.ownsRow.lt HA2.out.owns k hk).1))
      have hS3 := hS2.chg (X := fun b => (Value.slice uad j ucap).ownBlock = some b) ⟨hgr.os, hgr.tape, hgr.output, hgr.size, fun b hb hf => hgr.block b hb fun e => hf e.symm⟩
        (fun hk => by have := (World.ownsRow.lt HA2.out.owns _ hk).1; omega) (fun hk => by have := (World.ownsRow.lt HA.out.owns _ hk).2; omega)
      have hsc := hS3.1
      have hsf := hS3.2.2.2.1
      have HBX3 := Lib.hid (((HBX.out.step (HB1.out.mono HBZ.out)).step ((Below.refl (w.heap.size + 2) v1).alloc (by have h1 := HZ1.out; have h2 := HBZ.out; omega) (.cells #[.slice x1d eo.length x1c, .bool et] 84))).step HB3.out)
      have HAC := Lib.hid (HA.out.snoc (a := (eo, et)) (cs := [.slice x1d eo.length x1c, .bool et]) (v1 := v1) (v2 := v1.alloc (.cells #[.slice x1d eo.length x1c, .bool et] 84)) (v3 := v3) (g := g1) (cap := cap1) (F := Bet (wr.heap.size + 1) v1.heap.size) layE_ok HB1.out (fun b hb => ⟨by have := hb.1; omega, hb.2⟩) (layE_mk HI.out) rfl ((Below.refl _ _).alloc (Nat.le_refl _) _) (by rw [HL0.out]; exact hown) hgr hat)
      have HBW := Lib.hid (show Below w.heap.size w v3 from ((HB.out.trans (HB1.out.mono (by have := HBZ.out; omega))).trans ((Below.refl w.heap.size v1).alloc (by have h1 := HZ1.out; have h2 := HBZ.out; omega) _)).trans (HB3.out.mono (by omega)))
      refine on_held hK (by decide) hS3 (fun hS4 => ?_)
      clear hK K hown hgr hat hS2 hS1 HB1 HB3 HI HA2 HX HXD HS HA HBX HB HBA HUP
      try simp only [List.getElem_toArray, List.getElem_cons_zero, List.getElem_cons_succ, Act.put, List.setIfInBounds_toArray, List.set_cons_zero, List.set_cons_succ]
      refine Left.take (i := 11) (v := .pointer (some ⟨w.heap.size + 1, 0, none⟩)) rfl (by kernel_rfl) (by kernel_rfl) (by kernel_rfl) (by kernel_rfl) (fun _ _ _ h => h) (Or.inl ⟨by rfl, fun z hz => ?_⟩) hS4 ?_
      · obtain ⟨z1, z2, z3, z4, z5, z6⟩ := hz
        go_simp
      try simp only [List.getElem_toArray, List.getElem_cons_zero, List.getElem_cons_succ, Act.put, List.setIfInBounds_toArray, List.set_cons_zero, List.set_cons_succ]
      refine Left.ready (rs := [12]) (by kernel_rfl) (by simp) ?_
      refine Nexts.cons rfl (fun K hK => ?_) Nexts.nil
      go_simp
      refine on_last hK (by decide) ?_
      clear hK K hS0
      try simp only [List.getElem_toArray, List.getElem_cons_zero, List.getElem_cons_succ, Act.put, List.setIfInBounds_toArray, List.set_cons_zero, List.set_cons_succ]
      refine Left.done (by kernel_rfl) ?_ _
      have HFIN := Lib.hid (show Boxes2 w.heap.size (.slice (some ⟨g1, 0, none⟩) (j + 1) cap1) (v3.setCell ⟨w.heap.size + 1, 0, none⟩ (.slice (some ⟨g1, 0, none⟩) (j + 1) cap1)) from HBX3.out.put)
      have HAF := Lib.hid (show Acc 84 2 layE (w.heap.size + 2) (v3.setCell ⟨w.heap.size + 1, 0, none⟩ (.slice (some ⟨g1, 0, none⟩) (j + 1) cap1)) (.slice (some ⟨g1, 0, none⟩) (j + 1) cap1) (l.take j ++ [(eo, et)]) (xs ++ [.slice x1d eo.length x1c, .bool et]) from by
        have h := HAC.out
        rw [HL0.out] at h
        exact h.stand layE_ok (X := fun b => b = w.heap.size + 1) ((Chg.refl (fun b => b = w.heap.size + 1) v3).setCell (p := ⟨w.heap.size + 1, 0, none⟩) rfl _) (by intro b hb; omega))
      have HBF := Lib.hid (show Below w.heap.size w (v3.setCell ⟨w.heap.size + 1, 0, none⟩ (.slice (some ⟨g1, 0, none⟩) (j + 1) cap1)) from HBW.out.setCell (by simp) _)
      clear hsc hsf hS3 hS4 HAC HBX3 HBW
      generalize v3.setCell ⟨w.heap.size + 1, 0, none⟩ (.slice (some ⟨g1, 0, none⟩) (j + 1) cap1) = v4 at *
      go_wp2
      go_roundw
      case rel => exact ⟨j + 1, _, _, by omega, by go_num, HFIN.out, by rw [HEN.out]; exact HAF.out, HBF.out⟩
      case measure => simp [intOf]; omega
    · have hjl : l.length = j := by omega
      have HT := Lib.hid (show l.take j = l from List.take_of_length_le (by omega))
      clear hb hacc
      go_wp2
      refine bodyPost_ret (v := .agg #[.slice uad j ucap]) (by simp [results, Tryz.results54, go_sem, b0]) rfl ⟨_, rfl, ?_, HB.out.setCell (Nat.le_refl _) _⟩
      have h := HA.out
      rw [HT.out] at h
      have hr := h.row (by omega)
      have hr2 : Lays wr (Bet (w.heap.size + 2) wr.heap.size) (.slice uad j ucap) l := hr
      exact (hr2.stand layE_ok (X := fun b => b = w.heap.size) ((Chg.refl (fun b => b = w.heap.size) wr).setCell (p := ⟨w.heap.size, 0, none⟩) rfl (.slice uad j ucap)) (by intro b hb; have := hb.1; omega)).wide (fun b hb => ⟨by have := hb.1; omega, by simpa [World.setCell] using hb.2⟩) (fun b hb => hb.2)
end Go.Proofs.YtfoajpehmbojbaaGreatDoor
