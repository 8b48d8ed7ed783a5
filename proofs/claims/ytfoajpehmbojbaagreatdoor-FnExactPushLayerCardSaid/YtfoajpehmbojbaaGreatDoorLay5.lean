/- Walks: a copy of a stack (reference). -/
import Derived.Deep.DeepCutAuto
import Derived.Deep.RegionLaw
import Derived.Deep.AppendLies
import Derived.Test.YtfoajpehmbojbaaGreatDoorLay4
namespace Go.Proofs.YtfoajpehmbojbaaGreatDoor
open Go Go.RowKit
set_option maxHeartbeats 4000000
set_option maxRecDepth 100000
/-- what region 5 of l8Own keeps -/
def KOL (W : Nat) (dv u : Value) (g p : Nat) (x : Value) (et : Bool) (v : World) : Prop :=
  v.cell? ⟨W, 0, none⟩ = some dv ∧ v.cell? ⟨W + 2, 0, none⟩ = some u ∧ v.cell? ⟨g, p, none⟩ = some x ∧ v.cell? ⟨g, p + 1, none⟩ = some (.bool et) ∧ v.frozen? ⟨W + 2, 0, none⟩ = false ∧ g < W
theorem KOL.step {W : Nat} {dv u : Value} {g p : Nat} {x : Value} {et : Bool} {v v' : World} (h : KOL W dv u g p x et v) (hb : Below (W + 3) v v') : KOL W dv u g p x et v' := by
  obtain ⟨h1, h2, h3, h4, h5, h6⟩ := h
  exact ⟨(hb.cell (p := ⟨W, 0, none⟩) (by show W < W + 3; omega)).trans h1, (hb.cell (p := ⟨W + 2, 0, none⟩) (by show W + 2 < W + 3; omega)).trans h2, (hb.cell (p := ⟨g, p, none⟩) (by show g < W + 3; omega)).trans h3,
    (hb.cell (p := ⟨g, p + 1, none⟩) (by show g < W + 3; omega)).trans h4, (hb.frozen (p := ⟨W + 2, 0, none⟩) (by show W + 2 < W + 3; omega)).trans h5, h6⟩
theorem layE_mk {v : World} {F : Blk} {x : Value} {o : P.Dic} {t : Bool} (h : Ents v F x o) : layE v F [x, .bool t] (o, t) := ⟨x, rfl, h⟩
theorem l8Own (dv : Value) (l : P.Lays) (w : World) (hu : LayR w dv l) (hl : l.length ≤ 2 ^ 20) (hle : ∀ e ∈ l, Small e.1) :
    Calls Tryz.prog 51 #[.agg #[dv]] w (StackPost l w) := by
  obtain ⟨i0, hi, hz0, hz1, hz2⟩ := info_parts info_lay
  have HU := Lib.hid hu
  have HLE := Lib.hid hle; clear hle
  have HBX := Lib.hid (show Boxes w.heap.size dv (.slice none 0 0) (((w.alloc (.cells #[dv] 56)).alloc (.cells #[.slice none 0 0] 56)).alloc (.cells #[.slice none 0 0] 56)) by
    refine ⟨?_, ?_, ?_, ?_, ?_⟩ <;> go_simp)
  have HB0 := Lib.hid ((((Below.refl w.heap.size w).alloc (Nat.le_refl _) (.cells #[dv] 56)).alloc (by simp) (.cells #[.slice none 0 0] 56)).alloc (by simp; omega) (.cells #[.slice none 0 0] 56))
  have HA0 := Lib.hid (show Acc 84 2 layE (w.heap.size + 3) (((w.alloc (.cells #[dv] 56)).alloc (.cells #[.slice none 0 0] 56)).alloc (.cells #[.slice none 0 0] 56)) (.slice none 0 0) [] [] from
    Acc.nil (World.ownsRow_nil _ _ _ _) (by simp))
  obtain ⟨dad, dcap, rfl, _, _⟩ := hu
  go_enter Tryz.func51, Tryz.ntmps51
  go_wp2_with fail
  go_loopw [4] (fun i wr => ∃ (j : Nat) (u : Value) (xs : List Value), j ≤ l.length ∧ i = .int .i64 j ∧ Boxes w.heap.size (.slice dad l.length dcap) u wr ∧ Acc 84 2 layE (w.heap.size + 3) wr u (l.take j) xs ∧ Below w.heap.size w wr) (fun i _ => l.length - (intOf i).toNat)
  case atStart => exact ⟨0, _, _, Nat.zero_le _, rfl, HBX.out, HA0.out, HB0.out⟩
  case round =>
    obtain ⟨j, u, xs, hj, rfl, hbx, hacc, hb⟩ := hrel
    clear HA0 HBX HB0
    have HBZ := Lib.hid (show w.heap.size + 3 ≤ wr.heap.size by obtain ⟨_, _, _, _, h, _⟩ := hacc; exact h)
    have hlt0 : (l.take j).length = j := by rw [List.length_take]; omega
    obtain ⟨uad, ucap, hu'⟩ := hacc.form
    rw [hlt0] at hu'
    subst hu'
    have HA := Lib.hid hacc; have HBX := Lib.hid hbx; have HB := Lib.hid hb
    have HL0 := Lib.hid hlt0; clear hlt0
    obtain ⟨b0, b1, b2, f1, f2⟩ := hbx
    by_cases hlt : j < l.length
    · obtain ⟨g, o, hga, hgs, x, c0, c1, hx⟩ := HU.out.at j hlt
      have hgw : g < w.heap.size := hgs
      have HEN := Lib.hid (take_snoc l j hlt)
      have hll := HLE.out _ (List.getElem_mem hlt)
      have HX := Lib.hid (hx.below hb)
      have HXO := Lib.hid hx
      have HS := Lib.hid (show KOL w.heap.size (.slice dad l.length dcap) (.slice uad j ucap) g (o + j * 2) x l[j].2 wr.drew from
        KOL.step ⟨b0, b2, (hb.cell (p := ⟨g, _, none⟩) hgs).trans c0, (hb.cell (p := ⟨g, _, none⟩) hgs).trans c1, f2, hgw⟩ (Below.refl _ _).drew)
      obtain ⟨xd, xc, rfl, _, _⟩ := hx
      subst hga
      generalize l[j] = en at *
      obtain ⟨eo, et⟩ := en
      simp only at hll HX HS HXO
      have i1 : (j : Int) < (l.length : Int) := by omega
      clear hb hacc c0 c1
      go_upto_region 5 with fail
      refine Left.region [19] (S := KOL w.heap.size (.slice (some ⟨g, o, none⟩) l.length dcap) (.slice uad j ucap) g (o + j * 2) (.slice xd eo.length xc) et) (by kernel_rfl) HS.out (fun hS0 => ?_)
      refine Left.take (i := 0) (v := .pointer (some ⟨w.heap.size + 2, 0, none⟩)) rfl (by kernel_rfl) (by kernel_rfl) (by kernel_rfl) (by kernel_rfl) (fun _ _ _ h => h) (Or.inl ⟨by rfl, fun z hz => ?_⟩) hS0 ?_
      · obtain ⟨z1, z2, z3, z4, z5, z6⟩ := hz
        go_simp
      try simp only [List.getElem_toArray, List.getElem_cons_zero, Act.put, List.setIfInBounds_toArray, List.set_cons_zero, List.set_cons_succ]
      refine Left.take (i := 1) (v := .slice uad j ucap) rfl (by kernel_rfl) (by kernel_rfl) (by kernel_rfl) (by kernel_rfl) (fun _ _ _ h => h) (Or.inl ⟨by rfl, fun z hz => ?_⟩) hS0 ?_
      · obtain ⟨z1, z2, z3, z4, z5, z6⟩ := hz
        go_simp
      try simp only [List.getElem_toArray, List.getElem_cons_zero, List.getElem_cons_succ, Act.put, List.setIfInBounds_toArray, List.set_cons_zero, List.set_cons_succ]
      refine Left.take (i := 2) (v := .pointer (some ⟨w.heap.size, 0, none⟩)) rfl (by kernel_rfl) (by kernel_rfl) (by kernel_rfl) (by kernel_rfl) (fun _ _ _ h => h) (Or.inl ⟨by rfl, fun z hz => ?_⟩) hS0 ?_
      · obtain ⟨z1, z2, z3, z4, z5, z6⟩ := hz
        go_simp
      try simp only [List.getElem_toArray, List.getElem_cons_zero, List.getElem_cons_succ, Act.put, List.setIfInBounds_toArray, List.set_cons_zero, List.set_cons_succ]
      refine Left.take (i := 3) (v := .slice (some ⟨g, o, none⟩) l.length dcap) rfl (by kernel_rfl) (by kernel_rfl) (by kernel_rfl) (by kernel_rfl) (fun _ _ _ h => h) (Or.inl ⟨by rfl, fun z hz => ?_⟩) hS0 ?_
      · obtain ⟨z1, z2, z3, z4, z5, z6⟩ := hz
        go_simp
      try simp only [List.getElem_toArray, List.getElem_cons_zero, List.getElem_cons_succ, Act.put, List.setIfInBounds_toArray, List.set_cons_zero, List.set_cons_succ]
      refine Left.take (i := 4) (v := .int .i64 j) rfl (by kernel_rfl) (by kernel_rfl) (by kernel_rfl) (by kernel_rfl) (fun _ _ _ h => h) (Or.inl ⟨by rfl, fun z hz => ?_⟩) hS0 ?_
      · obtain ⟨z1, z2, z3, z4, z5, z6⟩ := hz
        go_simp
      try simp only [List.getElem_toArray, List.getElem_cons_zero, List.getElem_cons_succ, Act.put, List.setIfInBounds_toArray, List.set_cons_zero, List.set_cons_succ]
      refine Left.take (i := 5) (v := .pointer (some ⟨g, o + j * 2, none⟩)) rfl (by kernel_rfl) (by kernel_rfl) (by kernel_rfl) (by kernel_rfl) (fun _ _ _ h => h) (Or.inl ⟨by rfl, fun z hz => ?_⟩) hS0 ?_
      · obtain ⟨z1, z2, z3, z4, z5, z6⟩ := hz
        go_simp
      try simp only [List.getElem_toArray, List.getElem_cons_zero, List.getElem_cons_succ, Act.put, List.setIfInBounds_toArray, List.set_cons_zero, List.set_cons_succ]
      refine Left.take (i := 6) (v := .pointer (some ⟨g, o + j * 2, none⟩)) rfl (by kernel_rfl) (by kernel_rfl) (by kernel_rfl) (by kernel_rfl) (fun _ _ _ h => h) (Or.inl ⟨by rfl, fun z hz => ?_⟩) hS0 ?_
      · obtain ⟨z1, z2, z3, z4, z5, z6⟩ := hz
        go_simp
      try simp only [List.getElem_toArray, List.getElem_cons_zero, List.getElem_cons_succ, Act.put, List.setIfInBounds_toArray, List.set_cons_zero, List.set_cons_succ]
      refine Left.take (i := 7) (v := .agg #[.slice xd eo.length xc]) rfl (by kernel_rfl) (by kernel_rfl) (by kernel_rfl) (by kernel_rfl) (fun _ _ _ h => h) (Or.inl ⟨by rfl, fun z hz => ?_⟩) hS0 ?_
      · obtain ⟨z1, z2, z3, z4, z5, z6⟩ := hz
        go_simp
      try simp only [List.getElem_toArray, List.getElem_cons_zero, List.getElem_cons_succ, Act.put, List.setIfInBounds_toArray, List.set_cons_zero, List.set_cons_succ]
      refine Left.take (i := 9) (v := .pointer (some ⟨w.heap.size, 0, none⟩)) rfl (by kernel_rfl) (by kernel_rfl) (by kernel_rfl) (by kernel_rfl) (fun _ _ _ h => h) (Or.inl ⟨by rfl, fun z hz => ?_⟩) hS0 ?_
      · obtain ⟨z1, z2, z3, z4, z5, z6⟩ := hz
        go_simp
      try simp only [List.getElem_toArray, List.getElem_cons_zero, List.getElem_cons_succ, Act.put, List.setIfInBounds_toArray, List.set_cons_zero, List.set_cons_succ]
      refine Left.take (i := 10) (v := .slice (some ⟨g, o, none⟩) l.length dcap) rfl (by kernel_rfl) (by kernel_rfl) (by kernel_rfl) (by kernel_rfl) (fun _ _ _ h => h) (Or.inl ⟨by rfl, fun z hz => ?_⟩) hS0 ?_
      · obtain ⟨z1, z2, z3, z4, z5, z6⟩ := hz
        go_simp
      try simp only [List.getElem_toArray, List.getElem_cons_zero, List.getElem_cons_succ, Act.put, List.setIfInBounds_toArray, List.set_cons_zero, List.set_cons_succ]
      refine Left.take (i := 11) (v := .int .i64 j) rfl (by kernel_rfl) (by kernel_rfl) (by kernel_rfl) (by kernel_rfl) (fun _ _ _ h => h) (Or.inl ⟨by rfl, fun z hz => ?_⟩) hS0 ?_
      · obtain ⟨z1, z2, z3, z4, z5, z6⟩ := hz
        go_simp
      try simp only [List.getElem_toArray, List.getElem_cons_zero, List.getElem_cons_succ, Act.put, List.setIfInBounds_toArray, List.set_cons_zero, List.set_cons_succ]
      refine Left.take (i := 12) (v := .pointer (some ⟨g, o + j * 2, none⟩)) rfl (by kernel_rfl) (by kernel_rfl) (by kernel_rfl) (by kernel_rfl) (fun _ _ _ h => h) (Or.inl ⟨by rfl, fun z hz => ?_⟩) hS0 ?_
      · obtain ⟨z1, z2, z3, z4, z5, z6⟩ := hz
        go_simp
      try simp only [List.getElem_toArray, List.getElem_cons_zero, List.getElem_cons_succ, Act.put, List.setIfInBounds_toArray, List.set_cons_zero, List.set_cons_succ]
      refine Left.take (i := 13) (v := .pointer (some ⟨g, o + j * 2 + 1, none⟩)) rfl (by kernel_rfl) (by kernel_rfl) (by kernel_rfl) (by kernel_rfl) (fun _ _ _ h => h) (Or.inl ⟨by rfl, fun z hz => ?_⟩) hS0 ?_
      · obtain ⟨z1, z2, z3, z4, z5, z6⟩ := hz
        go_simp
      try simp only [List.getElem_toArray, List.getElem_cons_zero, List.getElem_cons_succ, Act.put, List.setIfInBounds_toArray, List.set_cons_zero, List.set_cons_succ]
      refine Left.take (i := 14) (v := .bool et) rfl (by kernel_rfl) (by kernel_rfl) (by kernel_rfl) (by kernel_rfl) (fun _ _ _ h => h) (Or.inl ⟨by rfl, fun z hz => ?_⟩) hS0 ?_
      · obtain ⟨z1, z2, z3, z4, z5, z6⟩ := hz
        go_simp
      try simp only [List.getElem_toArray, List.getElem_cons_zero, List.getElem_cons_succ, Act.put, List.setIfInBounds_toArray, List.set_cons_zero, List.set_cons_succ]
      refine Left.ready (rs := [8]) (by kernel_rfl) (by simp) ?_
      refine Nexts.cons rfl (fun K hK => ?_) Nexts.nil
      have HXD := Lib.hid (HX.out.below (Below.refl _ _).drew)
      go_simp
      refine (l6Own _ eo _ HXD.out hll.len hll.outs).mono ?_
      rintro e v1 ⟨x1, rfl, hI, hb1⟩
      have HB1 := Lib.hid (show Below wr.heap.size wr v1 from (Below.refl wr.heap.size wr).drew.trans hb1)
      have HI := Lib.hid (show Ents v1 (Bet wr.heap.size v1.heap.size) x1 eo from hI)
      have HZ1 := Lib.hid (show wr.heap.size ≤ v1.heap.size from hb1.size)
      obtain ⟨x1d, x1c, rfl, _, _⟩ := hI
      refine on_held hK (by decide) (hS0.step (hb1.mono HBZ.out)) (fun hS1 => ?_)
      clear hK K hb1
      try simp only [List.getElem_toArray, List.getElem_cons_zero, List.getElem_cons_succ, Act.put, List.setIfInBounds_toArray, List.set_cons_zero, List.set_cons_succ]
      refine Left.take (i := 15) (v := .agg #[.slice x1d eo.length x1c, .bool et]) rfl (by kernel_rfl) (by kernel_rfl) (by kernel_rfl) (by kernel_rfl) (fun _ _ _ h => h) (Or.inl ⟨by rfl, fun z hz => ?_⟩) hS1 ?_
      · obtain ⟨z1, z2, z3, z4, z5, z6⟩ := hz
        go_simp
      try simp only [List.getElem_toArray, List.getElem_cons_zero, List.getElem_cons_succ, Act.put, List.setIfInBounds_toArray, List.set_cons_zero, List.set_cons_succ]
      refine Left.ready (rs := [16]) (by kernel_rfl) (by simp) ?_
      refine Nexts.cons rfl (fun K hK => ?_) Nexts.nil
      go_simp
      refine on_held hK (by decide) (hS1.step ((Below.refl _ _).alloc (Nat.le_trans HBZ.out HZ1.out) _)) (fun hS2 => ?_)
      clear hK K
      try simp only [List.getElem_toArray, List.getElem_cons_zero, List.getElem_cons_succ, Act.put, List.setIfInBounds_toArray, List.set_cons_zero, List.set_cons_succ]
      refine Left.ready (rs := [17]) (by kernel_rfl) (by simp) ?_
      refine Nexts.cons rfl (fun K hK => ?_) Nexts.nil
      have HA2 := Lib.hid ((HA.out.keep layE_ok HB1.out).keep layE_ok ((Below.refl v1.heap.size v1).alloc (Nat.le_refl _) (.cells #[.slice x1d eo.length x1c, .bool et] 84)))
      refine step_append_lies _ rfl _ _ 54 rfl (w.heap.size + 3) 84 i0 (.agg #[.slice none 0 0, .bool false]) 2 32 Tryz.underlying54 hi hz0 hz1 hz2 rfl (by decide) (.slice uad j ucap) j xs rfl (by have := HA2.out.owns; rwa [HL0.out] at this) ⟨v1.heap.size, 0, none⟩ 1 1 [.slice x1d eo.length x1c, .bool et] rfl rfl ?_ ?_ (by decide) (by unfold maxLen; omega) (by omega) ?_ _ rfl ?_
      · intro i y hy
        match i, hy with
        | 0, hy => injection hy with hy; subst hy; rw [add0]; go_simp
        | 1, hy => injection hy with hy; subst hy; rw [add0]; go_simp
      · intro y hy
        simp only [List.mem_cons, List.not_mem_nil, or_false] at hy
        rcases hy with rfl | rfl <;> rfl
      · have h1 := HZ1.out; have h2 := HBZ.out; simp; omega
      intro g1 cap1 v3 hown hgr hat hlt3
      have HB3 := Lib.hid (show Below (w.heap.size + 3) (v1.alloc (.cells #[.slice x1d eo.length x1c, .bool et] 84)) v3 from
        (Below.refl _ _).grown hgr (by have h1 := HZ1.out; have h2 := HBZ.out; simp; omega) (fun k hk => (World.ownsRow.lt HA2.out.owns k hk).1))
      have hS3 := hS2.step HB3.out
      have hsc := hS3.2.1
      have hsf := hS3.2.2.2.2.1
      have HBX3 := Lib.hid (((HBX.out.step (HB1.out.mono HBZ.out)).step ((Below.refl (w.heap.size + 3) v1).alloc (Nat.le_trans HBZ.out HZ1.out) (.cells #[.slice x1d eo.length x1c, .bool et] 84))).step HB3.out)
      have HAC := Lib.hid (HA.out.snoc (a := (eo, et)) (cs := [.slice x1d eo.length x1c, .bool et]) (v1 := v1) (v2 := v1.alloc (.cells #[.slice x1d eo.length x1c, .bool et] 84)) (v3 := v3) (g := g1) (cap := cap1) layE_ok HB1.out (fun b hb => hb) (layE_mk HI.out) rfl ((Below.refl _ _).alloc (Nat.le_refl _) _) (by rw [HL0.out]; exact hown) hgr hat)
      have HBW := Lib.hid (show Below w.heap.size w v3 from ((HB.out.trans (HB1.out.mono (by have := HBZ.out; omega))).trans ((Below.refl w.heap.size v1).alloc (by have h1 := HZ1.out; have h2 := HBZ.out; omega) _)).trans (HB3.out.mono (by omega)))
      refine on_held hK (by decide) hS3 (fun hS4 => ?_)
      clear hK K hown hgr hat hS2 hS1 HB1 HB3 HI HA2 HX HXD HXO HS HA HBX HB
      try simp only [List.getElem_toArray, List.getElem_cons_zero, List.getElem_cons_succ, Act.put, List.setIfInBounds_toArray, List.set_cons_zero, List.set_cons_succ]
      refine Left.take (i := 18) (v := .pointer (some ⟨w.heap.size + 2, 0, none⟩)) rfl (by kernel_rfl) (by kernel_rfl) (by kernel_rfl) (by kernel_rfl) (fun _ _ _ h => h) (Or.inl ⟨by rfl, fun z hz => ?_⟩) hS4 ?_
      · obtain ⟨z1, z2, z3, z4, z5, z6⟩ := hz
        go_simp
      try simp only [List.getElem_toArray, List.getElem_cons_zero, List.getElem_cons_succ, Act.put, List.setIfInBounds_toArray, List.set_cons_zero, List.set_cons_succ]
      refine Left.ready (rs := [19]) (by kernel_rfl) (by simp) ?_
      refine Nexts.cons rfl (fun K hK => ?_) Nexts.nil
      go_simp
      refine on_last hK (by decide) ?_
      clear hK K hS0
      try simp only [List.getElem_toArray, List.getElem_cons_zero, List.getElem_cons_succ, Act.put, List.setIfInBounds_toArray, List.set_cons_zero, List.set_cons_succ]
      refine Left.done (by kernel_rfl) ?_ _
      have HFIN := Lib.hid (show Boxes w.heap.size (.slice (some ⟨g, o, none⟩) l.length dcap) (.slice (some ⟨g1, 0, none⟩) (j + 1) cap1) (v3.setCell ⟨w.heap.size + 2, 0, none⟩ (.slice (some ⟨g1, 0, none⟩) (j + 1) cap1)) from HBX3.out.put)
      have HAF := Lib.hid (show Acc 84 2 layE (w.heap.size + 3) (v3.setCell ⟨w.heap.size + 2, 0, none⟩ (.slice (some ⟨g1, 0, none⟩) (j + 1) cap1)) (.slice (some ⟨g1, 0, none⟩) (j + 1) cap1) (l.take j ++ [(eo, et)]) (xs ++ [.slice x1d eo.length x1c, .bool et]) from by
        have h := HAC.out
        rw [HL0.out] at h
        exact h.stand layE_ok (X := fun b => b = w.heap.size + 2) ((Chg.refl (fun b => b = w.heap.size + 2) v3).setCell (p := ⟨w.heap.size + 2, 0, none⟩) rfl _) (by intro b hb; omega))
      have HBF := Lib.hid (show Below w.heap.size w (v3.setCell ⟨w.heap.size + 2, 0, none⟩ (.slice (some ⟨g1, 0, none⟩) (j + 1) cap1)) from HBW.out.setCell (by simp) _)
      clear hsc hsf hS3 hS4 HAC HBX3 HBW
      generalize v3.setCell ⟨w.heap.size + 2, 0, none⟩ (.slice (some ⟨g1, 0, none⟩) (j + 1) cap1) = v4 at *
      go_wp2
      go_roundw
      case rel => exact ⟨j + 1, _, _, by omega, by go_num, HFIN.out, by rw [HEN.out]; exact HAF.out, HBF.out⟩
      case measure => simp [intOf]; omega
    · have hjl : l.length = j := by omega
      have HT := Lib.hid (show l.take j = l from List.take_of_length_le (by omega))
      clear hb hacc
      go_wp2
      refine bodyPost_ret (v := .agg #[.slice uad j ucap]) (by simp [results, Tryz.results51, go_sem, b1]) rfl ⟨_, rfl, ?_, HB.out.setCell (by simp) _⟩
      have h := HA.out
      rw [HT.out] at h
      have hr := h.row (by omega)
      have hr2 : Lays wr (Bet (w.heap.size + 3) wr.heap.size) (.slice uad j ucap) l := hr
      exact (hr2.stand layE_ok (X := fun b => b = w.heap.size + 1) ((Chg.refl (fun b => b = w.heap.size + 1) wr).setCell (p := ⟨w.heap.size + 1, 0, none⟩) rfl (.slice uad j ucap)) (by intro b hb; have := hb.1; omega)).wide (fun b hb => ⟨by have := hb.1; omega, by simpa [World.setCell] using hb.2⟩) (fun b hb => hb.2)
end Go.Proofs.YtfoajpehmbojbaaGreatDoor
