/- Walks: an entry taken out of a dictionary (reference). -/
import Derived.Test.YtfoajpehmbojbaaGreatDoorDel2
import Derived.Test.YtfoajpehmbojbaaGreatDoorOutD
import Derived.Test.YtfoajpehmbojbaaGreatDoorLawD
namespace Go.Proofs.YtfoajpehmbojbaaGreatDoor
open Go Go.RowKit
set_option maxHeartbeats 2000000
set_option maxRecDepth 100000
def DelPost (l : P.Dic) (o : List Int) (w : World) (e : Ending) (w' : World) : Prop :=
  ∃ u, e = .returned (.tuple #[.agg #[u], .bool (P.delOk o l)]) ∧ Ents w' (Bet w.heap.size w'.heap.size) u (P.kept (P.delOk o l) (P.del o l)) ∧ Below w.heap.size w w'
/-- the boxes of Delete -/
def DBox (W : Nat) (dv : Value) (v : World) : Prop :=
  v.cell? ⟨W, 0, none⟩ = some dv ∧ v.cell? ⟨W + 1, 0, none⟩ = some (.slice none 0 0) ∧ v.frozen? ⟨W + 1, 0, none⟩ = false ∧ W + 1 < v.heap.size
theorem DBox.stand {W : Nat} {dv : Value} {v v' : World} {X : Blk} (h : DBox W dv v) (hc : Chg X v v') (h0 : ¬ X W) (h1 : ¬ X (W + 1)) : DBox W dv v' := by
  obtain ⟨a, b, c, d⟩ := h
  exact ⟨(hc.cell (p := ⟨W, 0, none⟩) (by show W < _; omega) h0).trans a, (hc.cell (p := ⟨W + 1, 0, none⟩) d h1).trans b, (hc.frozen (p := ⟨W + 1, 0, none⟩) d h1).trans c, Nat.lt_of_lt_of_le d hc.size⟩
theorem DBox.below {W : Nat} {dv : Value} {v v' : World} (h : DBox W dv v) (hb : Below v.heap.size v v') : DBox W dv v' := h.stand (Below.chg hb fun _ => False) (fun h => h) (fun h => h)
theorem DBox.new (dv : Value) (v : World) (t : TypeId) : DBox v.heap.size dv ((v.alloc (.cells #[dv] t)).alloc (.cells #[.slice none 0 0] 29)) := by
  refine ⟨?_, ?_, ?_, ?_⟩ <;> go_simp
theorem flat_mem {C : Nat → List Value} {y : Value} : ∀ (n : Nat), y ∈ flat C n → ∃ j, j < n ∧ y ∈ C j
  | 0, h => by cases h
  | n + 1, h => by
    rcases List.mem_append.1 h with h | h
    · obtain ⟨j, hj, hy⟩ := flat_mem n h; exact ⟨j, by omega, hy⟩
    · exact ⟨n, by omega, h⟩
theorem add_at (g o j : Nat) : (⟨g, o, none⟩ : Addr).add j = ⟨g, o + j, none⟩ := by unfold Addr.add; split <;> simp_all
theorem spec_delete (dv ov : Value) (l : P.Dic) (o : List Int) (w : World) (hu : EntR w dv l) (ho : IntR w ov o) (hs : Small l) :
    Calls Tryz.prog 8 #[.agg #[dv], ov] w (DelPost l o w) := by
  obtain ⟨i0, hi, hz0, hz1, hz2⟩ := info_parts info_ent
  have hb0 : Below w.heap.size w ((w.alloc (.cells #[dv] 29)).alloc (.cells #[.slice none 0 0] 29)) := ((Below.refl w.heap.size w).alloc (Nat.le_refl _) _).alloc (by simp) _
  have HU := Lib.hid (hu.below hb0); have HO := Lib.hid (ho.below hb0)
  have HB0 := Lib.hid hb0; clear hb0
  have HN := Lib.hid (DBox.new dv w 29)
  have HSM := Lib.hid hs; clear hs
  obtain ⟨ad, cap, rfl, _, _⟩ := hu
  obtain ⟨od, oc, rfl, _, _⟩ := ho
  go_enter Tryz.func8, Tryz.ntmps8
  go_wp2_with fail
  refine (l6Good _ l _ HU.out HSM.out.texts).mono ?_
  rintro e w1 ⟨rfl, hb⟩
  have HU1 := Lib.hid (HU.out.below hb); have HO1 := Lib.hid (HO.out.below hb)
  have HN1 := Lib.hid (HN.out.below hb)
  have HB1 := Lib.hid (HB0.out.trans (hb.mono (by simp; omega)))
  clear hb HU HB0 HN HO
  cases hd : P.dic l
  · have HD := Lib.hid (show P.delOk o l = false by unfold P.delOk; rw [hd]; rfl); clear hd
    obtain ⟨_, b0, f0, _⟩ := HN1.out
    go_wp2
    refine bodyPost_ret (v := .tuple #[.agg #[.slice none 0 0], .bool false]) (by simp [results, Tryz.results8, go_sem, b0]) rfl ⟨_, by rw [HD.out], ?_, ?_⟩
    · rw [HD.out]; exact RowO.nil _ _
    · exact HB1.out.setCell (by simp) _
  · have HDC := Lib.hid hd
    obtain ⟨a0, _⟩ := HN1.out
    go_wp2_with fail
    refine (l6At _ _ l o _ HU1.out HO1.out).mono ?_
    rintro e w2 ⟨rfl, hb⟩
    have HU2 := Lib.hid (HU1.out.below hb)
    have HN2 := Lib.hid (HN1.out.below hb)
    have HB2 := Lib.hid (HB1.out.trans (hb.mono HB1.out.size))
    clear hb HU1 HB1 HN1 HO1 a0
    have hplo := P.place_lo o l
    have hplt := P.place_lt (o := o) (l := l)
    have hl20 := HSM.out.len
    by_cases hneg : P.place o l < 0
    · have HD := Lib.hid (show P.delOk o l = false by unfold P.delOk; rw [decide_eq_false (by omega), Bool.and_false]); clear hd
      obtain ⟨_, b0, f0, _⟩ := HN2.out
      go_wp2
      refine bodyPost_ret (v := .tuple #[.agg #[.slice none 0 0], .bool false]) (by simp [results, Tryz.results8, go_sem, b0]) rfl ⟨_, by rw [HD.out], ?_, ?_⟩
      · rw [HD.out]; exact RowO.nil _ _
      · exact HB2.out.setCell (by simp) _
    · obtain ⟨i, hpi⟩ := Int.eq_ofNat_of_zero_le (show 0 ≤ P.place o l by omega)
      have HD := Lib.hid (show P.delOk o l = true by unfold P.delOk; rw [hd, decide_eq_true (by omega)]; rfl); clear hd
      have HER := Lib.hid (P.del_erase (P.pair_of_dic HDC.out) i hpi)
      have hil : i < l.length := by omega
      rw [hpi]
      have hneg' : ¬ ((i : Int) < 0) := by omega
      clear hpi hplo hplt hneg
      have hW0 : w.heap.size + 1 < w2.heap.size := HN2.out.2.2.2
      obtain ⟨a0, _⟩ := HN2.out
      go_wp2_with fail
      refine (l6Own _ l _ HU2.out HSM.out.len HSM.out.outs).mono ?_
      rintro e w3 ⟨u, rfl, hI, hb⟩
      have HN3 := Lib.hid (HN2.out.below hb)
      have HB3 := Lib.hid (HB2.out.trans (hb.mono HB2.out.size))
      have z3 : w2.heap.size ≤ w3.heap.size := hb.size
      clear hb HN2 HU2 HB2 a0
      obtain ⟨ud, uc, rfl, _, ⟨_, hcap⟩, hrow⟩ := hI
      obtain ⟨g, q, G, C, rfl, hr⟩ := hrow.resolve_left (by intro e; rw [e] at hil; exact absurd hil (Nat.not_lt_zero _))
      have hgw : g < w3.heap.size := hr.lt _ hr.own
      have hg2 : w2.heap.size ≤ g := hr.own.1
      have hN2w : w.heap.size + 1 < w3.heap.size := HN3.out.2.2.2
      have hWW : w.heap.size + 1 < w2.heap.size := hW0
      have hba := (Below.refl w3.heap.size w3).alloc (Nat.le_refl _) (.cells #[.slice (some ⟨g, q, none⟩) l.length uc] 29)
      have HR := Lib.hid (hr.keep entE_ok (v' := (w3.alloc (.cells #[.slice (some ⟨g, q, none⟩) l.length uc] 29)).drew) ⟨by simp, fun b hb => (hba.drew).block b (hr.lt b hb)⟩)
      have HN4 := Lib.hid (HN3.out.below hba)
      have HB4 := Lib.hid (HB3.out.trans (hba.mono HB3.out.size))
      have HS := Lib.hid (show (w3.alloc (.cells #[.slice (some ⟨g, q, none⟩) l.length uc] 29)).drew.cell? ⟨w3.heap.size, 0, none⟩ = some (.slice (some ⟨g, q, none⟩) l.length uc) ∧ (w3.alloc (.cells #[.slice (some ⟨g, q, none⟩) l.length uc] 29)).drew.frozen? ⟨w3.heap.size, 0, none⟩ = false by constructor <;> go_simp)
      clear hr hrow hba HN3 HB3
      have hw1 : IntKind.i64.wrap ((i : Int) + 1) = (i : Int) + 1 := IntWalk.i64_in _ (by omega)
      have hc1 : ¬ (l.length : Int) < (i : Int) + 1 := by omega
      have hc2 : ¬ (uc : Int) < (l.length : Int) := by omega
      have hc3 : ¬ (uc : Int) < (i : Int) := by omega
      have hc4 : ¬ l.length < i + 1 := by omega
      have hc5 : ¬ uc < i := by omega
      have hc6 : ¬ (i : Int) + 1 < 0 := by omega
      go_upto_region 7 with fail
      refine Left.region [11] (S := fun v => v.cell? ⟨w3.heap.size, 0, none⟩ = some (.slice (some ⟨g, q, none⟩) l.length uc) ∧ v.frozen? ⟨w3.heap.size, 0, none⟩ = false) (by kernel_rfl) HS.out (fun hS0 => ?_)
      refine Left.take (i := 0) (v := .pointer (some ⟨w3.heap.size, 0, none⟩)) rfl (by kernel_rfl) (by kernel_rfl) (by kernel_rfl) (by kernel_rfl) (fun _ _ _ h => h) (Or.inl ⟨by rfl, fun z hz => ?_⟩) hS0 ?_
      · obtain ⟨z1, z2⟩ := hz
        go_simp
      try simp only [List.getElem_toArray, List.getElem_cons_zero, Act.put, List.setIfInBounds_toArray, List.set_cons_zero, List.set_cons_succ]
      refine Left.take (i := 1) (v := .slice (some ⟨g, q, none⟩) l.length uc) rfl (by kernel_rfl) (by kernel_rfl) (by kernel_rfl) (by kernel_rfl) (fun _ _ _ h => h) (Or.inl ⟨by rfl, fun z hz => ?_⟩) hS0 ?_
      · obtain ⟨z1, z2⟩ := hz
        go_simp
      try simp only [List.getElem_toArray, List.getElem_cons_zero, List.getElem_cons_succ, Act.put, List.setIfInBounds_toArray, List.set_cons_zero, List.set_cons_succ]
      refine Left.take (i := 2) (v := .int .i64 i) rfl (by kernel_rfl) (by kernel_rfl) (by kernel_rfl) (by kernel_rfl) (fun _ _ _ h => h) (Or.inl ⟨by rfl, fun z hz => ?_⟩) hS0 ?_
      · obtain ⟨z1, z2⟩ := hz
        go_simp
      try simp only [List.getElem_toArray, List.getElem_cons_zero, List.getElem_cons_succ, Act.put, List.setIfInBounds_toArray, List.set_cons_zero, List.set_cons_succ]
      refine Left.take (i := 3) (v := .slice (some ⟨g, q, none⟩) i uc) rfl (by kernel_rfl) (by kernel_rfl) (by kernel_rfl) (by kernel_rfl) (fun _ _ _ h => h) (Or.inl ⟨by rfl, fun z hz => ?_⟩) hS0 ?_
      · obtain ⟨z1, z2⟩ := hz
        go_simp
      try simp only [List.getElem_toArray, List.getElem_cons_zero, List.getElem_cons_succ, Act.put, List.setIfInBounds_toArray, List.set_cons_zero, List.set_cons_succ]
      refine Left.take (i := 4) (v := .pointer (some ⟨w3.heap.size, 0, none⟩)) rfl (by kernel_rfl) (by kernel_rfl) (by kernel_rfl) (by kernel_rfl) (fun _ _ _ h => h) (Or.inl ⟨by rfl, fun z hz => ?_⟩) hS0 ?_
      · obtain ⟨z1, z2⟩ := hz
        go_simp
      try simp only [List.getElem_toArray, List.getElem_cons_zero, List.getElem_cons_succ, Act.put, List.setIfInBounds_toArray, List.set_cons_zero, List.set_cons_succ]
      refine Left.take (i := 5) (v := .slice (some ⟨g, q, none⟩) l.length uc) rfl (by kernel_rfl) (by kernel_rfl) (by kernel_rfl) (by kernel_rfl) (fun _ _ _ h => h) (Or.inl ⟨by rfl, fun z hz => ?_⟩) hS0 ?_
      · obtain ⟨z1, z2⟩ := hz
        go_simp
      try simp only [List.getElem_toArray, List.getElem_cons_zero, List.getElem_cons_succ, Act.put, List.setIfInBounds_toArray, List.set_cons_zero, List.set_cons_succ]
      refine Left.take (i := 6) (v := .int .i64 i) rfl (by kernel_rfl) (by kernel_rfl) (by kernel_rfl) (by kernel_rfl) (fun _ _ _ h => h) (Or.inl ⟨by rfl, fun z hz => ?_⟩) hS0 ?_
      · obtain ⟨z1, z2⟩ := hz
        go_simp
      try simp only [List.getElem_toArray, List.getElem_cons_zero, List.getElem_cons_succ, Act.put, List.setIfInBounds_toArray, List.set_cons_zero, List.set_cons_succ]
      refine Left.take (i := 7) (v := .int .i64 ((i : Int) + 1)) rfl (by kernel_rfl) (by kernel_rfl) (by kernel_rfl) (by kernel_rfl) (fun _ _ _ h => h) (Or.inl ⟨by rfl, fun z hz => ?_⟩) hS0 ?_
      · obtain ⟨z1, z2⟩ := hz
        go_simp
      try simp only [List.getElem_toArray, List.getElem_cons_zero, List.getElem_cons_succ, Act.put, List.setIfInBounds_toArray, List.set_cons_zero, List.set_cons_succ]
      refine Left.take (i := 8) (v := .slice (if uc = i + 1 then some ⟨g, q, none⟩ else some ⟨g, q + (i + 1) * 2, none⟩) (l.length - (i + 1)) (uc - (i + 1))) rfl (by kernel_rfl) (by kernel_rfl) (by kernel_rfl) (by kernel_rfl) (fun _ _ _ h => h) (Or.inl ⟨by rfl, fun z hz => ?_⟩) hS0 ?_
      · obtain ⟨z1, z2⟩ := hz
        go_simp
      try simp only [List.getElem_toArray, List.getElem_cons_zero, List.getElem_cons_succ, Act.put, List.setIfInBounds_toArray, List.set_cons_zero, List.set_cons_succ]
      refine Left.ready (rs := [9]) (by kernel_rfl) (by simp) ?_
      refine Nexts.cons rfl (fun K hK => ?_) Nexts.nil
      have hA : (if uc = i + 1 then some (⟨g, q, none⟩ : Addr) else some ⟨g, q + (i + 1) * 2, none⟩) = some (if uc = i + 1 then ⟨g, q, none⟩ else ⟨g, q + (i + 1) * 2, none⟩) := by split <;> rfl
      have HA := Lib.hid hA; clear hA
      have HFL := Lib.hid (flat_len (wd := 2) (C := fun k => C (i + 1 + k)) (n := l.length - (i + 1)) (fun k hk => HR.out.wid _ (by omega)))
      refine step_append_room rfl _ _ 27 rfl 74 i0 2 Tryz.underlying27 hi hz1 g q i uc rfl (if uc = i + 1 then ⟨g, q, none⟩ else ⟨g, q + (i + 1) * 2, none⟩) (l.length - (i + 1)) (uc - (i + 1)) (flat (fun k => C (i + 1 + k)) (l.length - (i + 1))) (congrArg (fun a => Value.slice a (l.length - (i + 1)) (uc - (i + 1))) HA.out) HFL.out ?_ ?_ (by omega) ?_ ?_
      · intro j y hj
        have hjl : j < (l.length - (i + 1)) * 2 := by rw [← HFL.out]; exact (List.getElem?_eq_some_iff.1 hj).1
        have hne : ¬ uc = i + 1 := by omega
        rw [if_neg hne, add_at]
        have hk : j / 2 < l.length - (i + 1) := by omega
        have hw := HR.out.wid (i + 1 + j / 2) (by omega)
        have h1 := flat_get (wd := 2) (C := fun k => C (i + 1 + k)) (n := l.length - (i + 1)) (fun k hk => HR.out.wid _ (by omega)) (j / 2) (j % 2) hk (by show j % 2 < (C (i + 1 + j / 2)).length; omega)
        rw [show j / 2 * 2 + j % 2 = j by omega, hj] at h1
        injection h1 with h1
        subst h1
        have h2 := HR.out.cel (i + 1 + j / 2) (by omega) (j % 2) (by omega)
        rw [show q + (i + 1 + j / 2) * 2 + j % 2 = q + (i + 1) * 2 + j by omega] at h2
        exact h2.1
      · intro y hy
        obtain ⟨j, hj, hy⟩ := flat_mem _ hy
        obtain ⟨x, hC, hx⟩ := HR.out.el (i + 1 + j) (by omega)
        rw [hC] at hy
        obtain ⟨xd, xc, rfl, _⟩ := hx
        simp only [List.mem_cons, List.not_mem_nil, or_false] at hy
        rcases hy with rfl | rfl <;> rfl
      · intro j hj
        rw [HFL.out] at hj
        have hw := HR.out.wid (i + j / 2) (by omega)
        have h2 := HR.out.cel (i + j / 2) (by omega) (j % 2) (by omega)
        rw [show q + (i + j / 2) * 2 + j % 2 = q + i * 2 + j by omega] at h2
        exact ⟨by rw [h2.1]; rfl, h2.2⟩
      have HCH := Lib.hid (setCells_chg g (flat (fun k => C (i + 1 + k)) (l.length - (i + 1))) (q + i * 2) (w3.alloc (.cells #[.slice (some ⟨g, q, none⟩) l.length uc] 29)).drew)
      have HR5 := Lib.hid (HR.out.del entE_ok i hil)
      have HZ5 := Lib.hid (setCells_size g (flat (fun k => C (i + 1 + k)) (l.length - (i + 1))) (q + i * 2) (w3.alloc (.cells #[.slice (some ⟨g, q, none⟩) l.length uc] 29)).drew)
      have hW2 : w.heap.size + 1 < w2.heap.size := hWW
      have HN5 := Lib.hid ((HN4.out.below (Below.refl _ _).drew).stand HCH.out (by omega) (by omega))
      have HB5 := Lib.hid (Chg.belowB HB4.out.drew HCH.out HB4.out.size (fun b h => by subst h; omega))
      have hS5a := (HCH.out.cell (p := ⟨w3.heap.size, 0, none⟩) (by simp) (by show ¬ w3.heap.size = g; omega)).trans hS0.1
      have hS5b := (HCH.out.frozen (p := ⟨w3.heap.size, 0, none⟩) (by simp) (by show ¬ w3.heap.size = g; omega)).trans hS0.2
      clear HCH HR HFL HA HN4 HB4 HS
      generalize (if uc = i + 1 then some (⟨g, q, none⟩ : Addr) else some ⟨g, q + (i + 1) * 2, none⟩) = ax at *
      refine on_held hK (by decide) ⟨hS5a, hS5b⟩ (fun hS1 => ?_)
      clear hK K hS0 hS5a hS5b
      generalize ((w3.alloc (.cells #[.slice (some ⟨g, q, none⟩) l.length uc] 29)).drew.setCells g (q + i * 2) (flat (fun k => C (i + 1 + k)) (l.length - (i + 1)))) = v5 at *
      have hz5 : v5.heap.size = w3.heap.size + 1 := by have := HZ5.out; simpa using this
      have HZ := Lib.hid hz5; clear hz5 HZ5
      try simp only [List.getElem_toArray, List.getElem_cons_zero, List.getElem_cons_succ, Act.put, List.setIfInBounds_toArray, List.set_cons_zero, List.set_cons_succ]
      refine Left.take (i := 10) (v := .pointer (some ⟨w3.heap.size, 0, none⟩)) rfl (by kernel_rfl) (by kernel_rfl) (by kernel_rfl) (by kernel_rfl) (fun _ _ _ h => h) (Or.inl ⟨by rfl, fun z hz => ?_⟩) hS1 ?_
      · obtain ⟨z1, z2⟩ := hz
        go_simp
      try simp only [List.getElem_toArray, List.getElem_cons_zero, List.getElem_cons_succ, Act.put, List.setIfInBounds_toArray, List.set_cons_zero, List.set_cons_succ]
      refine Left.ready (rs := [11]) (by kernel_rfl) (by simp) ?_
      refine Nexts.cons rfl (fun K hK => ?_) Nexts.nil
      obtain ⟨k1, k2⟩ := hS1
      go_simp
      refine on_last hK (by decide) ?_
      clear hK K
      try simp only [List.getElem_toArray, List.getElem_cons_zero, List.getElem_cons_succ, Act.put, List.setIfInBounds_toArray, List.set_cons_zero, List.set_cons_succ]
      refine Left.done (by kernel_rfl) ?_ _
      obtain ⟨_, b0, f0, _⟩ := HN5.out
      have hne1 : w.heap.size + 1 ≠ w3.heap.size := by omega
      have r0 : (v5.setCell ⟨w3.heap.size, 0, none⟩ (.slice (some ⟨g, q, none⟩) (i + (l.length - (i + 1))) uc)).cell? ⟨w.heap.size + 1, 0, none⟩ = some (.slice none 0 0) := by
        rw [World.cell?_setCell_other _ _ _ _ (by intro e; injection e; omega)]; exact b0
      have r1 : (v5.setCell ⟨w3.heap.size, 0, none⟩ (.slice (some ⟨g, q, none⟩) (i + (l.length - (i + 1))) uc)).frozen? ⟨w.heap.size + 1, 0, none⟩ = false := by simpa using f0
      have r2 : (v5.setCell ⟨w3.heap.size, 0, none⟩ (.slice (some ⟨g, q, none⟩) (i + (l.length - (i + 1))) uc)).cell? ⟨w3.heap.size, 0, none⟩ = some (.slice (some ⟨g, q, none⟩) (i + (l.length - (i + 1))) uc) := World.cell?_setCell_same _ _ _ k1
      have HC6 := Lib.hid ((Chg.refl (fun b => b = w3.heap.size) v5).setCell (p := ⟨w3.heap.size, 0, none⟩) rfl (.slice (some ⟨g, q, none⟩) (i + (l.length - (i + 1))) uc))
      clear k1 k2 b0 f0
      generalize v5.setCell ⟨w3.heap.size, 0, none⟩ (.slice (some ⟨g, q, none⟩) (i + (l.length - (i + 1))) uc) = v6 at *
      go_wp2
      have hlen : (P.del o l).length = i + (l.length - (i + 1)) := by rw [← HER.out, List.length_eraseIdx, if_pos hil]; omega
      have h5 : Ents v5 (Bet w2.heap.size w3.heap.size) (.slice (some ⟨g, q, none⟩) (i + (l.length - (i + 1))) uc) (P.del o l) :=
        ⟨_, uc, by rw [hlen], by rw [hlen]; omega, ⟨(fun h => by cases h), by rw [hlen]; omega⟩, .inr ⟨g, q, _, _, rfl, HER.out ▸ HR5.out⟩⟩
      have h6 := h5.stand entE_ok HC6.out (fun b hb e => by have := hb.2; omega)
      have hz6 : w3.heap.size + 1 ≤ v6.heap.size := by have := HC6.out.size; have := HZ.out; omega
      have HB6 := Chg.belowB HB5.out HC6.out HB5.out.size (fun b h => by subst h; omega)
      refine bodyPost_ret (v := .tuple #[.agg #[.slice (some ⟨g, q, none⟩) (i + (l.length - (i + 1))) uc], .bool true]) (by simp [results, Tryz.results8, go_sem, r0]) rfl ⟨_, by rw [HD.out], ?_, ?_⟩
      · rw [HD.out]
        show Ents _ _ _ (P.del o l)
        refine (h6.stand (X := fun b => b = w.heap.size + 1) entE_ok ((Chg.refl (fun b => b = w.heap.size + 1) v6).setCell (p := ⟨w.heap.size + 1, 0, none⟩) rfl _) ?_).wide ?_ ?_
        · intro b hb e; have := hb.1; omega
        · intro b hb; have h1 := hb.1; have h2 := hb.2; exact ⟨by omega, by simp [World.setCell]; omega⟩
        · intro b hb; exact hb.2
      · exact HB6.setCell (by simp) _
end Go.Proofs.YtfoajpehmbojbaaGreatDoor
