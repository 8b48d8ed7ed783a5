/- Walk: what is left behind a crash (program). -/
import Derived.Test.YtbjfpceoamiaoaaDoorLog10
namespace Go.Proofs.YtbjfpceoamiaoaaDoor
open Go Go.RowKit
set_option maxHeartbeats 400000
set_option maxRecDepth 100000
theorem impl_crashLog (d p : Str) (n keep : Int) (t : Bool) (w : World) (hd : d.length ≤ 2 ^ 20) (hp : p.length ≤ 2 ^ 20) (hE : Env w) :
    Calls Tryd.prog 13 #[logV d p n, .int .i64 keep, .bool t] w fun e w' => e = .returned (.tuple #[.string (S (P.crashI d p n keep t).1), .bool (P.crashI d p n keep t).2]) ∧ Below w.heap.size w w' := by
  have HE := Lib.hid hE; clear hE
  cases h1 : P.recordsOk d p n
  · have HF := Lib.hid (show P.crashI d p n keep t = ([], false) by unfold P.crashI; rw [h1]; rfl)
    go_enter Tryd.func13, Tryd.ntmps13
    go_wp2_with fail
    refine (isValidLog _ _ _ _ hd hp (HE.out.alloc _)).mono ?_
    rintro e w1 ⟨rfl, hb⟩
    rw [h1]
    go_wp2
    go_ret2
    exact ⟨by rw [HF.out]; rfl, ((Below.refl _ _).alloc (Nat.le_refl _) _).trans (hb.mono (by simp))⟩
  · cases h2 : decide (0 ≤ keep ∧ keep ≤ (p.length : Int))
    · have HF := Lib.hid (show P.crashI d p n keep t = ([], false) by unfold P.crashI; rw [h1, h2]; rfl)
      go_enter Tryd.func13, Tryd.ntmps13
      go_wp2_with fail
      refine (isValidLog _ _ _ _ hd hp (HE.out.alloc _)).mono ?_
      rintro e w1 ⟨rfl, hb⟩
      rw [h1]
      obtain ⟨hcc, hff⟩ := bcell hb
      have HB := Lib.hid hb; clear hb
      go_wp2_with (go_at_call 41; refine (impl_in _ _ _ _).mono ?_; rintro e w' ⟨rfl, rfl⟩; rw [h2])
      go_ret2
      exact ⟨by rw [HF.out]; rfl, ((Below.refl _ _).alloc (Nat.le_refl _) _).trans (HB.out.mono (by simp))⟩
    · have hk := of_decide_eq_true h2
      obtain ⟨hk0, hk1⟩ := hk
      obtain ⟨l, hl⟩ : ∃ l, l = d ++ p.take keep.toNat := ⟨_, rfl⟩
      have hll : l.length = d.length + keep.toNat := by rw [hl]; simp; omega
      have HLL := Lib.hid hll
      have hl1 : l.length ≤ 2 ^ 21 := by omega
      clear hll
      have HL := Lib.hid hl; clear hl
      have hF : P.crashI d p n keep t = (if t && decide (0 < keep) then l.set (l.length - 1) (255 - l[l.length - 1]?.getD 0) else l, true) := by
        unfold P.crashI; rw [h1, h2, ← HL.out]; rfl
      have HF0 := Lib.hid hF; clear hF
      have f1 : ¬ 9223372036854775807 < d.length + keep.toNat := by omega
      go_enter Tryd.func13, Tryd.ntmps13
      go_wp2_with fail
      refine (isValidLog _ _ _ _ hd hp (HE.out.alloc _)).mono ?_
      rintro e w1 ⟨rfl, hb⟩
      rw [h1]
      obtain ⟨hcc, hff⟩ := bcell hb
      have hz := grew0 hb
      have hc0 : w1.cell? ⟨w.heap.size, 0, none⟩ = some (.string (S d)) := by rw [hcc _ _ (by simp)]; go_simp
      have hc1 : w1.cell? ⟨w.heap.size, 1, none⟩ = some (.string (S p)) := by rw [hcc _ _ (by simp)]; go_simp
      have HB := Lib.hid (((Below.refl _ _).alloc (Nat.le_refl _) _).trans (hb.mono (by simp) : Below w.heap.size _ w1)); clear hb hcc hff
      go_wp2_with (go_at_call 41; refine (impl_in _ _ _ _).mono ?_; rintro e w' ⟨rfl, rfl⟩; rw [h2])
      obtain ⟨cap, w3, hconv, hcell, hfz, hb3, hz3⟩ := bytes_of_S l w1.drew
      rw [HL.out] at hconv
      have hc0' : w3.cell? ⟨w.heap.size, 0, none⟩ = some (.string (S d)) := (hb3.cell (p := ⟨w.heap.size, 0, none⟩) hz).trans hc0
      have hc1' : w3.cell? ⟨w.heap.size, 1, none⟩ = some (.string (S p)) := (hb3.cell (p := ⟨w.heap.size, 1, none⟩) hz).trans hc1
      have HB3 := Lib.hid hb3
      clear hb3
      refine wp_region_held_drew (S := fun v : World => v.cell? ⟨w.heap.size, 0, none⟩ = some (.string (S d)) ∧ v.cell? ⟨w.heap.size, 1, none⟩ = some (.string (S p))) (by kernel_rfl) ⟨hc0, hc1⟩ (fun hS0 => ?_)
      refine wpAnyH_take (i := 0) (v := .pointer (some ⟨w.heap.size, 0, none⟩)) rfl (by kernel_rfl) (by kernel_rfl) (by kernel_rfl) (fun _ _ _ h => h) (Or.inl ⟨by rfl, fun z hz => ?_⟩) hS0 ?_
      · obtain ⟨z1, z2⟩ := hz
        go_simp
      try simp only [List.getElem_toArray, List.getElem_cons_zero, Act.put, List.setIfInBounds_toArray, List.set_cons_zero, List.set_cons_succ]
      refine wpAnyH_take (i := 1) (v := .string (S d)) rfl (by kernel_rfl) (by kernel_rfl) (by kernel_rfl) (fun _ _ _ h => h) (Or.inl ⟨by rfl, fun z hz => ?_⟩) hS0 ?_
      · obtain ⟨z1, z2⟩ := hz
        go_simp
      try simp only [List.getElem_toArray, List.getElem_cons_zero, List.getElem_cons_succ, Act.put, List.setIfInBounds_toArray, List.set_cons_zero, List.set_cons_succ]
      refine wpAnyH_take (i := 2) (v := .pointer (some ⟨w.heap.size, 1, none⟩)) rfl (by kernel_rfl) (by kernel_rfl) (by kernel_rfl) (fun _ _ _ h => h) (Or.inl ⟨by rfl, fun z hz => ?_⟩) hS0 ?_
      · obtain ⟨z1, z2⟩ := hz
        go_simp
      try simp only [List.getElem_toArray, List.getElem_cons_zero, List.getElem_cons_succ, Act.put, List.setIfInBounds_toArray, List.set_cons_zero, List.set_cons_succ]
      refine wpAnyH_take (i := 3) (v := .string (S p)) rfl (by kernel_rfl) (by kernel_rfl) (by kernel_rfl) (fun _ _ _ h => h) (Or.inl ⟨by rfl, fun z hz => ?_⟩) hS0 ?_
      · obtain ⟨z1, z2⟩ := hz
        go_simp
      try simp only [List.getElem_toArray, List.getElem_cons_zero, List.getElem_cons_succ, Act.put, List.setIfInBounds_toArray, List.set_cons_zero, List.set_cons_succ]
      refine wpAnyH_take (i := 4) (v := .int .i64 keep) rfl (by kernel_rfl) (by kernel_rfl) (by kernel_rfl) (fun _ _ _ h => h) (Or.inl ⟨by rfl, fun z hz => ?_⟩) hS0 ?_
      · obtain ⟨z1, z2⟩ := hz
        go_simp
      try simp only [List.getElem_toArray, List.getElem_cons_zero, List.getElem_cons_succ, Act.put, List.setIfInBounds_toArray, List.set_cons_zero, List.set_cons_succ]
      refine wpAnyH_take (i := 5) (v := .string (S (List.take keep.toNat p))) rfl (by kernel_rfl) (by kernel_rfl) (by kernel_rfl) (fun _ _ _ h => h) (Or.inl ⟨by rfl, fun z hz => ?_⟩) hS0 ?_
      · obtain ⟨z1, z2⟩ := hz
        go_simp
      try simp only [List.getElem_toArray, List.getElem_cons_zero, List.getElem_cons_succ, Act.put, List.setIfInBounds_toArray, List.set_cons_zero, List.set_cons_succ]
      refine wpAnyH_take (i := 6) (v := .string (S (d ++ List.take keep.toNat p))) rfl (by kernel_rfl) (by kernel_rfl) (by kernel_rfl) (fun _ _ _ h => h) (Or.inl ⟨by rfl, fun z hz => ?_⟩) hS0 ?_
      · obtain ⟨z1, z2⟩ := hz
        go_simp
      try simp only [List.getElem_toArray, List.getElem_cons_zero, List.getElem_cons_succ, Act.put, List.setIfInBounds_toArray, List.set_cons_zero, List.set_cons_succ]
      refine wpAnyH_ready (rs := [7]) (by kernel_rfl) (by simp) ?_
      refine AllReadyH.cons rfl (fun K hK => ?_) AllReadyH.nil
      rw [← HL.out] at hconv ⊢
      go_simp
      refine hK.out _ _ ⟨hc0', hc1'⟩ (fun hS1 => ?_)
      clear hK K
      try simp only [List.getElem_toArray, List.getElem_cons_zero, List.getElem_cons_succ, Act.put, List.setIfInBounds_toArray, List.set_cons_zero, List.set_cons_succ]
      refine wpAnyH_take (i := 8) (v := .slice (some ⟨w1.heap.size, 0, none⟩) l.length cap) rfl (by kernel_rfl) (by kernel_rfl) (by kernel_rfl) (fun _ _ _ h => h) (Or.inl ⟨by rfl, fun z hz => ?_⟩) hS1 ?_
      · obtain ⟨z1, z2⟩ := hz
        go_simp
      try simp only [List.getElem_toArray, List.getElem_cons_zero, List.getElem_cons_succ, Act.put, List.setIfInBounds_toArray, List.set_cons_zero, List.set_cons_succ]
      refine wpAnyH_done (by kernel_rfl) ?_ _
      have hcell' : ∀ (j : Nat) (h : j < l.length), w3.cell? ⟨w1.heap.size, j, none⟩ = some (.int .u8 l[j].toNat) := hcell
      have hfz' : ∀ (j : Nat), j < l.length → w3.frozen? ⟨w1.heap.size, j, none⟩ = false := hfz
      have HBB := Lib.hid (HB.out.drew.trans ((HB3.out : Below w1.heap.size w1.drew w3).mono (Nat.le_of_lt hz)))
      have hz3' : w1.heap.size < w3.heap.size := hz3
      clear hS0 hS1 hcell hfz hconv HB HB3 f1 hz3
      by_cases h3 : t = true ∧ 0 < keep
      · obtain ⟨rfl, h3⟩ := h3
        obtain ⟨m, hm⟩ : ∃ m : Nat, l.length = m + 1 := ⟨l.length - 1, by have := HLL.out; omega⟩
        have hml : m < l.length := by omega
        have HM := Lib.hid hm; clear hm
        have HF := Lib.hid (show P.crashI d p n keep true = (l.set m (255 - l[m]), true) by
          have hm1 : l.length - 1 = m := by have := HM.out; omega
          rw [HF0.out, decide_eq_true h3, hm1, List.getElem?_eq_getElem hml]; rfl)
        have hcm := hcell' m hml
        have hfm := hfz' m hml
        have hcl : ((l[m].toNat : Nat) : Int) < 256 := by have := l[m].toNat_lt; omega
        have i2 : (l.length : Int) - 1 = (m : Int) := by have := HM.out; omega
        have hback := run_convert_bytes_back (P := Tryd.prog) (w3.setCell ⟨w1.heap.size, m, none⟩ (.int .u8 (255 - (l[m].toNat : Int)))) 47 9 5 ⟨w1.heap.size, 0, none⟩ cap (l.set m (255 - l[m])) Tryd.underlying47 Tryd.underlying5 Tryd.underlying9 (by
          intro j hj
          have hjl : j < l.length := by simpa using hj
          rw [List.getElem_set, add0]
          by_cases e : m = j
          · subst e
            rw [if_pos rfl, u8_neg]
            exact World.cell?_setCell_same _ _ _ hcm
          · rw [if_neg e]
            rw [World.cell?_setCell_other _ _ _ _ (by intro e'; injection e'; omega)]
            exact hcell' j hjl)
        rw [List.length_set] at hback
        clear hcell' hfz' hc0 hc1
        go_wp2
        go_ret2
        exact ⟨by rw [HF.out]; rfl, HBB.out.setCell (by show w.heap.size ≤ w1.heap.size; omega) _⟩
      · have hd3 : (t && decide (0 < keep)) = false := by
          rw [Bool.and_eq_false_iff, decide_eq_false_iff_not]
          cases t
          · exact .inl rfl
          · exact .inr (fun h => h3 ⟨rfl, h⟩)
        have HF := Lib.hid (show P.crashI d p n keep t = (l, true) by rw [HF0.out, hd3]; rfl)
        cases t
        · clear hd3 h3
          have hback := run_convert_bytes_back (P := Tryd.prog) w3 47 9 5 ⟨w1.heap.size, 0, none⟩ cap l Tryd.underlying47 Tryd.underlying5 Tryd.underlying9 (by
            intro j hj
            rw [add0]
            exact hcell' j hj)
          clear hcell' hfz' hc0 hc1
          go_wp2
          go_ret2
          exact ⟨by rw [HF.out]; rfl, HBB.out⟩
        · have hk4 : keep ≤ 0 := by
            have : ¬ 0 < keep := by simpa using hd3
            omega
          clear hd3 h3
          have hback := run_convert_bytes_back (P := Tryd.prog) w3 47 9 5 ⟨w1.heap.size, 0, none⟩ cap l Tryd.underlying47 Tryd.underlying5 Tryd.underlying9 (by
            intro j hj
            rw [add0]
            exact hcell' j hj)
          clear hcell' hfz' hc0 hc1
          go_wp2
          go_ret2
          exact ⟨by rw [HF.out]; rfl, HBB.out⟩
end Go.Proofs.YtbjfpceoamiaoaaDoor
