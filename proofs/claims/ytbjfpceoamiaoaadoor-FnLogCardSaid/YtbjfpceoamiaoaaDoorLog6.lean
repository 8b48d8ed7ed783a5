/- Walks: what is left behind a crash (reference). -/
import Derived.Test.YtbjfpceoamiaoaaDoorLog5
namespace Go.Proofs.YtbjfpceoamiaoaaDoor
open Go Go.RowKit
set_option maxHeartbeats 400000
set_option maxRecDepth 100000
theorem bytes_of_S (l : Str) (w : World) : ∃ cap w', (convert 9 47 (.string (S l))).run Tryd.prog w = .ok (.slice (some ⟨w.heap.size, 0, none⟩) l.length cap) w' ∧
    (∀ j (h : j < l.length), w'.cell? ⟨w.heap.size, j, none⟩ = some (.int .u8 l[j].toNat)) ∧ (∀ j, j < l.length → w'.frozen? ⟨w.heap.size, j, none⟩ = false) ∧ Below w.heap.size w w' ∧ w.heap.size < w'.heap.size := by
  have h := run_bytes_of_string (P := Tryd.prog) w 9 47 5 (S l) Tryd.underlying9 Tryd.underlying47 Tryd.underlying5
  rw [S_size] at h
  generalize hc : grownCap w l.length 0 5 = cap at h
  have hh : (w.drew.alloc (.cells (bytesRow (S l) cap) 5 ((bytesRow (S l) cap).size, (bytesRow (S l) cap).size + 1))).heap[w.heap.size]? = some (.cells (bytesRow (S l) cap) 5 ((bytesRow (S l) cap).size, (bytesRow (S l) cap).size + 1)) := heap_alloc_new w.drew _
  have hsz : l.length ≤ (bytesRow (S l) cap).size := by simp [bytesRow, S]
  refine ⟨cap, _, h, ?_, ?_, ?_, ?_⟩
  · intro j hj
    simp only [World.cell?, hh]
    have hj' : j < (S l).data.size := by simpa [S] using hj
    have e : (bytesRow (S l) cap)[j]? = some (.int .u8 ((S l).data[j].toNat : Int)) := bytesRow_at (S l) cap j hj'
    rw [if_neg (by simp)]
    rw [e]; simp [S]
  · intro j hj
    simp only [World.frozen?, hh]
    simp; omega
  · exact (Below.refl _ _).drew.alloc (Nat.le_refl _) _
  · show w.heap.size < (w.heap.push _).size; simp
theorem torn_eq (l : Str) (m : Nat) (hm : l.length = m + 1) : P.torn l true = l.set m (255 - l[m]'(by omega)) := by
  have hne : l ≠ [] := by intro e; rw [e] at hm; simp at hm
  have h1 : l.length - 1 = m := by omega
  unfold P.torn
  rw [if_pos (by simp [hne]), h1, List.getElem?_eq_getElem (by omega)]; rfl
theorem u8_neg (b : UInt8) : ((255 - b : UInt8).toNat : Int) = 255 - (b.toNat : Int) := by
  have h := b.toNat_lt
  have h2 : (255 - b : UInt8).toNat = 255 - b.toNat := by
    rw [UInt8.toNat_sub_of_le]
    · rfl
    · rw [UInt8.le_iff_toNat_le]; show b.toNat ≤ 255; omega
  rw [h2]; omega
theorem spec_crashLog (d p : Str) (n keep : Int) (t : Bool) (w : World) (hd : d.length ≤ 2 ^ 20) (hp : p.length ≤ 2 ^ 20) :
    Calls Tryd.prog 11 #[logV d p n, .int .i64 keep, .bool t] w fun e w' => e = .returned (.tuple #[.string (S (P.crashLog d p n keep t).1), .bool (P.crashLog d p n keep t).2]) ∧ Below w.heap.size w w' := by
  cases h1 : P.validLog d p n
  · have HF := Lib.hid (show P.crashLog d p n keep t = ([], false) by unfold P.crashLog; rw [h1]; rfl)
    go_enter Tryd.func11, Tryd.ntmps11
    go_wp2_with fail
    refine (l24Log _ _ _ _ hd hp).mono ?_
    rintro e w1 ⟨rfl, hb⟩
    rw [h1]
    go_wp2
    go_ret2
    exact ⟨by rw [HF.out]; rfl, ((Below.refl _ _).alloc (Nat.le_refl _) _).trans (hb.mono (by simp))⟩
  · cases h2 : decide (0 ≤ keep ∧ keep ≤ (p.length : Int))
    · have HF := Lib.hid (show P.crashLog d p n keep t = ([], false) by unfold P.crashLog; rw [h1, h2]; rfl)
      go_enter Tryd.func11, Tryd.ntmps11
      go_wp2_with fail
      refine (l24Log _ _ _ _ hd hp).mono ?_
      rintro e w1 ⟨rfl, hb⟩
      rw [h1]
      obtain ⟨hcc, hff⟩ := bcell hb
      have HB := Lib.hid hb; clear hb
      go_wp2_with (go_at_call 40; refine (l1In _ _ _ _).mono ?_; rintro e w' ⟨rfl, rfl⟩; rw [h2])
      go_ret2
      exact ⟨by rw [HF.out]; rfl, ((Below.refl _ _).alloc (Nat.le_refl _) _).trans (HB.out.mono (by simp))⟩
    · have hk := of_decide_eq_true h2
      obtain ⟨hk0, hk1⟩ := hk
      by_cases h3 : t = true ∧ 0 < keep
      · obtain ⟨rfl, h3⟩ := h3
        obtain ⟨m, rfl⟩ : ∃ m : Nat, keep = (m : Int) + 1 := ⟨(keep - 1).toNat, by omega⟩
        have hkt : ((m : Int) + 1).toNat = m + 1 := by omega
        have HKT := Lib.hid hkt; clear hkt
        have hkl : (p.take (m + 1)).length = m + 1 := by simp; omega
        obtain ⟨l, hl⟩ : ∃ l, l = p.take (m + 1) := ⟨_, rfl⟩
        rw [← hl] at hkl
        have hne : l ≠ [] := by intro e; rw [e] at hkl; simp at hkl
        have HF := Lib.hid (show P.crashLog d p n ((m : Int) + 1) true = (d ++ P.torn l true, true) by unfold P.crashLog; rw [h1, h2, HKT.out, ← hl]; rfl)
        have HL := Lib.hid hl; clear hl
        have HKL := Lib.hid hkl
        have hml : m < l.length := by omega
        clear hkl
        go_enter Tryd.func11, Tryd.ntmps11
        go_wp2_with fail
        refine (l24Log _ _ _ _ hd hp).mono ?_
        rintro e w1 ⟨rfl, hb⟩
        rw [h1]
        obtain ⟨hcc, hff⟩ := bcell hb
        have hz := grew0 hb
        have HB := Lib.hid hb; clear hb
        go_wp2_with (go_at_call 40; refine (l1In _ _ _ _).mono ?_; rintro e w' ⟨rfl, rfl⟩; rw [h2])
        rw [← HL.out]
        obtain ⟨cap, w3, hconv, hcell, hfz, hb3, hz3⟩ := bytes_of_S l w1
        rw [hconv]
        have hd0 : w3.cell? ⟨w.heap.size, 0, none⟩ = some (.string (S d)) := by rw [hb3.cell (p := ⟨w.heap.size, 0, none⟩) hz, hcc _ _ (by simp)]; go_simp
        have hcm := hcell m hml
        have hfm := hfz m hml
        have hcl : ((l[m].toNat : Nat) : Int) < 256 := by have := l[m].toNat_lt; omega
        have hback := run_convert_bytes_back (P := Tryd.prog) (w3.setCell ⟨w1.heap.size, m, none⟩ (.int .u8 (255 - (l[m].toNat : Int)))) 47 9 5 ⟨w1.heap.size, 0, none⟩ cap (l.set m (255 - l[m])) Tryd.underlying47 Tryd.underlying5 Tryd.underlying9 (by
          intro j hj
          have hjl : j < l.length := by simpa using hj
          rw [List.getElem_set, add0]
          by_cases e : m = j
          · subst e
            rw [if_pos rfl, u8_neg]
            exact World.cell?_setCell_same _ _ _ hcm
          · rw [if_neg e]
            rw [World.cell?_setCell_other _ _ _ _ (by intro e'; injection e'; omega)]
            exact hcell j hjl)
        rw [List.length_set] at hback
        have hlp : l.length ≤ 2 ^ 20 := by have := HKL.out; omega
        have HBB := Lib.hid (((Below.refl _ _).alloc (Nat.le_refl _) _).trans (HB.out.mono (by simp)) |>.trans (hb3.mono (by omega)))
        clear hb3 hcell hfz hcc hff
        go_wp2
        go_ret2
        exact ⟨by rw [HF.out, torn_eq l m HKL.out]; rfl, HBB.out.setCell (by show w.heap.size ≤ w1.heap.size; omega) _⟩
      · obtain ⟨l, hl⟩ : ∃ l, l = p.take keep.toNat := ⟨_, rfl⟩
        have hkl : l.length = keep.toNat := by rw [hl]; simp; omega
        have hlp : l.length ≤ 2 ^ 20 := by omega
        have hto : P.torn l t = l := by
          unfold P.torn
          rw [if_neg]
          intro e
          simp at e
          have : 0 < l.length := List.length_pos_iff.2 e.2
          exact h3 ⟨e.1, by omega⟩
        have HF := Lib.hid (show P.crashLog d p n keep t = (d ++ l, true) by unfold P.crashLog; rw [h1, h2, ← hl, hto]; rfl)
        have HL := Lib.hid hl; clear hl
        clear hkl hto
        have hd3 : (t && decide (0 < keep)) = false := by
          rw [Bool.and_eq_false_iff, decide_eq_false_iff_not]
          cases t
          · exact .inl rfl
          · exact .inr (fun h => h3 ⟨rfl, h⟩)
        cases t
        · go_enter Tryd.func11, Tryd.ntmps11
          go_wp2_with fail
          refine (l24Log _ _ _ _ hd hp).mono ?_
          rintro e w1 ⟨rfl, hb⟩
          rw [h1]
          obtain ⟨hcc, hff⟩ := bcell hb
          have hz := grew0 hb
          have HB := Lib.hid hb; clear hb
          go_wp2_with (go_at_call 40; refine (l1In _ _ _ _).mono ?_; rintro e w' ⟨rfl, rfl⟩; rw [h2])
          rw [← HL.out]
          obtain ⟨cap, w3, hconv, hcell, hfz, hb3, hz3⟩ := bytes_of_S l w1
          rw [hconv]
          have hd0 : w3.cell? ⟨w.heap.size, 0, none⟩ = some (.string (S d)) := by rw [hb3.cell (p := ⟨w.heap.size, 0, none⟩) hz, hcc _ _ (by simp)]; go_simp
          have hback := run_convert_bytes_back (P := Tryd.prog) w3 47 9 5 ⟨w1.heap.size, 0, none⟩ cap l Tryd.underlying47 Tryd.underlying5 Tryd.underlying9 (by
            intro j hj
            rw [add0]
            exact hcell j hj)
          have HBB := Lib.hid (((Below.refl _ _).alloc (Nat.le_refl _) _).trans (HB.out.mono (by simp)) |>.trans (hb3.mono (by omega)))
          clear hb3 hcell hfz hcc hff
          go_wp2
          go_ret2
          exact ⟨by rw [HF.out]; rfl, HBB.out⟩
        · have hk3 : ¬ 0 < keep := by simpa using hd3
          have hk4 : keep ≤ 0 := by omega
          have HK4 := Lib.hid hk4; clear hk4 hd3 hk3
          go_enter Tryd.func11, Tryd.ntmps11
          go_wp2_with fail
          refine (l24Log _ _ _ _ hd hp).mono ?_
          rintro e w1 ⟨rfl, hb⟩
          rw [h1]
          obtain ⟨hcc, hff⟩ := bcell hb
          have hz := grew0 hb
          have HB := Lib.hid hb; clear hb
          go_wp2_with (go_at_call 40; refine (l1In _ _ _ _).mono ?_; rintro e w' ⟨rfl, rfl⟩; rw [h2])
          rw [← HL.out]
          obtain ⟨cap, w3, hconv, hcell, hfz, hb3, hz3⟩ := bytes_of_S l w1
          rw [hconv]
          have hd0 : w3.cell? ⟨w.heap.size, 0, none⟩ = some (.string (S d)) := by rw [hb3.cell (p := ⟨w.heap.size, 0, none⟩) hz, hcc _ _ (by simp)]; go_simp
          have hback := run_convert_bytes_back (P := Tryd.prog) w3 47 9 5 ⟨w1.heap.size, 0, none⟩ cap l Tryd.underlying47 Tryd.underlying5 Tryd.underlying9 (by
            intro j hj
            rw [add0]
            exact hcell j hj)
          have HBB := Lib.hid (((Below.refl _ _).alloc (Nat.le_refl _) _).trans (HB.out.mono (by simp)) |>.trans (hb3.mono (by omega)))
          clear hb3 hcell hfz hcc hff
          have hk4 := HK4.out
          go_wp2
          go_ret2
          exact ⟨by rw [HF.out]; rfl, HBB.out⟩
end Go.Proofs.YtbjfpceoamiaoaaDoor
