/- Walks: atoms applied to a state (reference). -/
import Derived.Deep.DeepCutAuto
import Derived.Deep.RegionHeld
import Derived.Test.YtmlklnimoknojaaGreatDoorPlainFmt
import Derived.Test.YtmlklnimoknojaaGreatDoorSpellS2
namespace Go.Proofs.YtmlklnimoknojaaGreatDoor
namespace P
theorem prn_no {b : UInt8} (h : (b.toNat : Int) < 32 ∨ 126 < (b.toNat : Int)) : prn b = false := by
  unfold prn
  rcases h with h | h
  · rw [decide_eq_false (by omega)]; rfl
  · rw [decide_eq_false (p := (b.toNat : Int) ≤ 126) (by omega), Bool.and_false]
theorem prn_yes {b : UInt8} (h : 32 ≤ (b.toNat : Int)) (h2 : (b.toNat : Int) ≤ 126) : prn b = true := by
  unfold prn; rw [decide_eq_true h, decide_eq_true h2]; rfl
theorem pall_false {s : Bs} {k : Nat} (h : k < s.length) (hb : prn s[k] = false) : s.all prn = false := by
  rw [List.all_eq_false]; exact ⟨s[k], List.getElem_mem h, by simp [hb]⟩
end P
open Go Go.RowKit
set_option maxHeartbeats 2000000
set_option maxRecDepth 100000
theorem P.upB_no {b : UInt8} (h : (b.toNat : Int) < 65 ∨ 90 < (b.toNat : Int)) : P.upB b = false := by
  unfold P.upB
  rcases h with h | h
  · rw [decide_eq_false (by omega)]; rfl
  · rw [decide_eq_false (p := (b.toNat : Int) ≤ 90) (by omega), Bool.and_false]
theorem P.upB_yes {b : UInt8} (h : 65 ≤ (b.toNat : Int)) (h2 : (b.toNat : Int) ≤ 90) : P.upB b = true := by
  unfold P.upB; rw [decide_eq_true h, decide_eq_true h2]; rfl
abbrev stV (s : P.St) : Value := .agg #[.string (S s.text), .bool s.joined, .bool s.glued, .int .i64 s.cap, .int .i64 (s.word : Int)]
abbrev stCells (s : P.St) : Obj := .cells #[.string (S s.text), .bool s.joined, .bool s.glued, .int .i64 s.cap, .int .i64 (s.word : Int)] 170
theorem l12Plain (s : Str) (w : World) (hs : s.length ≤ 2 ^ 40) :
    Calls Tryz.prog 195 #[.string (S s)] w fun e w' => e = .returned (.bool (s.all P.prn)) ∧ w = w' := by
  go_enter Tryz.func195, Tryz.ntmps195
  go_wp2
  go_loop [3] (fun i => ∃ k : Nat, k ≤ s.length ∧ i = .int .i64 k ∧ (s.take k).all P.prn = true) (fun i => s.length - (intOf i).toNat)
  case atStart => exact ⟨0, by omega, rfl, by simp⟩
  case round =>
    obtain ⟨k, hk, rfl, ha⟩ := hrel
    have HA := Lib.hid ha; clear ha
    by_cases hlt : k < s.length
    · have i1 : (k : Int) < (s.length : Int) := by omega
      rcases Classical.em ((s[k].toNat : Int) < 32 ∨ 126 < (s[k].toNat : Int)) with h | h
      · have hd : decide (32 ≤ (s[k].toNat : Int) ∧ (s[k].toNat : Int) ≤ 126) = false := by rw [decide_eq_false_iff_not]; omega
        have H := Lib.hid h; clear h
        go_wp2_with (go_at_call 161; refine (l1In _ _ _ _).mono ?_; rintro e w' ⟨rfl, rfl⟩)
        go_ret
        exact ⟨ret_bool (P.pall_false hlt (P.prn_no H.out)).symm, rfl⟩
      · have h1 : 32 ≤ (s[k].toNat : Int) := by omega
        have h2 : (s[k].toNat : Int) ≤ 126 := by omega
        clear h
        have hd : decide (32 ≤ (s[k].toNat : Int) ∧ (s[k].toNat : Int) ≤ 126) = true := by rw [decide_eq_true_iff]; omega
        have HL := Lib.hid (P.prn_yes h1 h2)
        go_wp2_with (go_at_call 161; refine (l1In _ _ _ _).mono ?_; rintro e w' ⟨rfl, rfl⟩)
        go_round
        case rel => exact ⟨k + 1, by omega, by go_num, all_snoc k hlt HA.out HL.out⟩
        case measure => simp [intOf]; omega
    · have i1 : ¬ (k : Int) < (s.length : Int) := by omega
      have HT := Lib.hid (show s.all P.prn = true by rw [← List.take_of_length_le (l := s) (i := k) (by omega)]; exact HA.out)
      go_wp2
      go_ret
      exact ⟨ret_bool HT.out.symm, rfl⟩
theorem l12Good (s : P.St) (w : World) (hs : s.text.length ≤ 2 ^ 40) :
    Calls Tryz.prog 160 #[stV s] w fun e w' => e = .returned (.bool (P.stOk s)) ∧ Below w.heap.size w w' := by
  obtain ⟨t, jn, gl, cp, wd⟩ := s
  simp only at hs
  have HB0 := Lib.hid ((Below.refl w.heap.size w).alloc (Nat.le_refl _) (.cells #[.string (S t), .bool jn, .bool gl, .int .i64 cp, .int .i64 (wd : Int)] 170))
  have hf : P.stOk ⟨t, jn, gl, cp, wd⟩ = (decide ((t.length : Int) ≤ 2000) && (t.all P.prn && (decide (0 ≤ cp ∧ cp ≤ 2) && decide (0 ≤ (wd : Int) ∧ (wd : Int) ≤ (t.length : Int))))) := rfl
  obtain ⟨q1, hq1⟩ : ∃ q, t.all P.prn = q := ⟨_, rfl⟩
  obtain ⟨q2, hq2⟩ : ∃ q, decide (0 ≤ cp ∧ cp ≤ 2) = q := ⟨_, rfl⟩
  have HQ1 := Lib.hid hq1; have HQ2 := Lib.hid hq2
  by_cases h0 : (t.length : Int) ≤ 2000
  · rw [decide_eq_true h0, hq1, hq2] at hf
    have HF := Lib.hid hf
    clear hf hq1 hq2
    cases q1
    · go_enter Tryz.func160, Tryz.ntmps160
      go_wp2_with (first | (go_at_call 195; refine (l12Plain _ _ hs).mono ?_; rintro e w' ⟨rfl, rfl⟩; rw [HQ1.out]) | (go_at_call 161; refine (l1In _ _ _ _).mono ?_; rintro e w' ⟨rfl, rfl⟩))
      go_ret
      exact ⟨ret_bool (by rw [HF.out]; rfl), HB0.out⟩
    · cases q2
      · go_enter Tryz.func160, Tryz.ntmps160
        go_wp2_with (first | (go_at_call 195; refine (l12Plain _ _ hs).mono ?_; rintro e w' ⟨rfl, rfl⟩; rw [HQ1.out]) | (go_at_call 161; refine (l1In _ _ _ _).mono ?_; rintro e w' ⟨rfl, rfl⟩; try rw [HQ2.out]))
        go_ret
        exact ⟨ret_bool (by rw [HF.out]; rfl), HB0.out⟩
      · go_enter Tryz.func160, Tryz.ntmps160
        go_wp2_with (first | (go_at_call 195; refine (l12Plain _ _ hs).mono ?_; rintro e w' ⟨rfl, rfl⟩; rw [HQ1.out]) | (go_at_call 161; refine (l1In _ _ _ _).mono ?_; rintro e w' ⟨rfl, rfl⟩; try rw [HQ2.out]))
        go_ret
        exact ⟨ret_bool (by rw [HF.out]; simp), HB0.out⟩
  · rw [decide_eq_false h0] at hf
    have HF := Lib.hid hf
    clear hf hq1 hq2
    go_enter Tryz.func160, Tryz.ntmps160
    go_wp2
    go_ret
    exact ⟨ret_bool (by rw [HF.out]; rfl), HB0.out⟩
theorem l12New0 (w : World) :
    Calls Tryz.prog 156 #[.string (S [])] w fun e w' => e = .returned (stV P.init) ∧ Below w.heap.size w w' := by
  go_enter Tryz.func156, Tryz.ntmps156
  go_wp2
  refine bodyPost_ret (v := stV P.init) (by simp [results, Tryz.results156, go_sem]; exact ⟨rfl, rfl, rfl, rfl, rfl⟩) rfl ⟨rfl, ?_⟩
  exact (Below.refl w.heap.size w).alloc (Nat.le_refl _) _
theorem u8_sub {b : UInt8} (h : P.lower b = true) : ((b - 32).toNat : Int) = (b.toNat : Int) - 32 ∧ 97 ≤ (b.toNat : Int) ∧ (b.toNat : Int) ≤ 122 := by
  unfold P.lower at h
  simp only [Bool.and_eq_true, decide_eq_true_eq] at h
  have h1 : 32 ≤ b := by rw [UInt8.le_iff_toNat_le]; show 32 ≤ b.toNat; omega
  rw [UInt8.toNat_sub_of_le _ _ h1]
  refine ⟨?_, h.1, h.2⟩
  show ((b.toNat - 32 : Nat) : Int) = _
  omega
theorem u8_add {b : UInt8} (h : P.upB b = true) : ((b + 32).toNat : Int) = (b.toNat : Int) + 32 ∧ 65 ≤ (b.toNat : Int) ∧ (b.toNat : Int) ≤ 90 := by
  unfold P.upB at h
  simp only [Bool.and_eq_true, decide_eq_true_eq] at h
  rw [UInt8.toNat_add]
  refine ⟨?_, h.1, h.2⟩
  show (((b.toNat + 32) % 2 ^ 8 : Nat) : Int) = _
  omega
def StBox (b : Nat) (s : P.St) (v : World) : Prop :=
  (v.cell? ⟨b, 0, none⟩ = some (.string (S s.text)) ∧ v.cell? ⟨b, 1, none⟩ = some (.bool s.joined) ∧ v.cell? ⟨b, 2, none⟩ = some (.bool s.glued) ∧ v.cell? ⟨b, 3, none⟩ = some (.int .i64 s.cap) ∧ v.cell? ⟨b, 4, none⟩ = some (.int .i64 (s.word : Int))) ∧
  (v.frozen? ⟨b, 0, none⟩ = false ∧ v.frozen? ⟨b, 1, none⟩ = false ∧ v.frozen? ⟨b, 2, none⟩ = false ∧ v.frozen? ⟨b, 3, none⟩ = false ∧ v.frozen? ⟨b, 4, none⟩ = false) ∧ b < v.heap.size
theorem StBox.stand {b : Nat} {s : P.St} {v v' : World} {X : Blk} (h : StBox b s v) (hc : Chg X v v') (hX : ¬ X b) : StBox b s v' := by
  obtain ⟨⟨a0, a1, a2, a3, a4⟩, ⟨f0, f1, f2, f3, f4⟩, hl⟩ := h
  exact ⟨⟨(hc.cell (p := ⟨b, 0, none⟩) hl hX).trans a0, (hc.cell (p := ⟨b, 1, none⟩) hl hX).trans a1, (hc.cell (p := ⟨b, 2, none⟩) hl hX).trans a2, (hc.cell (p := ⟨b, 3, none⟩) hl hX).trans a3, (hc.cell (p := ⟨b, 4, none⟩) hl hX).trans a4⟩,
    ⟨(hc.frozen (p := ⟨b, 0, none⟩) hl hX).trans f0, (hc.frozen (p := ⟨b, 1, none⟩) hl hX).trans f1, (hc.frozen (p := ⟨b, 2, none⟩) hl hX).trans f2, (hc.frozen (p := ⟨b, 3, none⟩) hl hX).trans f3, (hc.frozen (p := ⟨b, 4, none⟩) hl hX).trans f4⟩, Nat.lt_of_lt_of_le hl hc.size⟩
theorem StBox.below {b : Nat} {s : P.St} {v v' : World} (h : StBox b s v) (hb : Below v.heap.size v v') : StBox b s v' := h.stand (Below.chg hb fun _ => False) fun h => h
theorem StBox.new (s : P.St) (v : World) : StBox v.heap.size s (v.alloc (stCells s)) := by
  refine ⟨⟨?_, ?_, ?_, ?_, ?_⟩, ⟨?_, ?_, ?_, ?_, ?_⟩, ?_⟩ <;> go_simp
theorem far {b i j : Nat} (h : i ≠ j) : (⟨b, i, none⟩ : Addr) ≠ ⟨b, j, none⟩ := by intro e; injection e with _ e; exact h e
theorem StBox.text {b : Nat} {s : P.St} {v : World} (h : StBox b s v) (t : Str) : StBox b { s with text := t } (v.setCell ⟨b, 0, none⟩ (.string (S t))) := by
  obtain ⟨⟨a0, a1, a2, a3, a4⟩, ⟨f0, f1, f2, f3, f4⟩, hl⟩ := h
  refine ⟨⟨World.cell?_setCell_same _ _ _ a0, ?_, ?_, ?_, ?_⟩, ⟨by simpa using f0, by simpa using f1, by simpa using f2, by simpa using f3, by simpa using f4⟩, by simpa [World.setCell] using hl⟩
  all_goals (rw [World.cell?_setCell_other _ _ _ _ (far (by decide))]; assumption)
theorem StBox.joined {b : Nat} {s : P.St} {v : World} (h : StBox b s v) (x : Bool) : StBox b { s with joined := x } (v.setCell ⟨b, 1, none⟩ (.bool x)) := by
  obtain ⟨⟨a0, a1, a2, a3, a4⟩, ⟨f0, f1, f2, f3, f4⟩, hl⟩ := h
  refine ⟨⟨?_, World.cell?_setCell_same _ _ _ a1, ?_, ?_, ?_⟩, ⟨by simpa using f0, by simpa using f1, by simpa using f2, by simpa using f3, by simpa using f4⟩, by simpa [World.setCell] using hl⟩
  all_goals (rw [World.cell?_setCell_other _ _ _ _ (far (by decide))]; assumption)
theorem StBox.glued {b : Nat} {s : P.St} {v : World} (h : StBox b s v) (x : Bool) : StBox b { s with glued := x } (v.setCell ⟨b, 2, none⟩ (.bool x)) := by
  obtain ⟨⟨a0, a1, a2, a3, a4⟩, ⟨f0, f1, f2, f3, f4⟩, hl⟩ := h
  refine ⟨⟨?_, ?_, World.cell?_setCell_same _ _ _ a2, ?_, ?_⟩, ⟨by simpa using f0, by simpa using f1, by simpa using f2, by simpa using f3, by simpa using f4⟩, by simpa [World.setCell] using hl⟩
  all_goals (rw [World.cell?_setCell_other _ _ _ _ (far (by decide))]; assumption)
theorem StBox.cap {b : Nat} {s : P.St} {v : World} (h : StBox b s v) (x : Int) : StBox b { s with cap := x } (v.setCell ⟨b, 3, none⟩ (.int .i64 x)) := by
  obtain ⟨⟨a0, a1, a2, a3, a4⟩, ⟨f0, f1, f2, f3, f4⟩, hl⟩ := h
  refine ⟨⟨?_, ?_, ?_, World.cell?_setCell_same _ _ _ a3, ?_⟩, ⟨by simpa using f0, by simpa using f1, by simpa using f2, by simpa using f3, by simpa using f4⟩, by simpa [World.setCell] using hl⟩
  all_goals (rw [World.cell?_setCell_other _ _ _ _ (far (by decide))]; assumption)
theorem StBox.word {b : Nat} {s : P.St} {v : World} (h : StBox b s v) (x : Nat) : StBox b { s with word := x } (v.setCell ⟨b, 4, none⟩ (.int .i64 (x : Int))) := by
  obtain ⟨⟨a0, a1, a2, a3, a4⟩, ⟨f0, f1, f2, f3, f4⟩, hl⟩ := h
  refine ⟨⟨?_, ?_, ?_, ?_, World.cell?_setCell_same _ _ _ a4⟩, ⟨by simpa using f0, by simpa using f1, by simpa using f2, by simpa using f3, by simpa using f4⟩, by simpa [World.setCell] using hl⟩
  all_goals (rw [World.cell?_setCell_other _ _ _ _ (far (by decide))]; assumption)
end Go.Proofs.YtmlklnimoknojaaGreatDoor
