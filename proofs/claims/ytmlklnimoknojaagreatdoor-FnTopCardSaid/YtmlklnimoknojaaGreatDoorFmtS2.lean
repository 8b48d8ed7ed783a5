/- Walks: atoms applied to a state (reference). -/
import Derived.Deep.DeepCutAuto
import Derived.Deep.RegionHeld
import Derived.Test.YtmlklnimoknojaaGreatDoorPlainFmt
import Derived.Test.YtmlklnimoknojaaGreatDoorSpellS2
import Derived.RegionTactic
import Derived.BigRegion
import Derived.BigQuiet
import Derived.Test.YtmlklnimoknojaaGreatDoorMemE
namespace Go.Proofs.YtmlklnimoknojaaGreatDoor
namespace P
theorem prn_no {b : UInt8} (h : (b.toNat : Int) < 32 ∨ 126 < (b.toNat : Int)) : prn b = false := by
  unfold prn
  rcases h with h | h
  · rw [decide_eq_false (by omega)]; rfl
  · rw [decide_eq_false (p := (b.toNat : Int) ≤ 126) (by omega), Bool.and_false]
theorem prn_yes {b : UInt8} (h : 32 ≤ (b.toNat : Int)) (h2 : (b.toNat : Int) ≤ 126) : prn b = true := by
  unfold prn; rw [decide_eq_true h, decide_eq_true h2]; rfl
theorem pall_false {s : Bs} {k : Nat} (h : k < s.length) (hb : prn s[k] = false) : s.all prn = false := by
  rw [List.all_eq_false]; exact ⟨s[k], List.getElem_mem h, by simp [hb]⟩
end P
open Go Go.RowKit
set_option maxHeartbeats 2000000
set_option maxRecDepth 100000
theorem P.upB_no {b : UInt8} (h : (b.toNat : Int) < 65 ∨ 90 < (b.toNat : Int)) : P.upB b = false := by
  unfold P.upB
  rcases h with h | h
  · rw [decide_eq_false (by omega)]; rfl
  · rw [decide_eq_false (p := (b.toNat : Int) ≤ 90) (by omega), Bool.and_false]
theorem P.upB_yes {b : UInt8} (h : 65 ≤ (b.toNat : Int)) (h2 : (b.toNat : Int) ≤ 90) : P.upB b = true := by
  unfold P.upB; rw [decide_eq_true h, decide_eq_true h2]; rfl
/-- a state as a value -/
abbrev stV (s : P.St) : Value := .agg #[.string (S s.text), .bool s.joined, .bool s.glued, .int .i64 s.cap, .int .i64 (s.word : Int)]
abbrev stCells (s : P.St) : Obj := .cells #[.string (S s.text), .bool s.joined, .bool s.glued, .int .i64 s.cap, .int .i64 (s.word : Int)] 170
theorem l12Plain (s : Str) (w : World) (hs : s.length ≤ 2 ^ 40) :
    Calls Tryz.prog 195 #[.string (S s)] w fun e w' => e = .returned (.bool (s.all P.prn)) ∧ w = w' := by
  go_enter Tryz.func195, Tryz.ntmps195
  go_wp2
  go_loop [3] (fun i => ∃ k : Nat, k ≤ s.length ∧ i = .int .i64 k ∧ (s.take k).all P.prn = true) (fun i => s.length - (intOf i).toNat)
  case atStart => exact ⟨0, by omega, rfl, by simp⟩
  case round =>
    obtain ⟨k, hk, rfl, ha⟩ := hrel
    have HA := Lib.hid ha; clear ha
    by_cases hlt : k < s.length
    · have i1 : (k : Int) < (s.length : Int) := by omega
      rcases Classical.em ((s[k].toNat : Int) < 32 ∨ 126 < (s[k].toNat : Int)) with h | h
      · have hd : decide (32 ≤ (s[k].toNat : Int) ∧ (s[k].toNat : Int) ≤ 126) = false := by rw [decide_eq_false_iff_not]; omega
        have H := Lib.hid h; clear h
        go_wp2_with (go_at_call 161; refine (l1In _ _ _ _).mono ?_; rintro e w' ⟨rfl, rfl⟩)
        go_ret
        exact ⟨ret_bool (P.pall_false hlt (P.prn_no H.out)).symm, rfl⟩
      · have h1 : 32 ≤ (s[k].toNat : Int) := by omega
        have h2 : (s[k].toNat : Int) ≤ 126 := by omega
        clear h
        have hd : decide (32 ≤ (s[k].toNat : Int) ∧ (s[k].toNat : Int) ≤ 126) = true := by rw [decide_eq_true_iff]; omega
        have HL := Lib.hid (P.prn_yes h1 h2)
        go_wp2_with (go_at_call 161; refine (l1In _ _ _ _).mono ?_; rintro e w' ⟨rfl, rfl⟩)
        go_round
        case rel => exact ⟨k + 1, by omega, by go_num, all_snoc k hlt HA.out HL.out⟩
        case measure => simp [intOf]; omega
    · have i1 : ¬ (k : Int) < (s.length : Int) := by omega
      have HT := Lib.hid (show s.all P.prn = true by rw [← List.take_of_length_le (l := s) (i := k) (by omega)]; exact HA.out)
      go_wp2
      go_ret
      exact ⟨ret_bool HT.out.symm, rfl⟩
theorem l12Good (s : P.St) (w : World) (hs : s.text.length ≤ 2 ^ 40) :
    Calls Tryz.prog 160 #[stV s] w fun e w' => e = .returned (.bool (P.stOk s)) ∧ Below w.heap.size w w' := by
  obtain ⟨t, jn, gl, cp, wd⟩ := s
  simp only at hs
  have HB0 := Lib.hid ((Below.refl w.heap.size w).alloc (Nat.le_refl _) (.cells #[.string (S t), .bool jn, .bool gl, .int .i64 cp, .int .i64 (wd : Int)] 170))
  have hf : P.stOk ⟨t, jn, gl, cp, wd⟩ = (decide ((t.length : Int) ≤ 2000) && (t.all P.prn && (decide (0 ≤ cp ∧ cp ≤ 2) && decide (0 ≤ (wd : Int) ∧ (wd : Int) ≤ (t.length : Int))))) := rfl
  obtain ⟨q1, hq1⟩ : ∃ q, t.all P.prn = q := ⟨_, rfl⟩
  obtain ⟨q2, hq2⟩ : ∃ q, decide (0 ≤ cp ∧ cp ≤ 2) = q := ⟨_, rfl⟩
  have HQ1 := Lib.hid hq1; have HQ2 := Lib.hid hq2
  by_cases h0 : (t.length : Int) ≤ 2000
  · rw [decide_eq_true h0, hq1, hq2] at hf
    have HF := Lib.hid hf
    clear hf hq1 hq2
    cases q1
    · go_enter Tryz.func160, Tryz.ntmps160
      go_wp2_with (first | (go_at_call 195; refine (l12Plain _ _ hs).mono ?_; rintro e w' ⟨rfl, rfl⟩; rw [HQ1.out]) | (go_at_call 161; refine (l1In _ _ _ _).mono ?_; rintro e w' ⟨rfl, rfl⟩))
      go_ret
      exact ⟨ret_bool (by rw [HF.out]; rfl), HB0.out⟩
    · cases q2
      · go_enter Tryz.func160, Tryz.ntmps160
        go_wp2_with (first | (go_at_call 195; refine (l12Plain _ _ hs).mono ?_; rintro e w' ⟨rfl, rfl⟩; rw [HQ1.out]) | (go_at_call 161; refine (l1In _ _ _ _).mono ?_; rintro e w' ⟨rfl, rfl⟩; try rw [HQ2.out]))
        go_ret
        exact ⟨ret_bool (by rw [HF.out]; rfl), HB0.out⟩
      · go_enter Tryz.func160, Tryz.ntmps160
        go_wp2_with (first | (go_at_call 195; refine (l12Plain _ _ hs).mono ?_; rintro e w' ⟨rfl, rfl⟩; rw [HQ1.out]) | (go_at_call 161; refine (l1In _ _ _ _).mono ?_; rintro e w' ⟨rfl, rfl⟩; try rw [HQ2.out]))
        go_ret
        exact ⟨ret_bool (by rw [HF.out]; simp), HB0.out⟩
  · rw [decide_eq_false h0] at hf
    have HF := Lib.hid hf
    clear hf hq1 hq2
    go_enter Tryz.func160, Tryz.ntmps160
    go_wp2
    go_ret
    exact ⟨ret_bool (by rw [HF.out]; rfl), HB0.out⟩
theorem l12New0 (w : World) :
    Calls Tryz.prog 156 #[.string (S [])] w fun e w' => e = .returned (stV P.init) ∧ Below w.heap.size w w' := by
  go_enter Tryz.func156, Tryz.ntmps156
  go_wp2
  refine bodyPost_ret (v := stV P.init) (by simp [results, Tryz.results156, go_sem]; exact ⟨rfl, rfl, rfl, rfl, rfl⟩) rfl ⟨rfl, ?_⟩
  exact (Below.refl w.heap.size w).alloc (Nat.le_refl _) _
theorem u8_sub {b : UInt8} (h : P.lower b = true) : ((b - 32).toNat : Int) = (b.toNat : Int) - 32 ∧ 97 ≤ (b.toNat : Int) ∧ (b.toNat : Int) ≤ 122 := by
  unfold P.lower at h
  simp only [Bool.and_eq_true, decide_eq_true_eq] at h
  have h1 : 32 ≤ b := by rw [UInt8.le_iff_toNat_le]; show 32 ≤ b.toNat; omega
  rw [UInt8.toNat_sub_of_le _ _ h1]
  refine ⟨?_, h.1, h.2⟩
  show ((b.toNat - 32 : Nat) : Int) = _
  omega
theorem u8_add {b : UInt8} (h : P.upB b = true) : ((b + 32).toNat : Int) = (b.toNat : Int) + 32 ∧ 65 ≤ (b.toNat : Int) ∧ (b.toNat : Int) ≤ 90 := by
  unfold P.upB at h
  simp only [Bool.and_eq_true, decide_eq_true_eq] at h
  rw [UInt8.toNat_add]
  refine ⟨?_, h.1, h.2⟩
  show (((b.toNat + 32) % 2 ^ 8 : Nat) : Int) = _
  omega
/-- a state in its box -/
def StBox (b : Nat) (s : P.St) (v : World) : Prop :=
  (v.cell? ⟨b, 0, none⟩ = some (.string (S s.text)) ∧ v.cell? ⟨b, 1, none⟩ = some (.bool s.joined) ∧ v.cell? ⟨b, 2, none⟩ = some (.bool s.glued) ∧ v.cell? ⟨b, 3, none⟩ = some (.int .i64 s.cap) ∧ v.cell? ⟨b, 4, none⟩ = some (.int .i64 (s.word : Int))) ∧
  (v.frozen? ⟨b, 0, none⟩ = false ∧ v.frozen? ⟨b, 1, none⟩ = false ∧ v.frozen? ⟨b, 2, none⟩ = false ∧ v.frozen? ⟨b, 3, none⟩ = false ∧ v.frozen? ⟨b, 4, none⟩ = false) ∧ b < v.heap.size
theorem StBox.stand {b : Nat} {s : P.St} {v v' : World} {X : Blk} (h : StBox b s v) (hc : Chg X v v') (hX : ¬ X b) : StBox b s v' := by
  obtain ⟨⟨a0, a1, a2, a3, a4⟩, ⟨f0, f1, f2, f3, f4⟩, hl⟩ := h
  exact ⟨⟨(hc.cell (p := ⟨b, 0, none⟩) hl hX).trans a0, (hc.cell (p := ⟨b, 1, none⟩) hl hX).trans a1, (hc.cell (p := ⟨b, 2, none⟩) hl hX).trans a2, (hc.cell (p := ⟨b, 3, none⟩) hl hX).trans a3, (hc.cell (p := ⟨b, 4, none⟩) hl hX).trans a4⟩,
    ⟨(hc.frozen (p := ⟨b, 0, none⟩) hl hX).trans f0, (hc.frozen (p := ⟨b, 1, none⟩) hl hX).trans f1, (hc.frozen (p := ⟨b, 2, none⟩) hl hX).trans f2, (hc.frozen (p := ⟨b, 3, none⟩) hl hX).trans f3, (hc.frozen (p := ⟨b, 4, none⟩) hl hX).trans f4⟩, Nat.lt_of_lt_of_le hl hc.size⟩
theorem StBox.below {b : Nat} {s : P.St} {v v' : World} (h : StBox b s v) (hb : Below v.heap.size v v') : StBox b s v' := h.stand (Below.chg hb fun _ => False) fun h => h
theorem StBox.new (s : P.St) (v : World) : StBox v.heap.size s (v.alloc (stCells s)) := by
  refine ⟨⟨?_, ?_, ?_, ?_, ?_⟩, ⟨?_, ?_, ?_, ?_, ?_⟩, ?_⟩ <;> go_simp
theorem far {b i j : Nat} (h : i ≠ j) : (⟨b, i, none⟩ : Addr) ≠ ⟨b, j, none⟩ := by intro e; injection e with _ e; exact h e
theorem StBox.text {b : Nat} {s : P.St} {v : World} (h : StBox b s v) (t : Str) : StBox b { s with text := t } (v.setCell ⟨b, 0, none⟩ (.string (S t))) := by
  obtain ⟨⟨a0, a1, a2, a3, a4⟩, ⟨f0, f1, f2, f3, f4⟩, hl⟩ := h
  refine ⟨⟨World.cell?_setCell_same _ _ _ a0, ?_, ?_, ?_, ?_⟩, ⟨by simpa using f0, by simpa using f1, by simpa using f2, by simpa using f3, by simpa using f4⟩, by simpa [World.setCell] using hl⟩
  all_goals (rw [World.cell?_setCell_other _ _ _ _ (far (by decide))]; assumption)
theorem StBox.joined {b : Nat} {s : P.St} {v : World} (h : StBox b s v) (x : Bool) : StBox b { s with joined := x } (v.setCell ⟨b, 1, none⟩ (.bool x)) := by
  obtain ⟨⟨a0, a1, a2, a3, a4⟩, ⟨f0, f1, f2, f3, f4⟩, hl⟩ := h
  refine ⟨⟨?_, World.cell?_setCell_same _ _ _ a1, ?_, ?_, ?_⟩, ⟨by simpa using f0, by simpa using f1, by simpa using f2, by simpa using f3, by simpa using f4⟩, by simpa [World.setCell] using hl⟩
  all_goals (rw [World.cell?_setCell_other _ _ _ _ (far (by decide))]; assumption)
theorem StBox.glued {b : Nat} {s : P.St} {v : World} (h : StBox b s v) (x : Bool) : StBox b { s with glued := x } (v.setCell ⟨b, 2, none⟩ (.bool x)) := by
  obtain ⟨⟨a0, a1, a2, a3, a4⟩, ⟨f0, f1, f2, f3, f4⟩, hl⟩ := h
  refine ⟨⟨?_, ?_, World.cell?_setCell_same _ _ _ a2, ?_, ?_⟩, ⟨by simpa using f0, by simpa using f1, by simpa using f2, by simpa using f3, by simpa using f4⟩, by simpa [World.setCell] using hl⟩
  all_goals (rw [World.cell?_setCell_other _ _ _ _ (far (by decide))]; assumption)
theorem StBox.cap {b : Nat} {s : P.St} {v : World} (h : StBox b s v) (x : Int) : StBox b { s with cap := x } (v.setCell ⟨b, 3, none⟩ (.int .i64 x)) := by
  obtain ⟨⟨a0, a1, a2, a3, a4⟩, ⟨f0, f1, f2, f3, f4⟩, hl⟩ := h
  refine ⟨⟨?_, ?_, ?_, World.cell?_setCell_same _ _ _ a3, ?_⟩, ⟨by simpa using f0, by simpa using f1, by simpa using f2, by simpa using f3, by simpa using f4⟩, by simpa [World.setCell] using hl⟩
  all_goals (rw [World.cell?_setCell_other _ _ _ _ (far (by decide))]; assumption)
theorem StBox.word {b : Nat} {s : P.St} {v : World} (h : StBox b s v) (x : Nat) : StBox b { s with word := x } (v.setCell ⟨b, 4, none⟩ (.int .i64 (x : Int))) := by
  obtain ⟨⟨a0, a1, a2, a3, a4⟩, ⟨f0, f1, f2, f3, f4⟩, hl⟩ := h
  refine ⟨⟨?_, ?_, ?_, ?_, World.cell?_setCell_same _ _ _ a4⟩, ⟨by simpa using f0, by simpa using f1, by simpa using f2, by simpa using f3, by simpa using f4⟩, by simpa [World.setCell] using hl⟩
  all_goals (rw [World.cell?_setCell_other _ _ _ _ (far (by decide))]; assumption)
end Go.Proofs.YtmlklnimoknojaaGreatDoor

namespace Go.Proofs.YtmlklnimoknojaaGreatDoor
open Go Go.RowKit
set_option maxHeartbeats 4000000
set_option maxRecDepth 100000
theorem l12Case (s : Str) (k : Int) (w : World) (hk : 0 ≤ k ∧ k ≤ 2) (hs : s.length ≤ 2 ^ 40) :
    Calls Tryz.prog 194 #[.string (S s), .int .i64 k] w fun e w' => e = .returned (.string (S (P.caseW s k))) ∧ Below w.heap.size w w' := by
  have h3 : k = 0 ∨ k = 1 ∨ k = 2 := by omega
  cases s with
  | nil =>
    have HC := Lib.hid (show P.caseW [] k = [] by rcases h3 with rfl | rfl | rfl <;> rfl)
    go_enter Tryz.func194, Tryz.ntmps194
    go_wp2
    go_ret
    exact ⟨ret_str HC.out.symm, Below.refl _ _⟩
  | cons b t =>
    have hn : ((b :: t : Str) == []) = false := rfl
    have hsl : t.length + 1 ≤ 2 ^ 40 := hs
    have j1 : (1 : Int) ≤ (t.length : Int) + 1 := by omega
    have j2 : ¬ 9223372036854775807 < 1 + t.length := by omega
    clear hs
    rcases h3 with rfl | rfl | rfl
    · have HC := Lib.hid (show P.caseW (b :: t) 0 = [b] ++ t from rfl)
      go_enter Tryz.func194, Tryz.ntmps194
      have hback := run_convert_bytes_back (P := Tryz.prog) ((w.alloc (.cells #[.int .u8 ((b).toNat : Int)] 5)).drew) 22 9 5 ⟨w.heap.size, 0, none⟩ 1 [b] Tryz.underlying22 Tryz.underlying5 Tryz.underlying9 (by
        intro j hj
        have : j = 0 := by simpa using hj
        subst this
        rw [add0]
        go_simp)
      simp only [List.length_cons, List.length_nil, Nat.zero_add] at hback
      go_upto_region 8 with fail
      go_region
      all_goals
        go_wp2
        go_ret
        exact ⟨ret_str HC.out.symm, ((Below.refl _ _).alloc (Nat.le_refl _) _).drew⟩
    · by_cases h1 : 97 ≤ (b.toNat : Int)
      · by_cases h2 : (b.toNat : Int) ≤ 122
        · have hl := P.lower_yes h1 h2
          have HC := Lib.hid (show P.caseW (b :: t) 1 = [b - 32] ++ t by show P.upper (b :: t) = _; rw [P.upper_yes hl]; rfl)
          obtain ⟨h4, _⟩ := u8_sub hl
          have e1 : IntKind.u8.wrap ((b.toNat : Int) - 32) = ((b - 32).toNat : Int) := by rw [h4, IntKind.wrap_u8]; omega
          clear hl h4
          go_enter Tryz.func194, Tryz.ntmps194
          have hback := run_convert_bytes_back (P := Tryz.prog) ((w.alloc (.cells #[.int .u8 ((b - 32).toNat : Int)] 5)).drew) 22 9 5 ⟨w.heap.size, 0, none⟩ 1 [b - 32] Tryz.underlying22 Tryz.underlying5 Tryz.underlying9 (by
            intro j hj
            have : j = 0 := by simpa using hj
            subst this
            rw [add0]
            go_simp)
          simp only [List.length_cons, List.length_nil, Nat.zero_add] at hback
          go_upto_region 8 with fail
          go_region
          all_goals
            go_wp2
            go_ret
            exact ⟨ret_str HC.out.symm, ((Below.refl _ _).alloc (Nat.le_refl _) _).drew⟩
        · have HC := Lib.hid (show P.caseW (b :: t) 1 = [b] ++ t from P.upper_no (P.lower_no (.inr (by omega))))
          go_enter Tryz.func194, Tryz.ntmps194
          have hback := run_convert_bytes_back (P := Tryz.prog) ((w.alloc (.cells #[.int .u8 ((b).toNat : Int)] 5)).drew) 22 9 5 ⟨w.heap.size, 0, none⟩ 1 [b] Tryz.underlying22 Tryz.underlying5 Tryz.underlying9 (by
            intro j hj
            have : j = 0 := by simpa using hj
            subst this
            rw [add0]
            go_simp)
          simp only [List.length_cons, List.length_nil, Nat.zero_add] at hback
          go_upto_region 8 with fail
          go_region
          all_goals
            go_wp2
            go_ret
            exact ⟨ret_str HC.out.symm, ((Below.refl _ _).alloc (Nat.le_refl _) _).drew⟩
      · have HC := Lib.hid (show P.caseW (b :: t) 1 = [b] ++ t from P.upper_no (P.lower_no (.inl (by omega))))
        go_enter Tryz.func194, Tryz.ntmps194
        have hback := run_convert_bytes_back (P := Tryz.prog) ((w.alloc (.cells #[.int .u8 ((b).toNat : Int)] 5)).drew) 22 9 5 ⟨w.heap.size, 0, none⟩ 1 [b] Tryz.underlying22 Tryz.underlying5 Tryz.underlying9 (by
          intro j hj
          have : j = 0 := by simpa using hj
          subst this
          rw [add0]
          go_simp)
        simp only [List.length_cons, List.length_nil, Nat.zero_add] at hback
        go_upto_region 8 with fail
        go_region
        all_goals
          go_wp2
          go_ret
          exact ⟨ret_str HC.out.symm, ((Below.refl _ _).alloc (Nat.le_refl _) _).drew⟩
    · by_cases h1 : 65 ≤ (b.toNat : Int)
      · by_cases h2 : (b.toNat : Int) ≤ 90
        · have hl := P.upB_yes h1 h2
          have HC := Lib.hid (show P.caseW (b :: t) 2 = [b + 32] ++ t by show P.lowered (b :: t) = _; rw [P.lowered_yes hl]; rfl)
          obtain ⟨h4, _⟩ := u8_add hl
          clear hl
          go_enter Tryz.func194, Tryz.ntmps194
          have hback := run_convert_bytes_back (P := Tryz.prog) ((w.alloc (.cells #[.int .u8 ((b.toNat : Int) + 32)] 5)).drew) 22 9 5 ⟨w.heap.size, 0, none⟩ 1 [b + 32] Tryz.underlying22 Tryz.underlying5 Tryz.underlying9 (by
            intro j hj
            have : j = 0 := by simpa using hj
            subst this
            rw [add0]
            show _ = some (Value.int IntKind.u8 (((b + 32).toNat : Nat) : Int))
            rw [h4]
            go_simp)
          simp only [List.length_cons, List.length_nil, Nat.zero_add] at hback
          go_upto_region 8 with fail
          go_region
          all_goals
            go_wp2
            go_ret
            exact ⟨ret_str HC.out.symm, ((Below.refl _ _).alloc (Nat.le_refl _) _).drew⟩
        · have HC := Lib.hid (show P.caseW (b :: t) 2 = [b] ++ t from P.lowered_no (P.upB_no (.inr (by omega))))
          go_enter Tryz.func194, Tryz.ntmps194
          have hback := run_convert_bytes_back (P := Tryz.prog) ((w.alloc (.cells #[.int .u8 ((b).toNat : Int)] 5)).drew) 22 9 5 ⟨w.heap.size, 0, none⟩ 1 [b] Tryz.underlying22 Tryz.underlying5 Tryz.underlying9 (by
            intro j hj
            have : j = 0 := by simpa using hj
            subst this
            rw [add0]
            go_simp)
          simp only [List.length_cons, List.length_nil, Nat.zero_add] at hback
          go_upto_region 8 with fail
          go_region
          all_goals
            go_wp2
            go_ret
            exact ⟨ret_str HC.out.symm, ((Below.refl _ _).alloc (Nat.le_refl _) _).drew⟩
      · have HC := Lib.hid (show P.caseW (b :: t) 2 = [b] ++ t from P.lowered_no (P.upB_no (.inl (by omega))))
        go_enter Tryz.func194, Tryz.ntmps194
        have hback := run_convert_bytes_back (P := Tryz.prog) ((w.alloc (.cells #[.int .u8 ((b).toNat : Int)] 5)).drew) 22 9 5 ⟨w.heap.size, 0, none⟩ 1 [b] Tryz.underlying22 Tryz.underlying5 Tryz.underlying9 (by
          intro j hj
          have : j = 0 := by simpa using hj
          subst this
          rw [add0]
          go_simp)
        simp only [List.length_cons, List.length_nil, Nat.zero_add] at hback
        go_upto_region 8 with fail
        go_region
        all_goals
          go_wp2
          go_ret
          exact ⟨ret_str HC.out.symm, ((Below.refl _ _).alloc (Nat.le_refl _) _).drew⟩
abbrev st0 : P.St := ⟨[], false, false, 0, 0⟩
/-- what the last region of l12Put holds -/
def SPut (w : World) (s : P.St) (v : World) : Prop := StBox w.heap.size s v ∧ StBox (w.heap.size + 1) st0 v ∧ Below w.heap.size w v
theorem SPut.below {w v v' : World} {s : P.St} (h : SPut w s v) (hb : Below v.heap.size v v') : SPut w s v' := ⟨h.1.below hb, h.2.1.below hb, h.2.2.trans (hb.mono h.2.2.size)⟩
theorem l12Put (s : P.St) (t : Str) (w : World) (hc : 0 ≤ s.cap ∧ s.cap ≤ 2) (hl : s.text.length ≤ 2 ^ 30) (ht : t.length ≤ 2 ^ 30) :
    Calls Tryz.prog 192 #[stV s, .string (S t)] w fun e w' => e = .returned (stV (P.put s t)) ∧ Below w.heap.size w w' := by
  obtain ⟨tx, jn, gl, cp, wd⟩ := s
  simp only at hc hl
  have HCP := Lib.hid hc
  clear hc
  cases jn
  · skip
    have hb0 : Below w.heap.size w ((w.alloc (stCells ⟨(tx ++ [32]), false, gl, cp, tx.length + 1⟩)).alloc (stCells st0)) := ((Below.refl w.heap.size w).alloc (Nat.le_refl _) _).alloc (by simp) _
    have HX1 := Lib.hid (((StBox.new ⟨(tx ++ [32]), false, gl, cp, tx.length + 1⟩ w).below ((Below.refl _ _).alloc (Nat.le_refl _) (stCells st0))).below (Below.refl _ _).drew)
    have HR1 := Lib.hid (show StBox (w.heap.size + 1) st0 ((w.alloc (stCells ⟨(tx ++ [32]), false, gl, cp, tx.length + 1⟩)).alloc (stCells st0)).drew by have h := (StBox.new st0 (w.alloc (stCells ⟨(tx ++ [32]), false, gl, cp, tx.length + 1⟩))).below (Below.refl _ _).drew; simpa using h)
    have HB1 := Lib.hid hb0.drew
    have hcl := P.caseW_len t cp
    have j1 : ¬ 9223372036854775807 < tx.length + 1 + (P.caseW t cp).length := by omega
    have j2 : ¬ 9223372036854775807 < tx.length + (P.caseW t cp).length := by omega
    have j3 : tx.length + (P.caseW t cp).length ≤ 9223372036854775807 := by omega
    have j4 : tx.length + 1 + (P.caseW t cp).length ≤ 9223372036854775807 := by omega
    clear hb0 hcl
    go_enter Tryz.func192, Tryz.ntmps192
    go_upto_region 4 with fail
    refine Left.region [8] (S := SPut w ⟨(tx ++ [32]), false, gl, cp, tx.length + 1⟩) (by kernel_rfl) ⟨HX1.out, HR1.out, HB1.out⟩ (fun hS0 => ?_)
    clear HX1 HR1 HB1
    generalize (World.drew _) = v0 at *
    have HS0 := Lib.hid hS0
    refine Left.take (i := 0) (v := .pointer (some ⟨w.heap.size, 0, none⟩)) rfl (by kernel_rfl) (by kernel_rfl) (by kernel_rfl) (by kernel_rfl) (fun _ _ _ h => h) (Or.inl ⟨by rfl, fun z hz => ?_⟩) hS0 ?_
    · obtain ⟨⟨⟨z0, z1, z2, z3, z4⟩, ⟨y0, y1, y2, y3, y4⟩, yl⟩, _, _⟩ := hz
      go_simp
    try simp only [qA, qB, Act.put, qD, qE, qF]
    refine Left.take (i := 1) (v := .string (S (tx ++ [32]))) rfl (by kernel_rfl) (by kernel_rfl) (by kernel_rfl) (by kernel_rfl) (fun _ _ _ h => h) (Or.inl ⟨by rfl, fun z hz => ?_⟩) hS0 ?_
    · obtain ⟨⟨⟨z0, z1, z2, z3, z4⟩, ⟨y0, y1, y2, y3, y4⟩, yl⟩, _, _⟩ := hz
      go_simp
    try simp only [qA, qB, qC, Act.put, qD, qE, qF]
    refine Left.take (i := 2) (v := .string (S t)) rfl (by kernel_rfl) (by kernel_rfl) (by kernel_rfl) (by kernel_rfl) (fun _ _ _ h => h) (Or.inl ⟨by rfl, fun z hz => ?_⟩) hS0 ?_
    · obtain ⟨⟨⟨z0, z1, z2, z3, z4⟩, ⟨y0, y1, y2, y3, y4⟩, yl⟩, _, _⟩ := hz
      go_simp
    try simp only [qA, qB, qC, Act.put, qD, qE, qF]
    refine Left.take (i := 3) (v := .pointer (some ⟨w.heap.size, 3, none⟩)) rfl (by kernel_rfl) (by kernel_rfl) (by kernel_rfl) (by kernel_rfl) (fun _ _ _ h => h) (Or.inl ⟨by rfl, fun z hz => ?_⟩) hS0 ?_
    · obtain ⟨⟨⟨z0, z1, z2, z3, z4⟩, ⟨y0, y1, y2, y3, y4⟩, yl⟩, _, _⟩ := hz
      go_simp
    try simp only [qA, qB, qC, Act.put, qD, qE, qF]
    refine Left.take (i := 4) (v := .int .i64 cp) rfl (by kernel_rfl) (by kernel_rfl) (by kernel_rfl) (by kernel_rfl) (fun _ _ _ h => h) (Or.inl ⟨by rfl, fun z hz => ?_⟩) hS0 ?_
    · obtain ⟨⟨⟨z0, z1, z2, z3, z4⟩, ⟨y0, y1, y2, y3, y4⟩, yl⟩, _, _⟩ := hz
      go_simp
    try simp only [qA, qB, qC, Act.put, qD, qE, qF]
    refine Left.ready (rs := [5]) (by kernel_rfl) (by simp) ?_
    refine Nexts.cons rfl (fun K hK => ?_) Nexts.nil
    go_simp
    refine (l12Case t cp _ HCP.out (by omega)).mono ?_
    rintro e v1 ⟨rfl, hb⟩
    have HS2 := Lib.hid (HS0.out.below hb)
    refine on_held hK (by decide) HS2.out (fun hS1 => ?_)
    clear hK K hb HS0 hS0
    try simp only [qA, qB, qC, Act.put, qD, qE, qF]
    refine Left.take (i := 6) (v := .string (S ((tx ++ [32]) ++ P.caseW t cp))) rfl (by kernel_rfl) (by kernel_rfl) (by kernel_rfl) (by kernel_rfl) (fun _ _ _ h => h) (Or.inl ⟨by rfl, fun z hz => ?_⟩) hS1 ?_
    · obtain ⟨⟨⟨z0, z1, z2, z3, z4⟩, ⟨y0, y1, y2, y3, y4⟩, yl⟩, _, _⟩ := hz
      go_simp
    try simp only [qA, qB, qC, Act.put, qD, qE, qF]
    refine Left.take (i := 7) (v := .pointer (some ⟨w.heap.size, 0, none⟩)) rfl (by kernel_rfl) (by kernel_rfl) (by kernel_rfl) (by kernel_rfl) (fun _ _ _ h => h) (Or.inl ⟨by rfl, fun z hz => ?_⟩) hS1 ?_
    · obtain ⟨⟨⟨z0, z1, z2, z3, z4⟩, ⟨y0, y1, y2, y3, y4⟩, yl⟩, _, _⟩ := hz
      go_simp
    try simp only [qA, qB, qC, Act.put, qD, qE, qF]
    refine Left.ready (rs := [8]) (by kernel_rfl) (by simp) ?_
    refine Nexts.cons rfl (fun K hK => ?_) Nexts.nil
    obtain ⟨⟨a0, a1, a2, a3, a4⟩, ⟨f0, f1, f2, f3, f4⟩, hlt⟩ := HS2.out.1
    go_simp
    refine on_last hK (by decide) ?_
    clear hK K
    try simp only [qA, qB, qC, Act.put, qD, qE, qF]
    refine Left.done (by kernel_rfl) ?_ _
    obtain ⟨⟨b0, b1, b2, b3, b4⟩, ⟨g0, g1, g2, g3, g4⟩, hlr⟩ := HS2.out.2.1
    simp only at a0 a1 a2 a3 a4 b0 b1 b2 b3 b4
    go_wp2
    refine bodyPost_ret (v := stV (P.put ⟨tx, false, gl, cp, wd⟩ t)) (by simp [results, Tryz.results192, go_sem, b0, b1, b2, b3, b4, P.put, P.base]) rfl ⟨rfl, ?_⟩
    repeat (refine Below.setCell ?_ (by simp) _)
    exact HS2.out.2.2
  · skip
    have hb0 : Below w.heap.size w ((w.alloc (stCells ⟨tx, true, gl, cp, tx.length⟩)).alloc (stCells st0)) := ((Below.refl w.heap.size w).alloc (Nat.le_refl _) _).alloc (by simp) _
    have HX1 := Lib.hid (((StBox.new ⟨tx, true, gl, cp, tx.length⟩ w).below ((Below.refl _ _).alloc (Nat.le_refl _) (stCells st0))).below (Below.refl _ _).drew)
    have HR1 := Lib.hid (show StBox (w.heap.size + 1) st0 ((w.alloc (stCells ⟨tx, true, gl, cp, tx.length⟩)).alloc (stCells st0)).drew by have h := (StBox.new st0 (w.alloc (stCells ⟨tx, true, gl, cp, tx.length⟩))).below (Below.refl _ _).drew; simpa using h)
    have HB1 := Lib.hid hb0.drew
    have hcl := P.caseW_len t cp
    have j1 : ¬ 9223372036854775807 < tx.length + 1 + (P.caseW t cp).length := by omega
    have j2 : ¬ 9223372036854775807 < tx.length + (P.caseW t cp).length := by omega
    have j3 : tx.length + (P.caseW t cp).length ≤ 9223372036854775807 := by omega
    have j4 : tx.length + 1 + (P.caseW t cp).length ≤ 9223372036854775807 := by omega
    clear hb0 hcl
    go_enter Tryz.func192, Tryz.ntmps192
    go_upto_region 4 with fail
    refine Left.region [8] (S := SPut w ⟨tx, true, gl, cp, tx.length⟩) (by kernel_rfl) ⟨HX1.out, HR1.out, HB1.out⟩ (fun hS0 => ?_)
    clear HX1 HR1 HB1
    generalize (World.drew _) = v0 at *
    have HS0 := Lib.hid hS0
    refine Left.take (i := 0) (v := .pointer (some ⟨w.heap.size, 0, none⟩)) rfl (by kernel_rfl) (by kernel_rfl) (by kernel_rfl) (by kernel_rfl) (fun _ _ _ h => h) (Or.inl ⟨by rfl, fun z hz => ?_⟩) hS0 ?_
    · obtain ⟨⟨⟨z0, z1, z2, z3, z4⟩, ⟨y0, y1, y2, y3, y4⟩, yl⟩, _, _⟩ := hz
      go_simp
    try simp only [qA, qB, Act.put, qD, qE, qF]
    refine Left.take (i := 1) (v := .string (S tx)) rfl (by kernel_rfl) (by kernel_rfl) (by kernel_rfl) (by kernel_rfl) (fun _ _ _ h => h) (Or.inl ⟨by rfl, fun z hz => ?_⟩) hS0 ?_
    · obtain ⟨⟨⟨z0, z1, z2, z3, z4⟩, ⟨y0, y1, y2, y3, y4⟩, yl⟩, _, _⟩ := hz
      go_simp
    try simp only [qA, qB, qC, Act.put, qD, qE, qF]
    refine Left.take (i := 2) (v := .string (S t)) rfl (by kernel_rfl) (by kernel_rfl) (by kernel_rfl) (by kernel_rfl) (fun _ _ _ h => h) (Or.inl ⟨by rfl, fun z hz => ?_⟩) hS0 ?_
    · obtain ⟨⟨⟨z0, z1, z2, z3, z4⟩, ⟨y0, y1, y2, y3, y4⟩, yl⟩, _, _⟩ := hz
      go_simp
    try simp only [qA, qB, qC, Act.put, qD, qE, qF]
    refine Left.take (i := 3) (v := .pointer (some ⟨w.heap.size, 3, none⟩)) rfl (by kernel_rfl) (by kernel_rfl) (by kernel_rfl) (by kernel_rfl) (fun _ _ _ h => h) (Or.inl ⟨by rfl, fun z hz => ?_⟩) hS0 ?_
    · obtain ⟨⟨⟨z0, z1, z2, z3, z4⟩, ⟨y0, y1, y2, y3, y4⟩, yl⟩, _, _⟩ := hz
      go_simp
    try simp only [qA, qB, qC, Act.put, qD, qE, qF]
    refine Left.take (i := 4) (v := .int .i64 cp) rfl (by kernel_rfl) (by kernel_rfl) (by kernel_rfl) (by kernel_rfl) (fun _ _ _ h => h) (Or.inl ⟨by rfl, fun z hz => ?_⟩) hS0 ?_
    · obtain ⟨⟨⟨z0, z1, z2, z3, z4⟩, ⟨y0, y1, y2, y3, y4⟩, yl⟩, _, _⟩ := hz
      go_simp
    try simp only [qA, qB, qC, Act.put, qD, qE, qF]
    refine Left.ready (rs := [5]) (by kernel_rfl) (by simp) ?_
    refine Nexts.cons rfl (fun K hK => ?_) Nexts.nil
    go_simp
    refine (l12Case t cp _ HCP.out (by omega)).mono ?_
    rintro e v1 ⟨rfl, hb⟩
    have HS2 := Lib.hid (HS0.out.below hb)
    refine on_held hK (by decide) HS2.out (fun hS1 => ?_)
    clear hK K hb HS0 hS0
    try simp only [qA, qB, qC, Act.put, qD, qE, qF]
    refine Left.take (i := 6) (v := .string (S (tx ++ P.caseW t cp))) rfl (by kernel_rfl) (by kernel_rfl) (by kernel_rfl) (by kernel_rfl) (fun _ _ _ h => h) (Or.inl ⟨by rfl, fun z hz => ?_⟩) hS1 ?_
    · obtain ⟨⟨⟨z0, z1, z2, z3, z4⟩, ⟨y0, y1, y2, y3, y4⟩, yl⟩, _, _⟩ := hz
      go_simp
    try simp only [qA, qB, qC, Act.put, qD, qE, qF]
    refine Left.take (i := 7) (v := .pointer (some ⟨w.heap.size, 0, none⟩)) rfl (by kernel_rfl) (by kernel_rfl) (by kernel_rfl) (by kernel_rfl) (fun _ _ _ h => h) (Or.inl ⟨by rfl, fun z hz => ?_⟩) hS1 ?_
    · obtain ⟨⟨⟨z0, z1, z2, z3, z4⟩, ⟨y0, y1, y2, y3, y4⟩, yl⟩, _, _⟩ := hz
      go_simp
    try simp only [qA, qB, qC, Act.put, qD, qE, qF]
    refine Left.ready (rs := [8]) (by kernel_rfl) (by simp) ?_
    refine Nexts.cons rfl (fun K hK => ?_) Nexts.nil
    obtain ⟨⟨a0, a1, a2, a3, a4⟩, ⟨f0, f1, f2, f3, f4⟩, hlt⟩ := HS2.out.1
    go_simp
    refine on_last hK (by decide) ?_
    clear hK K
    try simp only [qA, qB, qC, Act.put, qD, qE, qF]
    refine Left.done (by kernel_rfl) ?_ _
    obtain ⟨⟨b0, b1, b2, b3, b4⟩, ⟨g0, g1, g2, g3, g4⟩, hlr⟩ := HS2.out.2.1
    simp only at a0 a1 a2 a3 a4 b0 b1 b2 b3 b4
    go_wp2
    refine bodyPost_ret (v := stV (P.put ⟨tx, true, gl, cp, wd⟩ t)) (by simp [results, Tryz.results192, go_sem, b0, b1, b2, b3, b4, P.put, P.base]) rfl ⟨rfl, ?_⟩
    repeat (refine Below.setCell ?_ (by simp) _)
    exact HS2.out.2.2
end Go.Proofs.YtmlklnimoknojaaGreatDoor
