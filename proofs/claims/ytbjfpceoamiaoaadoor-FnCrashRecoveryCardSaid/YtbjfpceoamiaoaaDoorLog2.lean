/- Walks: encoding of records. -/
import Derived.Test.YtbjfpceoamiaoaaDoorLog1
namespace Go.Proofs.YtbjfpceoamiaoaaDoor
open Go Go.RowKit
set_option maxHeartbeats 400000
set_option maxRecDepth 100000
theorem appendChecksum (s : Str) (w : World) (hs : s.length ≤ 2 ^ 30) (hE : Env w) :
    Calls Tryd.prog 50 #[.string (S s)] w fun e w' => e = .returned (.tuple #[.string (S (P.appendChecksum s).1), .bool (P.appendChecksum s).2]) ∧ Below w.heap.size w w' := by
  have hs' : s.length ≤ maxLen := by unfold maxLen; omega
  have HE := Lib.hid hE; clear hE
  have hl := sum_lt s
  have hl2 := P.num_len (P.sum s) (by omega)
  by_cases h1 : (s.length : Int) ≤ 4000
  · have hp : P.sealed s = s ++ 35 :: P.num (P.sum s) := rfl
    have hps : (P.sealed s).length = s.length + ((P.num (P.sum s)).length + 1) := by rw [hp]; simp
    have HP := Lib.hid hp; clear hp
    have HPS := Lib.hid hps; clear hps
    have hd1 : decide ((s.length : Int) ≤ 4000) = true := decide_eq_true h1
    have HD1 := Lib.hid hd1; clear hd1
    cases h2 : Lib.contains s [35]
    · by_cases h3 : (s.length : Int) + (((P.num (P.sum s)).length : Int) + 1) ≤ 4000
      · have HF := Lib.hid (show P.appendChecksum s = (P.sealed s, true) by unfold P.appendChecksum P.sealable; rw [HD1.out, h2, HPS.out, decide_eq_true (by omega)]; rfl)
        have H1 := Lib.hid h1; clear h1
        have h3' : (s.length : Int) + ((P.num (P.sum s)).length : Int) < 4000 := by omega
        clear h3
        go_enter Tryd.func50, Tryd.ntmps50
        go_wp2_with (first | (go_at_call 68; refine (checksum _ _ hs').mono ?_; rintro e w' ⟨rfl, rfl⟩; rw [if_pos H1.out, HD1.out]) | (go_at_call 51; refine (itoa_any _ _ (by omega) (by omega) HE.out).mono ?_; rintro e w' ⟨rfl, hb⟩; have HB := Lib.hid hb; clear hb; rw [Int.toNat_natCast]) | (go_at_call 60; refine (contains_one _ 35 _).mono ?_; rintro e w' ⟨rfl, rfl⟩))
        go_ret2
        exact ⟨by rw [HF.out, HP.out]; rfl, HB.out⟩
      · have h3' := Int.not_le.1 h3
        clear h3
        have HF := Lib.hid (show P.appendChecksum s = ([], false) by unfold P.appendChecksum P.sealable; rw [HD1.out, h2, HPS.out, decide_eq_false (by omega)]; rfl)
        go_enter Tryd.func50, Tryd.ntmps50
        go_wp2_with (first | (go_at_call 68; refine (checksum _ _ hs').mono ?_; rintro e w' ⟨rfl, rfl⟩; rw [if_pos h1, HD1.out]) | (go_at_call 51; refine (itoa_any _ _ (by omega) (by omega) HE.out).mono ?_; rintro e w' ⟨rfl, hb⟩; have HB := Lib.hid hb; clear hb; rw [Int.toNat_natCast]) | (go_at_call 60; refine (contains_one _ 35 _).mono ?_; rintro e w' ⟨rfl, rfl⟩))
        go_ret2
        exact ⟨by rw [HF.out]; rfl, HB.out⟩
    · have HF := Lib.hid (show P.appendChecksum s = ([], false) by unfold P.appendChecksum P.sealable; rw [HD1.out, h2]; rfl)
      go_enter Tryd.func50, Tryd.ntmps50
      go_wp2_with (first | (go_at_call 68; refine (checksum _ _ hs').mono ?_; rintro e w' ⟨rfl, rfl⟩; rw [if_pos h1, HD1.out]) | (go_at_call 51; refine (itoa_any _ _ (by omega) (by omega) HE.out).mono ?_; rintro e w' ⟨rfl, hb⟩; have HB := Lib.hid hb; clear hb; rw [Int.toNat_natCast]) | (go_at_call 60; refine (contains_one _ 35 _).mono ?_; rintro e w' ⟨rfl, rfl⟩))
      go_ret2
      exact ⟨by rw [HF.out]; rfl, HB.out⟩
  · have HF := Lib.hid (show P.appendChecksum s = ([], false) by unfold P.appendChecksum P.sealable; rw [decide_eq_false h1]; rfl)
    have h0 := P.num_len 0 (by omega)
    have hd1 : decide ((s.length : Int) ≤ 4000) = false := decide_eq_false h1
    have HD1 := Lib.hid hd1; clear hd1
    go_enter Tryd.func50, Tryd.ntmps50
    go_wp2_with (first | (go_at_call 68; refine (checksum _ _ hs').mono ?_; rintro e w' ⟨rfl, rfl⟩; rw [if_neg h1, HD1.out]) | (go_at_call 51; refine (itoa_any _ _ (by omega) (by omega) HE.out).mono ?_; rintro e w' ⟨rfl, hb⟩; have HB := Lib.hid hb; clear hb; rw [show (0 : Int).toNat = 0 from rfl]) | (go_at_call 60; refine (contains_one _ 35 _).mono ?_; rintro e w' ⟨rfl, rfl⟩))
    go_ret2
    exact ⟨by rw [HF.out]; rfl, HB.out⟩
theorem appendChecksum_len (s : Str) : (P.appendChecksum s).1.length ≤ 4000 := by
  unfold P.appendChecksum
  cases h : P.sealable s
  · simp
  · unfold P.sealable at h
    simp only [Bool.and_eq_true, decide_eq_true_eq] at h
    have := h.2.2
    show (P.sealed s).length ≤ 4000
    omega
theorem encodeRecord (k : Int) (c r : Str) (w : World) (hc : c.length ≤ 2 ^ 28) (hr : r.length ≤ 2 ^ 28) (hE : Env w) :
    Calls Tryd.prog 28 #[.int .i64 k, .agg #[.string (S c), .string (S r)]] w fun e w' => e = .returned (.tuple #[.string (S (P.encode k c r).1), .bool (P.encode k c r).2]) ∧ Below w.heap.size w w' := by
  have HE := Lib.hid hE; clear hE
  cases h1 : decide (0 ≤ k ∧ k ≤ 59)
  · have HF := Lib.hid (show P.encode k c r = ([], false) by unfold P.encode; rw [h1]; rfl)
    go_enter Tryd.func28, Tryd.ntmps28
    go_wp2_with (go_at_call 41; refine (impl_in _ _ _ _).mono ?_; rintro e w' ⟨rfl, rfl⟩)
    go_ret2
    exact ⟨by rw [HF.out]; rfl, (Below.refl _ _).alloc (Nat.le_refl _) _⟩
  · have hk := of_decide_eq_true h1
    obtain ⟨hk0, hk1⟩ := hk
    cases h2 : P.vrec c r
    · have HF := Lib.hid (show P.encode k c r = ([], false) by unfold P.encode; rw [h1, h2]; rfl)
      go_enter Tryd.func28, Tryd.ntmps28
      go_wp2_with (first | (go_at_call 41; refine (impl_in _ _ _ _).mono ?_; rintro e w' ⟨rfl, rfl⟩) | (go_at_call 36; refine (isValidRecord _ _ _ (by omega) (by omega)).mono ?_; rintro e w' ⟨rfl, hb⟩; have HB := Lib.hid hb; clear hb))
      go_ret2
      exact ⟨by rw [HF.out]; rfl, ((Below.refl _ _).alloc (Nat.le_refl _) _).trans (HB.out.mono (by simp))⟩
    · have HF := Lib.hid (show P.encode k c r = ((P.appendChecksum (P.num k.toNat ++ 32 :: (c ++ 62 :: r))).1 ++ [10], true) by unfold P.encode; rw [h1, h2]; rfl)
      have hn := P.num_len k.toNat (by omega)
      have hl := appendChecksum_len (P.num k.toNat ++ 32 :: (c ++ 62 :: r))
      go_enter Tryd.func28, Tryd.ntmps28
      go_wp2_with (first | (go_at_call 41; refine (impl_in _ _ _ _).mono ?_; rintro e w' ⟨rfl, rfl⟩) | (go_at_call 36; refine (isValidRecord _ _ _ (by omega) (by omega)).mono ?_; rintro e w' ⟨rfl, hb⟩; have HB := Lib.hid hb; clear hb))
      have hb := HB.out
      have hc0 : w'.cell? ⟨w.heap.size, 0, none⟩ = some (.string (S c)) := by rw [hb.cell (p := ⟨w.heap.size, 0, none⟩) (by simp)]; go_simp
      have hc1 : w'.cell? ⟨w.heap.size, 1, none⟩ = some (.string (S r)) := by rw [hb.cell (p := ⟨w.heap.size, 1, none⟩) (by simp)]; go_simp
      have hsz : w.heap.size < w'.heap.size := by have := hb.size; simp at this; omega
      have hE1 : Env w' := (HE.out.alloc _).below hb (HE.out.alloc _).size
      have hb1 : Below w.heap.size w w' := ((Below.refl _ _).alloc (Nat.le_refl _) _).trans (hb.mono (by simp))
      clear hb
      have f1 : ¬ 9223372036854775807 < (P.num k.toNat).length + 1 := by omega
      have f2 : ¬ 9223372036854775807 < (P.num k.toNat).length + 1 + c.length := by omega
      have f3 : ¬ 9223372036854775807 < (P.num k.toNat).length + (c.length + 1) + 1 := by omega
      have f4 : ¬ 9223372036854775807 < (P.num k.toNat).length + (c.length + 1 + 1) + r.length := by omega
      go_region_held3 (fun v => v.cell? ⟨w.heap.size, 0, none⟩ = some (.string (S c)) ∧ v.cell? ⟨w.heap.size, 1, none⟩ = some (.string (S r)) ∧ w.heap.size < v.heap.size ∧ Env v ∧ Below w.heap.size w v) (first | assumption | exact ⟨hc0, hc1, hsz, hE1.drewN 1, below_drewN hb1 1⟩ | exact held2 (by assumption) hb)
        (first | (go_at_call 51; refine (itoa_any _ _ (by omega) (by omega) ?_).mono ?_; exact (by assumption : _ ∧ _ ∧ _ ∧ Env _ ∧ _).2.2.2.1; rintro e v ⟨rfl, hb⟩) | (go_at_call 50; refine (appendChecksum _ _ (by simp; omega) ?_).mono ?_; exact (by assumption : _ ∧ _ ∧ _ ∧ Env _ ∧ _).2.2.2.1; rintro e v ⟨rfl, hb⟩))
      have hx : Below w.heap.size w v := held_below (by assumption)
      have HX := Lib.hid hx
      clear hx f1 f2 f3 f4
      go_wp2
      go_ret2
      exact ⟨by rw [HF.out]; rfl, HX.out⟩
end Go.Proofs.YtbjfpceoamiaoaaDoor
