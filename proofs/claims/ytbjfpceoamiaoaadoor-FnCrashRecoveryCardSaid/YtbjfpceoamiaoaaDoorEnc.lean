/- Walks: the reference's encoding of a record and its checks. -/
import Derived.Test.YtbjfpceoamiaoaaDoorRvr
namespace Go.Proofs.YtbjfpceoamiaoaaDoor
open Go Go.RowKit
set_option maxHeartbeats 1000000
set_option maxRecDepth 100000
theorem spec_encode (k : Int) (c r : Str) (w : World) (hc : c.length ≤ 2 ^ 20) (hr : r.length ≤ 2 ^ 20) :
    Calls Tryd.prog 29 #[.int .i64 k, .agg #[.string (S c), .string (S r)]] w fun e w' => e = .returned (.tuple #[.string (S (P.encS k c r).1), .bool (P.encS k c r).2]) ∧ Below w.heap.size w w' := by
  cases h1 : decide (0 ≤ k ∧ k ≤ 59)
  · have HF := Lib.hid (show P.encS k c r = ([], false) by unfold P.encS; rw [h1]; rfl)
    go_enter Tryd.func29, Tryd.ntmps29
    go_wp2_with (go_at_call 40; refine (l1In _ _ _ _).mono ?_; rintro e w' ⟨rfl, rfl⟩)
    go_ret2
    exact ⟨by rw [HF.out]; rfl, (Below.refl _ _).alloc (Nat.le_refl _) _⟩
  · have hk := of_decide_eq_true h1
    obtain ⟨hk0, hk1⟩ := hk
    cases h2 : P.good c r
    · have HF := Lib.hid (show P.encS k c r = ([], false) by unfold P.encS; rw [h1, h2]; rfl)
      go_enter Tryd.func29, Tryd.ntmps29
      go_wp2_with (first | (go_at_call 40; refine (l1In _ _ _ _).mono ?_; rintro e w' ⟨rfl, rfl⟩) | (go_at_call 42; refine (l24Good _ _ _ (by unfold maxLen; omega) (by unfold maxLen; omega)).mono ?_; rintro e w' ⟨rfl, hb⟩; have HB := Lib.hid hb; clear hb))
      go_ret2
      exact ⟨by rw [HF.out]; rfl, ((Below.refl _ _).alloc (Nat.le_refl _) _).trans (HB.out.mono (by simp))⟩
    · have HF := Lib.hid (show P.encS k c r = (P.line k.toNat c r, true) by unfold P.encS; rw [h1, h2]; rfl)
      go_enter Tryd.func29, Tryd.ntmps29
      go_wp2_with (first | (go_at_call 40; refine (l1In _ _ _ _).mono ?_; rintro e w' ⟨rfl, rfl⟩) | (go_at_call 42; refine (l24Good _ _ _ (by unfold maxLen; omega) (by unfold maxLen; omega)).mono ?_; rintro e w' ⟨rfl, hb⟩; have HB := Lib.hid hb; have hc0 : w'.cell? ⟨w.heap.size, 0, none⟩ = some (.string (S c)) := (by rw [hb.cell (p := ⟨w.heap.size, 0, none⟩) (by simp)]; go_simp); have hc1 : w'.cell? ⟨w.heap.size, 1, none⟩ = some (.string (S r)) := (by rw [hb.cell (p := ⟨w.heap.size, 1, none⟩) (by simp)]; go_simp); clear hb) | (go_at_call 43; refine (l24Line _ _ _ _ (by omega) (by omega) (by omega) (by omega)).mono ?_; rintro e w2 ⟨rfl, hb⟩; have HB2 := Lib.hid hb; clear hb))
      go_ret2
      refine ⟨by rw [HF.out]; rfl, ?_⟩
      have h0 := ((Below.refl w.heap.size w).alloc (Nat.le_refl _) _).trans (HB.out.mono (by simp))
      exact h0.trans (HB2.out.mono h0.size)
theorem spec_isValidLog (d p : Str) (n : Int) (w : World) (hd : d.length ≤ 2 ^ 20) (hp : p.length ≤ 2 ^ 20) :
    Calls Tryd.prog 35 #[logV d p n] w fun e w' => e = .returned (.bool (P.validLog d p n)) ∧ Below w.heap.size w w' := by
  go_enter Tryd.func35, Tryd.ntmps35
  go_wp2_with fail
  refine (l24Log _ _ _ _ hd hp).mono ?_
  rintro e w1 ⟨rfl, hb⟩
  have HB := Lib.hid hb; clear hb
  go_wp2
  go_ret
  exact ⟨rfl, ((Below.refl _ _).alloc (Nat.le_refl _) _).trans (HB.out.mono (by simp))⟩
theorem spec_isValidRecord (c r : Str) (w : World) (hc : c.length ≤ 2 ^ 20) (hr : r.length ≤ 2 ^ 20) :
    Calls Tryd.prog 37 #[.agg #[.string (S c), .string (S r)]] w fun e w' => e = .returned (.bool (P.good c r)) ∧ Below w.heap.size w w' := by
  go_enter Tryd.func37, Tryd.ntmps37
  go_wp2_with fail
  refine (l24Good _ _ _ (by unfold maxLen; omega) (by unfold maxLen; omega)).mono ?_
  rintro e w1 ⟨rfl, hb⟩
  have HB := Lib.hid hb; clear hb
  go_wp2
  go_ret
  exact ⟨rfl, ((Below.refl _ _).alloc (Nat.le_refl _) _).trans (HB.out.mono (by simp))⟩
end Go.Proofs.YtbjfpceoamiaoaaDoor
