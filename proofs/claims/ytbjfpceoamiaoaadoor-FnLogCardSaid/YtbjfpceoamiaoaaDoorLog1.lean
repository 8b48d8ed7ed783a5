/- Walks: records. -/
import Derived.Test.YtbjfpceoamiaoaaDoorStr2
namespace Go.Proofs.YtbjfpceoamiaoaaDoor
open Go Go.RowKit
set_option maxHeartbeats 400000
set_option maxRecDepth 100000
theorem l24Good (c r : Str) (w : World) (hc : c.length ≤ maxLen) (hr : r.length ≤ maxLen) :
    Calls Tryd.prog 42 #[.agg #[.string (S c), .string (S r)]] w fun e w' => e = .returned (.bool (P.good c r)) ∧ Below w.heap.size w w' := by
  cases h1 : c.isEmpty
  · cases h2 : P.plain c 90
    · go_enter Tryd.func42, Tryd.ntmps42
      go_wp2_with (first | (go_at_call 61; refine (l24Plain _ _ _ (by assumption)).mono ?_; rintro e w' ⟨rfl, rfl⟩) | (go_at_call 62; refine (l1Stands _ 62 _ (by assumption)).mono ?_; rintro e w' ⟨rfl, rfl⟩))
      go_ret
      exact ⟨ret_bool (by simp [P.good, h2]), (Below.refl _ _).alloc (Nat.le_refl _) _⟩
    · cases h3 : P.has c 62
      · cases h4 : P.plain r 200
        all_goals
          go_enter Tryd.func42, Tryd.ntmps42
          go_wp2_with (first | (go_at_call 61; refine (l24Plain _ _ _ (by assumption)).mono ?_; rintro e w' ⟨rfl, rfl⟩) | (go_at_call 62; refine (l1Stands _ 62 _ (by assumption)).mono ?_; rintro e w' ⟨rfl, rfl⟩))
          go_ret
          exact ⟨ret_bool (by simp [P.good, h1, h2, h3, h4]), (Below.refl _ _).alloc (Nat.le_refl _) _⟩
      · go_enter Tryd.func42, Tryd.ntmps42
        go_wp2_with (first | (go_at_call 61; refine (l24Plain _ _ _ (by assumption)).mono ?_; rintro e w' ⟨rfl, rfl⟩) | (go_at_call 62; refine (l1Stands _ 62 _ (by assumption)).mono ?_; rintro e w' ⟨rfl, rfl⟩))
        go_ret
        exact ⟨ret_bool (by simp [P.good, h3]), (Below.refl _ _).alloc (Nat.le_refl _) _⟩
  · go_enter Tryd.func42, Tryd.ntmps42
    go_wp2_with (first | (go_at_call 61; refine (l24Plain _ _ _ (by assumption)).mono ?_; rintro e w' ⟨rfl, rfl⟩) | (go_at_call 62; refine (l1Stands _ 62 _ (by assumption)).mono ?_; rintro e w' ⟨rfl, rfl⟩))
    go_ret
    exact ⟨ret_bool (by simp [P.good, h1]), (Below.refl _ _).alloc (Nat.le_refl _) _⟩
theorem sealed_len (s : Str) : (P.sealed s).length ≤ s.length + 21 := by
  have hl := sum_lt s
  have hl2 := P.num_len (P.sum s) (by omega)
  simp [P.sealed]; omega
theorem l24Line (k : Int) (c r : Str) (w : World) (h0 : 0 ≤ k) (hk : k < 1000) (hc : c.length ≤ 2 ^ 40) (hr : r.length ≤ 2 ^ 40) :
    Calls Tryd.prog 43 #[.int .i64 k, .agg #[.string (S c), .string (S r)]] w fun e w' => e = .returned (.string (S (P.line k.toNat c r))) ∧ Below w.heap.size w w' := by
  have hn := P.num_len k.toNat (by omega)
  have hs := sealed_len (P.num k.toNat ++ 32 :: (c ++ 62 :: r))
  simp only [List.length_append, List.length_cons] at hs
  go_enter Tryd.func43, Tryd.ntmps43
  go_wp2_with fail
  go_quiet ((first | (go_at_call 64; exact Calls.quiet_of (l1Num _ _ (by omega) (by omega))) | (go_at_call 63; exact Calls.quiet_of (l1Seal _ _ (by simp; omega)))))
  go_wp2
  go_ret
  exact ⟨ret_str (by simp [P.line]), below_drewN ((Below.refl _ _).alloc (Nat.le_refl _) _) _⟩
theorem ascii_of {c : Str} (h : P.printable c = true) : ∀ (j : Nat) (b : UInt8), c[j]? = some b → b.toNat < 128 := by
  intro j b hb
  have := List.all_eq_true.1 h b (List.mem_of_getElem? hb)
  simp at this; omega
theorem isValidRecord (c r : Str) (w : World) (hc : c.length ≤ 2 ^ 30) (hr : r.length ≤ 2 ^ 30) :
    Calls Tryd.prog 36 #[.agg #[.string (S c), .string (S r)]] w fun e w' => e = .returned (.bool (P.vrec c r)) ∧ Below w.heap.size w w' := by
  have hc' : c.length ≤ maxLen := by unfold maxLen; omega
  have hr' : r.length ≤ maxLen := by unfold maxLen; omega
  cases h1 : decide (1 ≤ (c.length : Int) ∧ (c.length : Int) ≤ 90)
  · go_enter Tryd.func36, Tryd.ntmps36
    go_wp2_with (first | (go_at_call 41; refine (impl_in _ _ _ _).mono ?_; rintro e w' ⟨rfl, rfl⟩))
    go_ret
    exact ⟨ret_bool (by simp only [P.vrec, h1, Bool.false_and]), (Below.refl _ _).alloc (Nat.le_refl _) _⟩
  · cases h2 : P.printable c
    · go_enter Tryd.func36, Tryd.ntmps36
      go_wp2_with (first | (go_at_call 41; refine (impl_in _ _ _ _).mono ?_; rintro e w' ⟨rfl, rfl⟩) | (go_at_call 58; refine (isPrintable _ _ (by assumption)).mono ?_; rintro e w' ⟨rfl, rfl⟩))
      go_ret
      exact ⟨ret_bool (by simp only [P.vrec, h1, h2, Bool.false_and, Bool.true_and]), (Below.refl _ _).alloc (Nat.le_refl _) _⟩
    · have HA := Lib.hid (ascii_of h2)
      cases h3 : Lib.containsAny c [35, 62] <;> cases h4 : decide ((r.length : Int) ≤ 200) <;> cases h5 : P.printable r <;> cases h6 : Lib.contains r [35]
      all_goals
        go_enter Tryd.func36, Tryd.ntmps36
        go_wp2_with (first | (go_at_call 41; refine (impl_in _ _ _ _).mono ?_; rintro e w' ⟨rfl, rfl⟩) | (go_at_call 58; refine (isPrintable _ _ (by assumption)).mono ?_; rintro e w' ⟨rfl, rfl⟩) | (go_at_call 59; refine (containsAny_hg _ _ hc HA.out).mono ?_; rintro e w' ⟨rfl, hb⟩; obtain ⟨hcc, hff⟩ := bcell hb; have HB := Lib.hid hb; clear hb) | (go_at_call 60; refine (contains_one _ 35 _).mono ?_; rintro e w' ⟨rfl, rfl⟩))
        go_ret
        exact ⟨ret_bool (by simp only [P.vrec, h1, h2, h3, h4, h5, h6, Bool.and_true, Bool.and_false, Bool.not_true, Bool.not_false]), ((Below.refl _ _).alloc (Nat.le_refl _) _).trans (HB.out.mono (by simp))⟩
end Go.Proofs.YtbjfpceoamiaoaaDoor
