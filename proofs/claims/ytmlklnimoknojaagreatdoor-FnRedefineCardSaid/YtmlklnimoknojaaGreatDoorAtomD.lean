/- Walks: word text (reference). Walks: atoms (reference). Walks: word text (program). Walks: atoms (program). Walks: the program reads an atom. -/
import Derived.Shelf.Strings.SlTrimAscii
import Derived.Test.YtmlklnimoknojaaGreatDoorMemD
import Derived.Test.YtmlklnimoknojaaGreatDoorPlainD
namespace Go.Proofs.YtmlklnimoknojaaGreatDoor
section
open Go Go.RowKit
set_option maxHeartbeats 1000000
set_option maxRecDepth 100000
theorem u8_ne {b : UInt8} {n : Nat} (hn : n < 256) (h : b ≠ UInt8.ofNat n) : ((b.toNat : Int) == (n : Int)) = false := by
  rw [beq_eq_false_iff_ne]; intro e; apply h
  apply UInt8.toNat_inj.1
  rw [UInt8.toNat_ofNat_of_lt' hn]; omega
theorem word_no {b : UInt8} (h : ((b.toNat : Int) < 33 ∨ 126 < (b.toNat : Int)) ∨ b = 123 ∨ b = 125 ∨ b = 94 ∨ b = 38 ∨ b = 35 ∨ b = 62) : P.wordByte b = false := by
  cases hb : P.wordByte b
  · rfl
  · exfalso
    obtain ⟨h1, h2, a1, a2, a3, a4, a5, a6⟩ := P.wordByte_parts hb
    rcases h with h | h | h | h | h | h | h
    · omega
    all_goals contradiction
theorem word_yes {b : UInt8} (h : 33 ≤ (b.toNat : Int)) (h2 : (b.toNat : Int) ≤ 126) (a1 : b ≠ 123) (a2 : b ≠ 125) (a3 : b ≠ 94) (a4 : b ≠ 38) (a5 : b ≠ 35) (a6 : b ≠ 62) : P.wordByte b = true := by
  unfold P.wordByte; simp [h, h2, a1, a2, a3, a4, a5, a6]
theorem word_false {s : Str} (k : Nat) (h : k < s.length) (hb : P.wordByte s[k] = false) : P.word s = false := by
  unfold P.word; rw [all_ge k h hb]; rfl
theorem l5Word (s : Str) (w : World) (hs : s.length ≤ maxLen) :
    Calls Tryz.prog 191 #[.string (S s)] w fun e w' => e = .returned (.bool (P.word s)) ∧ w = w' := by
  unfold maxLen at hs
  go_enter Tryz.func191, Tryz.ntmps191
  go_wp2
  go_loop [3, 4] (fun i _ => ∃ k : Nat, k ≤ s.length ∧ i = .int .i64 k ∧ (s.take k).all P.wordByte = true) (fun i _ => s.length - (intOf i).toNat)
  case atStart => exact ⟨0, by omega, rfl, by simp⟩
  case round =>
    obtain ⟨k, hk, rfl, ha⟩ := hrel
    have HA := Lib.hid ha; clear ha
    by_cases hlt : k < s.length
    · rcases Classical.em (((s[k].toNat : Int) < 33 ∨ 126 < (s[k].toNat : Int))) with h | h
      · have hd : decide (33 ≤ (s[k].toNat : Int) ∧ (s[k].toNat : Int) ≤ 126) = false := by rw [decide_eq_false_iff_not]; omega
        have H := Lib.hid h; clear h
        go_wp2_with (go_at_call 161; refine (l1In _ _ _ _).mono ?_; rintro e w' ⟨rfl, rfl⟩)
        go_ret
        exact ⟨ret_bool (word_false k hlt (word_no (.inl H.out))).symm, rfl⟩
      · have h1 : 33 ≤ (s[k].toNat : Int) := by omega
        have h2 : (s[k].toNat : Int) ≤ 126 := by omega
        clear h
        have hd : decide (33 ≤ (s[k].toNat : Int) ∧ (s[k].toNat : Int) ≤ 126) = true := by rw [decide_eq_true_iff]; omega
        by_cases e0 : s[k] = 123
        · have f0 : ((s[k].toNat : Int) == 123) = true := by rw [e0]; rfl
          have H := Lib.hid e0; clear e0
          go_wp2_with (go_at_call 161; refine (l1In _ _ _ _).mono ?_; rintro e w' ⟨rfl, rfl⟩)
          go_ret
          exact ⟨ret_bool (word_false k hlt (word_no (.inr (.inl H.out)))).symm, rfl⟩
        have f0 : ((s[k].toNat : Int) == 123) = false := u8_ne (n := 123) (by omega) e0
        have E0 := Lib.hid e0; clear e0
        by_cases e1 : s[k] = 125
        · have f1 : ((s[k].toNat : Int) == 125) = true := by rw [e1]; rfl
          have H := Lib.hid e1; clear e1
          go_wp2_with (go_at_call 161; refine (l1In _ _ _ _).mono ?_; rintro e w' ⟨rfl, rfl⟩)
          go_ret
          exact ⟨ret_bool (word_false k hlt (word_no (.inr (.inr (.inl H.out))))).symm, rfl⟩
        have f1 : ((s[k].toNat : Int) == 125) = false := u8_ne (n := 125) (by omega) e1
        have E1 := Lib.hid e1; clear e1
        by_cases e2 : s[k] = 94
        · have f2 : ((s[k].toNat : Int) == 94) = true := by rw [e2]; rfl
          have H := Lib.hid e2; clear e2
          go_wp2_with (go_at_call 161; refine (l1In _ _ _ _).mono ?_; rintro e w' ⟨rfl, rfl⟩)
          go_ret
          exact ⟨ret_bool (word_false k hlt (word_no (.inr (.inr (.inr (.inl H.out)))))).symm, rfl⟩
        have f2 : ((s[k].toNat : Int) == 94) = false := u8_ne (n := 94) (by omega) e2
        have E2 := Lib.hid e2; clear e2
        by_cases e3 : s[k] = 38
        · have f3 : ((s[k].toNat : Int) == 38) = true := by rw [e3]; rfl
          have H := Lib.hid e3; clear e3
          go_wp2_with (go_at_call 161; refine (l1In _ _ _ _).mono ?_; rintro e w' ⟨rfl, rfl⟩)
          go_ret
          exact ⟨ret_bool (word_false k hlt (word_no (.inr (.inr (.inr (.inr (.inl H.out))))))).symm, rfl⟩
        have f3 : ((s[k].toNat : Int) == 38) = false := u8_ne (n := 38) (by omega) e3
        have E3 := Lib.hid e3; clear e3
        by_cases e4 : s[k] = 35
        · have f4 : ((s[k].toNat : Int) == 35) = true := by rw [e4]; rfl
          have H := Lib.hid e4; clear e4
          go_wp2_with (go_at_call 161; refine (l1In _ _ _ _).mono ?_; rintro e w' ⟨rfl, rfl⟩)
          go_ret
          exact ⟨ret_bool (word_false k hlt (word_no (.inr (.inr (.inr (.inr (.inr (.inl H.out)))))))).symm, rfl⟩
        have f4 : ((s[k].toNat : Int) == 35) = false := u8_ne (n := 35) (by omega) e4
        have E4 := Lib.hid e4; clear e4
        by_cases e5 : s[k] = 62
        · have f5 : ((s[k].toNat : Int) == 62) = true := by rw [e5]; rfl
          have H := Lib.hid e5; clear e5
          go_wp2_with (go_at_call 161; refine (l1In _ _ _ _).mono ?_; rintro e w' ⟨rfl, rfl⟩)
          go_ret
          exact ⟨ret_bool (word_false k hlt (word_no (.inr (.inr (.inr (.inr (.inr (.inr H.out)))))))).symm, rfl⟩
        have f5 : ((s[k].toNat : Int) == 62) = false := u8_ne (n := 62) (by omega) e5
        have E5 := Lib.hid e5; clear e5
        go_wp2_with (go_at_call 161; refine (l1In _ _ _ _).mono ?_; rintro e w' ⟨rfl, rfl⟩)
        go_round
        case rel => exact ⟨k + 1, by omega, by go_num, all_snoc k hlt HA.out (word_yes h1 h2 E0.out E1.out E2.out E3.out E4.out E5.out)⟩
        case measure => simp [intOf]; omega
    · have HT := Lib.hid (show P.word s = decide (1 ≤ (s.length : Int) ∧ (s.length : Int) ≤ 20) by unfold P.word; rw [← List.take_of_length_le (l := s) (i := k) (by omega), HA.out, List.take_of_length_le (by omega), Bool.true_and])
      go_wp2_with (go_at_call 161; refine (l1In _ _ _ _).mono ?_; rintro e w' ⟨rfl, rfl⟩)
      go_ret
      exact ⟨ret_bool (by rw [HT.out]; simp), rfl⟩
end
section
open Go Go.RowKit
set_option maxHeartbeats 1000000
set_option maxRecDepth 100000
abbrev atomV (k : Int) (t : Str) : Value := .agg #[.int .i64 k, .string (S t)]
theorem l5Good (k : Int) (t : Str) (w : World) (ht : t.length ≤ maxLen) :
    Calls Tryz.prog 158 #[atomV k t] w fun e w' => e = .returned (.bool (P.atom k t)) ∧ Below w.heap.size w w' := by
  by_cases h1 : 1 ≤ k ∧ k ≤ 5
  · have HF := Lib.hid (show P.atom k t = P.word t by unfold P.atom; rw [if_pos h1])
    have hk : k = 1 ∨ k = 2 ∨ k = 3 ∨ k = 4 ∨ k = 5 := by omega
    rcases hk with rfl | rfl | rfl | rfl | rfl
    all_goals
      clear h1
      go_enter Tryz.func158, Tryz.ntmps158
      go_wp2_with (go_at_call 191; refine (l5Word _ _ ht).mono ?_; rintro e w' ⟨rfl, rfl⟩)
      go_ret
      exact ⟨ret_bool HF.out.symm, (Below.refl _ _).alloc (Nat.le_refl _) _⟩
  · by_cases h6 : k = 6
    · subst h6
      go_enter Tryz.func158, Tryz.ntmps158
      go_wp2
      all_goals
        go_ret
        exact ⟨ret_bool (by simp [P.atom, *, Bool.or_assoc]), (Below.refl _ _).alloc (Nat.le_refl _) _⟩
    · by_cases h7 : k = 7
      · subst h7
        go_enter Tryz.func158, Tryz.ntmps158
        go_wp2
        all_goals
          go_ret
          exact ⟨ret_bool (by simp [P.atom, *, Bool.or_assoc]), (Below.refl _ _).alloc (Nat.le_refl _) _⟩
      · by_cases h8 : 8 ≤ k ∧ k ≤ 10
        · have hk : k = 8 ∨ k = 9 ∨ k = 10 := by omega
          rcases hk with rfl | rfl | rfl
          all_goals
            go_enter Tryz.func158, Tryz.ntmps158
            go_wp2
            all_goals
              go_ret
              exact ⟨ret_bool (by simp [P.atom, *]), (Below.refl _ _).alloc (Nat.le_refl _) _⟩
        · have HF := Lib.hid (show P.atom k t = false by unfold P.atom; rw [if_neg h1, if_neg h6, if_neg h7, decide_eq_false h8]; rfl)
          have n1 : ¬ k = 1 := by omega
          have n2 : ¬ k = 2 := by omega
          have n3 : ¬ k = 3 := by omega
          have n4 : ¬ k = 4 := by omega
          have n5 : ¬ k = 5 := by omega
          have n8 : ¬ k = 8 := by omega
          have n9 : ¬ k = 9 := by omega
          have n10 : ¬ k = 10 := by omega
          clear h1 h8
          go_enter Tryz.func158, Tryz.ntmps158
          go_wp2
          go_ret
          exact ⟨ret_bool HF.out.symm, (Below.refl _ _).alloc (Nat.le_refl _) _⟩
theorem l5Format (k : Int) (t : Str) (w : World) (ht : t.length ≤ 2 ^ 40) :
    Calls Tryz.prog 182 #[atomV k t] w fun e w' => e = .returned (.string (S (P.note k t))) ∧ Below w.heap.size w w' := by
  by_cases h1 : k = 1 ∨ k = 2 ∨ k = 3 ∨ k = 4 ∨ k = 5 ∨ k = 8 ∨ k = 9 ∨ k = 10
  · have f0 : ¬ 9223372036854775807 < 1 + t.length := by omega
    have f1 : ¬ 9223372036854775807 < 2 + t.length := by omega
    have f2 : ¬ 9223372036854775807 < t.length + 2 := by omega
    have f3 : ¬ 9223372036854775807 < t.length + 1 + 1 := by omega
    have f4 : ¬ 9223372036854775807 < t.length + 1 + 1 + 1 := by omega
    have f5 : ¬ 9223372036854775807 < t.length + 1 + 2 := by omega
    have f6 : ¬ 9223372036854775807 < t.length + 1 + 1 + 2 := by omega
    have f7 : ¬ 9223372036854775807 < t.length + 1 := by omega
    rcases h1 with rfl | rfl | rfl | rfl | rfl | rfl | rfl | rfl
    all_goals
      go_enter Tryz.func182, Tryz.ntmps182
      go_wp2
      go_ret
      exact ⟨ret_str (by simp [P.note]), (Below.refl _ _).alloc (Nat.le_refl _) _⟩
  · have HF := Lib.hid (show P.note k t = 123 :: (t ++ [125]) by unfold P.note; simp only [show ¬ k = 1 by omega, show ¬ k = 2 by omega, show ¬ k = 3 by omega, show ¬ k = 4 by omega, show ¬ k = 5 by omega, show ¬ k = 8 by omega, show ¬ k = 9 by omega, show ¬ k = 10 by omega, if_false])
    have n1 : ¬ k = 1 := by omega
    have n2 : ¬ k = 2 := by omega
    have n3 : ¬ k = 3 := by omega
    have n4 : ¬ k = 4 := by omega
    have n5 : ¬ k = 5 := by omega
    have n8 : ¬ k = 8 := by omega
    have n9 : ¬ k = 9 := by omega
    have n10 : ¬ k = 10 := by omega
    have f0 : ¬ 9223372036854775807 < 1 + t.length := by omega
    have f3 : ¬ 9223372036854775807 < t.length + 1 + 1 := by omega
    have f7 : ¬ 9223372036854775807 < t.length + 1 := by omega
    clear h1
    go_enter Tryz.func182, Tryz.ntmps182
    go_wp2
    go_ret
    exact ⟨ret_str (by rw [HF.out]), (Below.refl _ _).alloc (Nat.le_refl _) _⟩
end
section
open Go Go.RowKit
set_option maxHeartbeats 1000000
set_option maxRecDepth 100000
theorem idxByte (b : UInt8) (w : World) :
    Calls Tryz.prog 280 #[.string (S [123, 125, 94, 38, 35, 62]), .int .u8 b.toNat] w fun e w' => e = .returned (.int .i64 (Lib.indexByte [123, 125, 94, 38, 35, 62] b)) ∧ w = w' := by
  refine (Tryz.strings_IndexByte (S [123, 125, 94, 38, 35, 62]) b.toNat w).mono ?_
  rintro e w' ⟨rfl, rfl⟩
  refine ⟨?_, rfl⟩
  rw [S_dataList]
  simp
theorem isWordText (s : Str) (w : World) (hs : s.length ≤ maxLen) :
    Calls Tryz.prog 258 #[.string (S s)] w fun e w' => e = .returned (.bool (P.word s)) ∧ w = w' := by
  unfold maxLen at hs
  go_enter Tryz.func258, Tryz.ntmps258
  go_wp2
  go_loop [3, 6] (fun _ i => ∃ k : Nat, k ≤ s.length ∧ i = .int .i64 k ∧ (s.take k).all P.wordByte = true) (fun _ i => s.length - (intOf i).toNat)
  case atStart => exact ⟨0, by omega, rfl, by simp⟩
  case round =>
    obtain ⟨k, hk, rfl, ha⟩ := hrel
    have HA := Lib.hid ha; clear ha
    by_cases hlt : k < s.length
    · rcases Int.lt_or_le (s[k].toNat : Int) 33 with h1 | h1
      · have H := Lib.hid h1
        go_wp2
        go_ret
        exact ⟨ret_bool (word_false k hlt (word_no (.inl (.inl H.out)))).symm, rfl⟩
      · rcases Int.lt_or_le 126 (s[k].toNat : Int) with h2 | h2
        · have H := Lib.hid h2
          go_wp2
          go_ret
          exact ⟨ret_bool (word_false k hlt (word_no (.inl (.inr H.out)))).symm, rfl⟩
        · have hw := P.word_idx s[k] (by omega) (by omega)
          cases hb : P.wordByte s[k]
          · rw [hb] at hw
            have h3 : 0 ≤ Lib.indexByte [123, 125, 94, 38, 35, 62] s[k] := by simpa using hw
            have HB := Lib.hid hb; clear hb hw
            go_wp2_with (go_at_call 280; refine (idxByte _ _).mono ?_; rintro e w' ⟨rfl, rfl⟩)
            go_ret
            exact ⟨ret_bool (word_false k hlt HB.out).symm, rfl⟩
          · rw [hb] at hw
            have h3 : ¬ 0 ≤ Lib.indexByte [123, 125, 94, 38, 35, 62] s[k] := by simpa using hw
            have HB := Lib.hid hb; clear hb hw
            go_wp2_with (go_at_call 280; refine (idxByte _ _).mono ?_; rintro e w' ⟨rfl, rfl⟩)
            go_round
            case rel => exact ⟨k + 1, by omega, by go_num, all_snoc k hlt HA.out HB.out⟩
            case measure => simp [intOf]; omega
    · have HT := Lib.hid (show P.word s = decide (1 ≤ (s.length : Int) ∧ (s.length : Int) ≤ 20) by unfold P.word; rw [← List.take_of_length_le (l := s) (i := k) (by omega), HA.out, List.take_of_length_le (by omega), Bool.true_and])
      go_wp2_with (go_at_call 125; refine (impl_in _ _ _ _).mono ?_; rintro e w' ⟨rfl, rfl⟩)
      go_ret
      exact ⟨ret_bool (by rw [HT.out]; simp), rfl⟩
end
section
open Go Go.RowKit
set_option maxHeartbeats 1000000
set_option maxRecDepth 100000
theorem isValidAtom (k : Int) (t : Str) (w : World) (ht : t.length ≤ maxLen) :
    Calls Tryz.prog 239 #[atomV k t] w fun e w' => e = .returned (.bool (P.atom k t)) ∧ Below w.heap.size w w' := by
  by_cases h1 : 1 ≤ k ∧ k ≤ 5
  · have HF := Lib.hid (show P.atom k t = P.word t by unfold P.atom; rw [if_pos h1])
    have hk : k = 1 ∨ k = 2 ∨ k = 3 ∨ k = 4 ∨ k = 5 := by omega
    rcases hk with rfl | rfl | rfl | rfl | rfl
    all_goals
      clear h1
      go_enter Tryz.func239, Tryz.ntmps239
      go_wp2_with (go_at_call 258; refine (isWordText _ _ ht).mono ?_; rintro e w' ⟨rfl, rfl⟩)
      go_ret
      exact ⟨ret_bool HF.out.symm, (Below.refl _ _).alloc (Nat.le_refl _) _⟩
  · by_cases h67 : k = 6 ∨ k = 7
    · clear h1
      by_cases hl : t.length = 1
      · have hone : ∀ x y z : UInt8, Go.Lib.contains [x, y, z] t = (t == [x] || (t == [y] || t == [z])) := fun x y z => P.one_of t x y z hl
        match t, hl with
        | [b], _ =>
          have H6 := Lib.hid (hone 46 33 63)
          have H7 := Lib.hid (hone 44 59 58)
          clear hone
          rcases h67 with rfl | rfl
          · go_enter Tryz.func239, Tryz.ntmps239
            go_wp2_with (go_at_call 259; refine (contains_one [46, 33, 63] b _).mono ?_; rintro e w' ⟨rfl, rfl⟩)
            go_ret
            exact ⟨ret_bool (by rw [H6.out]; rfl), (Below.refl _ _).alloc (Nat.le_refl _) _⟩
          · go_enter Tryz.func239, Tryz.ntmps239
            go_wp2_with (go_at_call 259; refine (contains_one [44, 59, 58] b _).mono ?_; rintro e w' ⟨rfl, rfl⟩)
            go_ret
            exact ⟨ret_bool (by rw [H7.out]; rfl), (Below.refl _ _).alloc (Nat.le_refl _) _⟩
      · have hl' : ¬ (t.length : Int) = 1 := by omega
        have hne : ∀ x : UInt8, (t == [x]) = false := by
          intro x; rw [beq_eq_false_iff_ne]; intro e; exact hl (by rw [e]; rfl)
        rcases h67 with rfl | rfl
        · have HF := Lib.hid (show P.atom 6 t = false by unfold P.atom; simp [hne])
          clear hne
          go_enter Tryz.func239, Tryz.ntmps239
          go_wp2
          go_ret
          exact ⟨ret_bool HF.out.symm, (Below.refl _ _).alloc (Nat.le_refl _) _⟩
        · have HF := Lib.hid (show P.atom 7 t = false by unfold P.atom; simp [hne])
          clear hne
          go_enter Tryz.func239, Tryz.ntmps239
          go_wp2
          go_ret
          exact ⟨ret_bool HF.out.symm, (Below.refl _ _).alloc (Nat.le_refl _) _⟩
    · have HF := Lib.hid (show P.atom k t = (decide (8 ≤ k ∧ k ≤ 10) && t == []) by unfold P.atom; rw [if_neg h1, if_neg (by omega), if_neg (by omega)])
      have n1 : ¬ k = 1 := by omega
      have n2 : ¬ k = 2 := by omega
      have n3 : ¬ k = 3 := by omega
      have n4 : ¬ k = 4 := by omega
      have n5 : ¬ k = 5 := by omega
      have n6 : ¬ k = 6 := by omega
      have n7 : ¬ k = 7 := by omega
      clear h1 h67
      cases hd : decide (8 ≤ k ∧ k ≤ 10)
      · rw [hd] at HF
        go_enter Tryz.func239, Tryz.ntmps239
        go_wp2_with (go_at_call 125; refine (impl_in _ _ _ _).mono ?_; rintro e w' ⟨rfl, rfl⟩)
        go_ret
        exact ⟨ret_bool (by rw [HF.out]; rfl), (Below.refl _ _).alloc (Nat.le_refl _) _⟩
      · rw [hd] at HF
        go_enter Tryz.func239, Tryz.ntmps239
        go_wp2_with (go_at_call 125; refine (impl_in _ _ _ _).mono ?_; rintro e w' ⟨rfl, rfl⟩)
        all_goals
          go_ret
          exact ⟨ret_bool (by rw [HF.out]; cases t <;> rfl), (Below.refl _ _).alloc (Nat.le_refl _) _⟩
theorem notation_ (k : Int) (t : Str) (w : World) (ht : t.length ≤ 2 ^ 40) :
    Calls Tryz.prog 240 #[atomV k t] w fun e w' => e = .returned (.string (S (P.note k t))) ∧ Below w.heap.size w w' := by
  have f0 : ¬ 9223372036854775807 < 1 + t.length := by omega
  have f1 : ¬ 9223372036854775807 < 2 + t.length := by omega
  have f2 : ¬ 9223372036854775807 < t.length + 2 := by omega
  have f3 : ¬ 9223372036854775807 < t.length + 1 + 1 := by omega
  have f4 : ¬ 9223372036854775807 < t.length + 1 + 1 + 1 := by omega
  have f5 : ¬ 9223372036854775807 < t.length + 1 + 2 := by omega
  have f6 : ¬ 9223372036854775807 < t.length + 1 + 1 + 2 := by omega
  have f7 : ¬ 9223372036854775807 < t.length + 1 := by omega
  by_cases h1 : k = 1 ∨ k = 2 ∨ k = 3 ∨ k = 4 ∨ k = 5 ∨ k = 8 ∨ k = 9 ∨ k = 10
  · rcases h1 with rfl | rfl | rfl | rfl | rfl | rfl | rfl | rfl
    all_goals
      go_enter Tryz.func240, Tryz.ntmps240
      go_wp2
      go_ret
      exact ⟨ret_str (by simp [P.note]), (Below.refl _ _).alloc (Nat.le_refl _) _⟩
  · have HF := Lib.hid (show P.note k t = 123 :: (t ++ [125]) by unfold P.note; simp only [show ¬ k = 1 by omega, show ¬ k = 2 by omega, show ¬ k = 3 by omega, show ¬ k = 4 by omega, show ¬ k = 5 by omega, show ¬ k = 8 by omega, show ¬ k = 9 by omega, show ¬ k = 10 by omega, if_false])
    have n1 : ¬ k = 1 := by omega
    have n2 : ¬ k = 2 := by omega
    have n3 : ¬ k = 3 := by omega
    have n4 : ¬ k = 4 := by omega
    have n5 : ¬ k = 5 := by omega
    have n8 : ¬ k = 8 := by omega
    have n9 : ¬ k = 9 := by omega
    have n10 : ¬ k = 10 := by omega
    clear h1
    go_enter Tryz.func240, Tryz.ntmps240
    go_wp2
    go_ret
    exact ⟨ret_str (by rw [HF.out]), (Below.refl _ _).alloc (Nat.le_refl _) _⟩
theorem formatAtom (k : Int) (t : Str) (w : World) (ht : t.length ≤ 2 ^ 40) :
    Calls Tryz.prog 212 #[atomV k t] w fun e w' => e = .returned (.tuple #[.string (S (P.fmtA k t).1), .bool (P.fmtA k t).2]) ∧ Below w.heap.size w w' := by
  cases h : P.atom k t
  · have HF := Lib.hid (show P.fmtA k t = ([], false) by unfold P.fmtA; rw [h]; rfl)
    go_enter Tryz.func212, Tryz.ntmps212
    go_wp2_with fail
    refine (isValidAtom _ _ _ (by unfold maxLen; omega)).mono ?_
    rintro e w1 ⟨rfl, hb⟩
    rw [h]
    have HB := Lib.hid hb; clear hb
    go_wp2
    go_ret2
    exact ⟨by rw [HF.out]; rfl, ((Below.refl _ _).alloc (Nat.le_refl _) _).trans (HB.out.mono (by simp))⟩
  · have HF := Lib.hid (show P.fmtA k t = (P.note k t, true) by unfold P.fmtA; rw [h]; rfl)
    go_enter Tryz.func212, Tryz.ntmps212
    go_wp2_with fail
    refine (isValidAtom _ _ _ (by unfold maxLen; omega)).mono ?_
    rintro e w1 ⟨rfl, hb⟩
    rw [h]
    obtain ⟨hcc, _⟩ := bcell hb
    have hz := grew0 hb
    have c0 : w1.cell? ⟨w.heap.size, 0, none⟩ = some (.int .i64 k) := by rw [hcc _ _ (by simp)]; go_simp
    have c1 : w1.cell? ⟨w.heap.size, 1, none⟩ = some (.string (S t)) := by rw [hcc _ _ (by simp)]; go_simp
    have HB := Lib.hid hb; clear hb hcc
    go_wp2_with fail
    refine (notation_ _ _ _ ht).mono ?_
    rintro e w2 ⟨rfl, hb⟩
    have HB2 := Lib.hid hb; clear hb
    go_wp2
    go_ret2
    have h0 := ((Below.refl w.heap.size w).alloc (Nat.le_refl _) _).trans (HB.out.mono (by simp))
    exact ⟨by rw [HF.out]; rfl, h0.trans (HB2.out.mono h0.size)⟩
end
section
open Go Go.RowKit
set_option maxHeartbeats 1000000
set_option maxRecDepth 100000
theorem trim_any (s : Str) (w : World) (hs : s.length ≤ 2 ^ 40) :
    Calls Tryz.prog 211 #[.string (S s), .string (S [123, 125, 94, 38])] w fun e w' => e = .returned (.string (S (Lib.trimS s [123, 125, 94, 38]))) ∧ Below w.heap.size w w' := by
  have h := Any.strings_Trim_laid Tryz.lays160 (by kernel_rfl) (S s) (S [123, 125, 94, 38]) w (by rw [S_size]; omega) (by decide)
    (by rw [S_dataList]; intro j b hb; match j, hb with | 0, hb => (simp at hb; subst hb; decide) | 1, hb => (simp at hb; subst hb; decide) | 2, hb => (simp at hb; subst hb; decide) | 3, hb => (simp at hb; subst hb; decide))
  rw [S_dataList, S_dataList] at h
  exact h
def BoxA (v : World) (G : Nat) (k : Int) (t : Str) : Prop :=
  v.cell? ⟨G, 0, none⟩ = some (.int .i64 k) ∧ v.cell? ⟨G, 1, none⟩ = some (.string (S t)) ∧ v.frozen? ⟨G, 0, none⟩ = false ∧ v.frozen? ⟨G, 1, none⟩ = false ∧ G < v.heap.size
theorem BoxA.below {v v' : World} {G : Nat} {k : Int} {t : Str} (h : BoxA v G k t) (hb : Below v.heap.size v v') : BoxA v' G k t := by
  obtain ⟨a1, a2, b1, b2, hz⟩ := h
  exact ⟨(hb.cell (p := ⟨G, 0, none⟩) hz).trans a1, (hb.cell (p := ⟨G, 1, none⟩) hz).trans a2, (hb.frozen (p := ⟨G, 0, none⟩) hz).trans b1, (hb.frozen (p := ⟨G, 1, none⟩) hz).trans b2, Nat.lt_of_lt_of_le hz hb.size⟩
theorem BoxA.fresh (v : World) (k : Int) (t : Str) (u : TypeId) : BoxA (v.alloc (.cells #[.int .i64 k, .string (S t)] u)) v.heap.size k t :=
  ⟨by go_simp, by go_simp, by go_simp, by go_simp, by simp⟩
def TwoA (v : World) (G : Nat) (k : Int) (t : Str) : Prop :=
  v.cell? ⟨G, 0, none⟩ = some (.int .i64 k) ∧ v.cell? ⟨G, 1, none⟩ = some (.string (S t)) ∧ v.cell? ⟨G, 2, none⟩ = some (.int .i64 k) ∧ v.cell? ⟨G, 3, none⟩ = some (.string (S [])) ∧ G < v.heap.size
theorem TwoA.below {v v' : World} {G : Nat} {k : Int} {t : Str} (h : TwoA v G k t) (hb : Below v.heap.size v v') : TwoA v' G k t := by
  obtain ⟨a1, a2, b1, b2, hz⟩ := h
  exact ⟨(hb.cell (p := ⟨G, 0, none⟩) hz).trans a1, (hb.cell (p := ⟨G, 1, none⟩) hz).trans a2, (hb.cell (p := ⟨G, 2, none⟩) hz).trans b1, (hb.cell (p := ⟨G, 3, none⟩) hz).trans b2, Nat.lt_of_lt_of_le hz hb.size⟩
theorem TwoA.fresh (v : World) (k : Int) (t : Str) (u : TypeId) : TwoA (v.alloc (.cells #[.int .i64 k, .string (S t), .int .i64 k, .string (S [])] u)) v.heap.size k t :=
  ⟨by go_simp, by go_simp, by go_simp, by go_simp, by simp⟩
def AtomPost (s : Str) (w : World) (e : Ending) (w' : World) : Prop := e = .returned (.tuple #[atomV (P.parseS s).1.1 (P.parseS s).1.2, .bool (P.parseS s).2]) ∧ Below w.heap.size w w'
theorem impl_parseAtom (s : Str) (w : World) (hs : s.length ≤ 2 ^ 30) :
    Calls Tryz.prog 178 #[.string (S s)] w (AtomPost s w) := by
  have HTL := Lib.hid (P.trim_len s [123, 125, 94, 38])
  have HM := Lib.hid (fun h => P.parse_miss (s := s) h)
  generalize htx : Lib.trimS s [123, 125, 94, 38] = tx at *
  have htl : tx.length ≤ s.length := HTL.out
  have HX := Lib.hid htx; clear htx HTL
  by_cases h24 : 24 < s.length
  · have HF := Lib.hid (P.parse_long h24)
    have h24' : (24 : Int) < (s.length : Int) := by omega
    go_enter Tryz.func178, Tryz.ntmps178
    go_wp2_with fail
    refine (trim_any _ _ (by omega)).mono ?_
    rintro e w1 ⟨rfl, hb⟩
    have BR := (BoxA.fresh w 0 [] 153).below hb
    have HB := Lib.hid (((Below.refl w.heap.size w).alloc (Nat.le_refl _) (.cells #[.int .i64 0, .string (S [])] 153)).trans (hb.mono (by simp)))
    clear hb
    obtain ⟨a1, a2, a3, a4, a5⟩ := BR
    go_wp2
    refine bodyPost_ret (v := .tuple #[atomV 0 [], .bool false]) (by simp [results, Tryz.results178, go_sem, a1, a2]) rfl ⟨by rw [HF.out], ?_⟩
    exact (HB.out.setCell (Nat.le_refl _) _).setCell (Nat.le_refl _) _
  · have h24' : ¬ (24 : Int) < (s.length : Int) := by omega
    go_enter Tryz.func178, Tryz.ntmps178
    go_wp2_with fail
    refine (trim_any _ _ (by omega)).mono ?_
    rintro e w1 ⟨rfl, hb⟩
    rw [HX.out]
    have BR := (BoxA.fresh w 0 [] 153).below hb
    have HB := ((Below.refl w.heap.size w).alloc (Nat.le_refl _) (.cells #[.int .i64 0, .string (S [])] 153)).trans (hb.mono (by simp))
    clear hb
    go_wp2_with fail
    go_loopw [5] (fun i wr => ∃ k : Int, 1 ≤ k ∧ k ≤ 11 ∧ i = .int .i64 k ∧ (∀ k' : Int, 1 ≤ k' → k' < k → P.fmtA k' tx ≠ (s, true) ∧ P.fmtA k' [] ≠ (s, true)) ∧ BoxA wr w.heap.size 0 [] ∧ Below w.heap.size w wr) (fun i _ => (11 - intOf i).toNat)
    case atStart => exact ⟨1, by decide, by decide, rfl, fun k' h1 h2 => by omega, BR, HB⟩
    case round =>
      obtain ⟨k, hk1, hk2, rfl, hbad, BR1, HB1⟩ := hrel
      clear BR HB
      have HBAD := Lib.hid hbad; clear hbad
      by_cases hk : k ≤ 10
      · have HBR := Lib.hid BR1; have HBB := Lib.hid HB1
        clear BR1 HB1
        go_wp2_with fail
        have T0 := TwoA.fresh wr k tx 153
        have R0 := HBR.out.below ((Below.refl _ _).alloc (Nat.le_refl _) (.cells #[.int .i64 k, .string (S tx), .int .i64 k, .string (S [])] 153))
        have B0 := HBB.out.alloc HBB.out.size (.cells #[.int .i64 k, .string (S tx), .int .i64 k, .string (S [])] 153)
        go_loopw [27] (fun i wx => ∃ j : Nat, j ≤ 2 ∧ i = .int .i64 j ∧ (0 < j → P.fmtA k tx ≠ (s, true)) ∧ (1 < j → P.fmtA k [] ≠ (s, true)) ∧ TwoA wx wr.heap.size k tx ∧ BoxA wx w.heap.size 0 [] ∧ Below w.heap.size w wx) (fun i _ => 2 - (intOf i).toNat)
        case atStart => exact ⟨0, by decide, rfl, fun h => absurd h (by decide), fun h => absurd h (by decide), T0, R0, B0⟩
        case round =>
          obtain ⟨j, hj, rfl, hb0, hb1, T, R, B⟩ := hrel
          clear T0 R0 B0
          have hj3 : j = 0 ∨ j = 1 ∨ j = 2 := by omega
          rcases hj3 with rfl | rfl | rfl
          ·
            have HTT := Lib.hid T; have HRR := Lib.hid R; have HBX := Lib.hid B; have HNB := Lib.hid hb0
            obtain ⟨t0, t1, t2, t3, t4⟩ := T
            clear R B
            go_wp2_with fail
            refine (formatAtom k tx _ (by first | omega | decide)).mono ?_
            rintro e v ⟨rfl, hb⟩
            have R2 := (HRR.out.below ((Below.refl _ _).alloc (Nat.le_refl _) (.cells #[.int .i64 k, .string (S tx)] 153))).below hb
            have T2 := (HTT.out.below ((Below.refl _ _).alloc (Nat.le_refl _) (.cells #[.int .i64 k, .string (S tx)] 153))).below hb
            have A2 := (BoxA.fresh wr k tx 153).below hb
            have hbw : Below w.heap.size w v := (HBX.out.alloc HBX.out.size _).trans (hb.mono (Nat.le_trans HBX.out.size (by simp)))
            have HV := Lib.hid hbw
            have HTV := Lib.hid T2
            have HRV := Lib.hid R2
            clear hb hbw T2 HTT HRR HBX t0 t1 t2 t3 t4
            generalize hfm : P.fmtA k tx = fm at *
            obtain ⟨f, ok⟩ := fm
            obtain ⟨a1, a2, a3, a4, a5⟩ := R2
            obtain ⟨b1, b2, b3, b4, b5⟩ := A2
            cases ok
            · have NE := Lib.hid (show P.fmtA k tx ≠ (s, true) by rw [hfm]; intro e; injection e with _ e; cases e)
              clear hfm
              go_wp2
              go_roundw
              case rel => exact ⟨0+1, by decide, rfl, fun _ => NE.out, fun h => absurd h (by decide), HTV.out, HRV.out, HV.out⟩
              case measure => decide
            · by_cases hfs : f = s
              · subst hfs
                have HF := Lib.hid (P.fmtA_hit hfm)
                clear hfm
                go_wp2
                refine bodyPost_ret (v := .tuple #[atomV k tx, .bool true]) (by simp [results, Tryz.results178, go_sem, a1, a2]) rfl ⟨by rw [HF.out], ?_⟩
                exact (HV.out.setCell (Nat.le_refl _) _).setCell (Nat.le_refl _) _
              · have NE := Lib.hid (show P.fmtA k tx ≠ (s, true) by rw [hfm]; intro e; injection e with e; exact hfs e)
                clear hfm
                have hfs' : (f == s) = false := beq_eq_false_iff_ne.2 hfs
                go_wp2
                go_roundw
                case rel => exact ⟨0+1, by decide, rfl, fun _ => NE.out, fun h => absurd h (by decide), HTV.out, HRV.out, HV.out⟩
                case measure => decide
          ·
            have HTT := Lib.hid T; have HRR := Lib.hid R; have HBX := Lib.hid B; have HNB := Lib.hid hb0
            obtain ⟨t0, t1, t2, t3, t4⟩ := T
            clear R B
            go_wp2_with fail
            refine (formatAtom k [] _ (by first | omega | decide)).mono ?_
            rintro e v ⟨rfl, hb⟩
            have R2 := (HRR.out.below ((Below.refl _ _).alloc (Nat.le_refl _) (.cells #[.int .i64 k, .string (S [])] 153))).below hb
            have T2 := (HTT.out.below ((Below.refl _ _).alloc (Nat.le_refl _) (.cells #[.int .i64 k, .string (S [])] 153))).below hb
            have A2 := (BoxA.fresh wr k [] 153).below hb
            have hbw : Below w.heap.size w v := (HBX.out.alloc HBX.out.size _).trans (hb.mono (Nat.le_trans HBX.out.size (by simp)))
            have HV := Lib.hid hbw
            have HTV := Lib.hid T2
            have HRV := Lib.hid R2
            clear hb hbw T2 HTT HRR HBX t0 t1 t2 t3 t4
            generalize hfm : P.fmtA k [] = fm at *
            obtain ⟨f, ok⟩ := fm
            obtain ⟨a1, a2, a3, a4, a5⟩ := R2
            obtain ⟨b1, b2, b3, b4, b5⟩ := A2
            cases ok
            · have NE := Lib.hid (show P.fmtA k [] ≠ (s, true) by rw [hfm]; intro e; injection e with _ e; cases e)
              clear hfm
              go_wp2
              go_roundw
              case rel => exact ⟨1+1, by decide, rfl, fun _ => hb0 (by decide), fun _ => NE.out, HTV.out, HRV.out, HV.out⟩
              case measure => decide
            · by_cases hfs : f = s
              · subst hfs
                have HF := Lib.hid (P.fmtA_hit hfm)
                clear hfm
                go_wp2
                refine bodyPost_ret (v := .tuple #[atomV k [], .bool true]) (by simp [results, Tryz.results178, go_sem, a1, a2]) rfl ⟨by rw [HF.out], ?_⟩
                exact (HV.out.setCell (Nat.le_refl _) _).setCell (Nat.le_refl _) _
              · have NE := Lib.hid (show P.fmtA k [] ≠ (s, true) by rw [hfm]; intro e; injection e with e; exact hfs e)
                clear hfm
                have hfs' : (f == s) = false := beq_eq_false_iff_ne.2 hfs
                go_wp2
                go_roundw
                case rel => exact ⟨1+1, by decide, rfl, fun _ => hb0 (by decide), fun _ => NE.out, HTV.out, HRV.out, HV.out⟩
                case measure => decide
          · have n0 := hb0 (by decide)
            have n1 := hb1 (by decide)
            have N0 := Lib.hid n0; have N1 := Lib.hid n1
            clear hb0 hb1 n0 n1 T
            go_wp2
            go_roundw
            case rel =>
              refine ⟨k + 1, by omega, by omega, rfl, fun k' h1 h2 => ?_, R, B⟩
              by_cases e : k' = k
              · subst e; exact ⟨N0.out, N1.out⟩
              · exact HBAD.out k' h1 (by omega)
            case measure => simp [intOf]; omega
      · have hk11 : k = 11 := by omega
        subst hk11
        have HF := Lib.hid (HM.out fun k' h1 h2 => HBAD.out k' h1 (by omega))
        obtain ⟨a1, a2, a3, a4, a5⟩ := BR1
        go_wp2
        refine bodyPost_ret (v := .tuple #[atomV 0 [], .bool false]) (by simp [results, Tryz.results178, go_sem, a1, a2]) rfl ⟨by rw [HF.out], ?_⟩
        exact (HB1.setCell (Nat.le_refl _) _).setCell (Nat.le_refl _) _
end
end Go.Proofs.YtmlklnimoknojaaGreatDoor
