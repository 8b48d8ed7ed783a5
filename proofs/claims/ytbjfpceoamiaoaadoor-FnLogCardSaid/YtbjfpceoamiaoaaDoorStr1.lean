/- Walks: strings' small functions. -/
import Derived.Test.YtbjfpceoamiaoaaDoorBase
import Derived.Test.YtbjfpceoamiaoaaDoorPlainStr
namespace Go.Proofs.YtbjfpceoamiaoaaDoor
open Go Go.RowKit
set_option maxHeartbeats 400000
set_option maxRecDepth 100000
theorem impl_in (n lo hi : Int) (w : World) :
    Calls Tryd.prog 41 #[.int .i64 n, .int .i64 lo, .int .i64 hi] w fun e w' => e = .returned (.bool (decide (lo ≤ n ∧ n ≤ hi))) ∧ w = w' := by
  by_cases h1 : lo ≤ n <;> by_cases h2 : n ≤ hi
  all_goals
    go_enter Tryd.func41, Tryd.ntmps41
    go_wp2
    go_ret
    exact ⟨ret_bool (by simp [h1, h2]), rfl⟩
theorem l1In (n lo hi : Int) (w : World) :
    Calls Tryd.prog 40 #[.int .i64 n, .int .i64 lo, .int .i64 hi] w fun e w' => e = .returned (.bool (decide (lo ≤ n ∧ n ≤ hi))) ∧ w = w' := by
  by_cases h1 : lo ≤ n <;> by_cases h2 : n ≤ hi
  all_goals
    go_enter Tryd.func40, Tryd.ntmps40
    go_wp2
    go_ret
    exact ⟨ret_bool (by simp [h1, h2]), rfl⟩
theorem has_snoc (l : Str) (k : Nat) (h : k < l.length) (c : UInt8) : P.has (l.take (k + 1)) c = (P.has (l.take k) c || (l[k] == c)) := by
  rw [take_snoc l k h]; simp only [P.has, List.any_append, List.any_cons, List.any_nil, Bool.or_false]
theorem any_ge {l : Str} {p : UInt8 → Bool} (k : Nat) (h : k < l.length) (hp : p l[k] = true) : l.any p = true :=
  List.any_eq_true.2 ⟨l[k], List.getElem_mem h, hp⟩
theorem all_ge {l : Str} {p : UInt8 → Bool} (k : Nat) (h : k < l.length) (hp : p l[k] = false) : l.all p = false := by
  rw [List.all_eq_false]; exact ⟨l[k], List.getElem_mem h, by simp [hp]⟩
theorem all_snoc {l : Str} {p : UInt8 → Bool} (k : Nat) (h : k < l.length) (ha : (l.take k).all p = true) (hp : p l[k] = true) : (l.take (k + 1)).all p = true := by
  rw [take_snoc l k h, List.all_append, ha]; simp [hp]
@[go_sem] theorem u8_eq (a b : UInt8) : ((a.toNat : Int) == (b.toNat : Int)) = (a == b) := by
  by_cases h : a = b
  · subst h; simp
  · rw [beq_eq_false_iff_ne.2 h, beq_eq_false_iff_ne]
    intro e; exact h (UInt8.toNat_inj.1 (by omega))
theorem l1Stands (s : Str) (c : UInt8) (w : World) (hs : s.length ≤ maxLen) :
    Calls Tryd.prog 62 #[.string (S s), .int .u8 c.toNat] w fun e w' => e = .returned (.bool (P.has s c)) ∧ w = w' := by
  unfold maxLen at hs
  go_enter Tryd.func62, Tryd.ntmps62
  go_wp2
  go_loop [5] (fun i => ∃ k : Nat, k ≤ s.length ∧ i = .int .i64 k ∧ P.has (s.take k) c = false) (fun i => s.length - (intOf i).toNat)
  case atStart => exact ⟨0, by omega, rfl, by simp [P.has]⟩
  case round =>
    obtain ⟨k, hk, rfl, ha⟩ := hrel
    have HA := Lib.hid ha; clear ha
    by_cases hlt : k < s.length
    · have HT := Lib.hid (has_snoc s k hlt c)
      go_wp2
      · have h : (s[k] == c) = true := by assumption
        go_ret
        exact ⟨ret_bool (any_ge k hlt h).symm, rfl⟩
      · have h : (s[k] == c) = false := by assumption
        go_round
        case rel => exact ⟨k + 1, by omega, by go_num, by rw [HT.out, HA.out, h]; rfl⟩
        case measure => simp [intOf]; omega
    · go_wp2
      go_ret
      exact ⟨ret_bool (by rw [← HA.out, List.take_of_length_le (by omega)]), rfl⟩
theorem pr_no (b : UInt8) (h : (b.toNat : Int) < 32 ∨ 126 < (b.toNat : Int)) : (decide (32 ≤ (b.toNat : Int)) && decide ((b.toNat : Int) ≤ 126)) = false := by
  rw [Bool.and_eq_false_iff, decide_eq_false_iff_not, decide_eq_false_iff_not]; omega
theorem pr_yes (b : UInt8) (h : 32 ≤ (b.toNat : Int)) (h2 : (b.toNat : Int) ≤ 126) : (decide (32 ≤ (b.toNat : Int)) && decide ((b.toNat : Int) ≤ 126)) = true := by
  simp [h, h2]
theorem isPrintable (s : Str) (w : World) (hs : s.length ≤ maxLen) :
    Calls Tryd.prog 58 #[.string (S s)] w fun e w' => e = .returned (.bool (P.printable s)) ∧ w = w' := by
  unfold maxLen at hs
  go_enter Tryd.func58, Tryd.ntmps58
  go_wp2
  go_loop [3, 6] (fun _ i => ∃ k : Nat, k ≤ s.length ∧ i = .int .i64 k ∧ P.printable (s.take k) = true) (fun _ i => s.length - (intOf i).toNat)
  case atStart => exact ⟨0, by omega, rfl, by simp [P.printable]⟩
  case round =>
    obtain ⟨k, hk, rfl, ha⟩ := hrel
    have HA := Lib.hid ha; clear ha
    by_cases hlt : k < s.length
    · rcases Int.lt_or_le (s[k].toNat : Int) 32 with h1 | h1
      · go_wp2
        go_ret
        exact ⟨ret_bool (all_ge k hlt (pr_no _ (.inl h1))).symm, rfl⟩
      · rcases Int.lt_or_le 126 (s[k].toNat : Int) with h2 | h2
        · go_wp2
          go_ret
          exact ⟨ret_bool (all_ge k hlt (pr_no _ (.inr h2))).symm, rfl⟩
        · go_wp2
          go_round
          case rel => exact ⟨k + 1, by omega, by go_num, all_snoc k hlt HA.out (pr_yes _ h1 h2)⟩
          case measure => simp [intOf]; omega
    · go_wp2
      go_ret
      exact ⟨ret_bool (by rw [← HA.out, List.take_of_length_le (by omega)]), rfl⟩
theorem plain_no (b : UInt8) (h : ((b.toNat : Int) < 32 ∨ 126 < (b.toNat : Int)) ∨ b = 35) : P.plainByte b = false := by
  unfold P.plainByte
  rcases h with h | h
  · rw [pr_no _ h]; rfl
  · subst h; decide
theorem plain_yes (b : UInt8) (h : 32 ≤ (b.toNat : Int)) (h2 : (b.toNat : Int) ≤ 126) (h3 : b ≠ 35) : P.plainByte b = true := by
  unfold P.plainByte; rw [pr_yes _ h h2]; simp [h3]
theorem u8_ne {b : UInt8} {n : Nat} (hn : n < 256) (h : b ≠ UInt8.ofNat n) : ((b.toNat : Int) == (n : Int)) = false := by
  rw [beq_eq_false_iff_ne]; intro e; apply h
  apply UInt8.toNat_inj.1
  rw [UInt8.toNat_ofNat_of_lt' hn]; omega
theorem l24Plain (s : Str) (m : Int) (w : World) (hs : s.length ≤ maxLen) :
    Calls Tryd.prog 61 #[.string (S s), .int .i64 m] w fun e w' => e = .returned (.bool (P.plain s m)) ∧ w = w' := by
  unfold maxLen at hs
  go_enter Tryd.func61, Tryd.ntmps61
  go_wp2
  go_loop [5] (fun i => ∃ k : Nat, k ≤ s.length ∧ i = .int .i64 k ∧ (s.take k).all P.plainByte = true) (fun i => s.length - (intOf i).toNat)
  case atStart => exact ⟨0, by omega, rfl, by simp⟩
  case round =>
    obtain ⟨k, hk, rfl, ha⟩ := hrel
    have HA := Lib.hid ha; clear ha
    by_cases hlt : k < s.length
    · rcases Classical.em (((s[k].toNat : Int) < 32 ∨ 126 < (s[k].toNat : Int))) with h | h
      · have hd : decide (32 ≤ (s[k].toNat : Int) ∧ (s[k].toNat : Int) ≤ 126) = false := by rw [decide_eq_false_iff_not]; omega
        have H := Lib.hid h; clear h
        go_wp2_with (go_at_call 40; refine (l1In _ _ _ _).mono ?_; rintro e w' ⟨rfl, rfl⟩)
        go_ret
        exact ⟨ret_bool (by unfold P.plain; rw [all_ge k hlt (plain_no _ (.inl H.out))]; rfl), rfl⟩
      · have h1 : 32 ≤ (s[k].toNat : Int) := by omega
        have h2 : (s[k].toNat : Int) ≤ 126 := by omega
        clear h
        have hd : decide (32 ≤ (s[k].toNat : Int) ∧ (s[k].toNat : Int) ≤ 126) = true := by rw [decide_eq_true_iff]; omega
        by_cases h3 : s[k] = 35
        · have h4 : ((s[k].toNat : Int) == 35) = true := by rw [h3]; rfl
          have H3 := Lib.hid h3; clear h3
          go_wp2_with (go_at_call 40; refine (l1In _ _ _ _).mono ?_; rintro e w' ⟨rfl, rfl⟩)
          go_ret
          exact ⟨ret_bool (by unfold P.plain; rw [all_ge k hlt (plain_no _ (.inr H3.out))]; rfl), rfl⟩
        · have h4 : ((s[k].toNat : Int) == 35) = false := u8_ne (n := 35) (by omega) h3
          have H3 := Lib.hid h3; clear h3
          go_wp2_with (go_at_call 40; refine (l1In _ _ _ _).mono ?_; rintro e w' ⟨rfl, rfl⟩)
          go_round
          case rel => exact ⟨k + 1, by omega, by go_num, all_snoc k hlt HA.out (plain_yes _ h1 h2 H3.out)⟩
          case measure => simp [intOf]; omega
    · go_wp2
      go_ret
      exact ⟨ret_bool (by unfold P.plain; rw [← List.take_of_length_le (l := s) (i := k) (by omega), HA.out, List.take_of_length_le (by omega), Bool.true_and]), rfl⟩
theorem sum_snoc (l : Str) (k : Nat) (h : k < l.length) : P.sum (l.take (k + 1)) = (41 * P.sum (l.take k) + l[k].toNat + 1) % 999979 := by
  rw [take_snoc l k h]; simp only [P.sum, List.foldl_append, List.foldl_cons, List.foldl_nil]
theorem sum_lt (l : Str) : P.sum l < 999979 := by
  suffices ∀ (l : Str) (h : Nat), h < 999979 → l.foldl (fun h b => (41 * h + b.toNat + 1) % 999979) h < 999979 from this l 7 (by omega)
  intro l; induction l with
  | nil => intro h hh; exact hh
  | cons b l ih => intro h hh; exact ih _ (Nat.mod_lt _ (by omega))
theorem l1Sum (s : Str) (w : World) (hs : s.length ≤ maxLen) :
    Calls Tryd.prog 74 #[.string (S s)] w fun e w' => e = .returned (.int .i64 (P.sum s)) ∧ w = w' := by
  unfold maxLen at hs
  go_enter Tryd.func74, Tryd.ntmps74
  go_wp2
  go_loop [3, 4] (fun h i => ∃ k : Nat, k ≤ s.length ∧ i = .int .i64 k ∧ h = .int .i64 (P.sum (s.take k))) (fun _ i => s.length - (intOf i).toNat)
  case atStart => exact ⟨0, by omega, rfl, by simp [P.sum]⟩
  case round =>
    obtain ⟨k, hk, rfl, rfl⟩ := hrel
    have hb := sum_lt (s.take k)
    by_cases hlt : k < s.length
    · have hsn := sum_snoc s k hlt
      have HS := Lib.hid hsn; clear hsn
      have hc := s[k].toNat_lt
      generalize hg : P.sum (List.take k s) = g at *
      have HG := Lib.hid hg; clear hg
      go_wp2
      go_round
      case rel => exact ⟨k + 1, by omega, by go_num, by rw [HS.out]; go_num⟩
      case measure => simp [intOf]; omega
    · go_wp2
      go_ret
      exact ⟨ret_int (by rw [List.take_of_length_le (by omega)]), rfl⟩
end Go.Proofs.YtbjfpceoamiaoaaDoor
