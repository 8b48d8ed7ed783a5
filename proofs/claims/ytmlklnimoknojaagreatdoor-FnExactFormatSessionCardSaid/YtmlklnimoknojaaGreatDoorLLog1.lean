/- Walks: strings' small functions. -/
import Derived.Test.YtmlklnimoknojaaGreatDoorBaseL
import Derived.Test.YtmlklnimoknojaaGreatDoorPlainStr
namespace Go.Proofs.YtmlklnimoknojaaGreatDoor.L
open Go Go.RowKit
set_option maxHeartbeats 400000
set_option maxRecDepth 100000
theorem impl_in (n lo hi : Int) (w : World) :
    Calls Tryz.prog 125 #[.int .i64 n, .int .i64 lo, .int .i64 hi] w fun e w' => e = .returned (.bool (decide (lo ≤ n ∧ n ≤ hi))) ∧ w = w' := by
  by_cases h1 : lo ≤ n <;> by_cases h2 : n ≤ hi
  all_goals
    go_enter Tryz.func125, Tryz.ntmps125
    go_wp2
    go_ret
    exact ⟨ret_bool (by simp [h1, h2]), rfl⟩
theorem l1In (n lo hi : Int) (w : World) :
    Calls Tryz.prog 161 #[.int .i64 n, .int .i64 lo, .int .i64 hi] w fun e w' => e = .returned (.bool (decide (lo ≤ n ∧ n ≤ hi))) ∧ w = w' := by
  by_cases h1 : lo ≤ n <;> by_cases h2 : n ≤ hi
  all_goals
    go_enter Tryz.func161, Tryz.ntmps161
    go_wp2
    go_ret
    exact ⟨ret_bool (by simp [h1, h2]), rfl⟩
theorem has_snoc (l : Str) (k : Nat) (h : k < l.length) (c : UInt8) : P.has (l.take (k + 1)) c = (P.has (l.take k) c || (l[k] == c)) := by
  rw [take_snoc l k h]; simp only [P.has, List.any_append, List.any_cons, List.any_nil, Bool.or_false]
theorem any_ge {l : Str} {p : UInt8 → Bool} (k : Nat) (h : k < l.length) (hp : p l[k] = true) : l.any p = true :=
  List.any_eq_true.2 ⟨l[k], List.getElem_mem h, hp⟩
theorem all_ge {l : Str} {p : UInt8 → Bool} (k : Nat) (h : k < l.length) (hp : p l[k] = false) : l.all p = false := by
  rw [List.all_eq_false]; exact ⟨l[k], List.getElem_mem h, by simp [hp]⟩
theorem all_snoc {l : Str} {p : UInt8 → Bool} (k : Nat) (h : k < l.length) (ha : (l.take k).all p = true) (hp : p l[k] = true) : (l.take (k + 1)).all p = true := by
  rw [take_snoc l k h, List.all_append, ha]; simp [hp]
@[go_sem] theorem u8_eq (a b : UInt8) : ((a.toNat : Int) == (b.toNat : Int)) = (a == b) := by
  by_cases h : a = b
  · subst h; simp
  · rw [beq_eq_false_iff_ne.2 h, beq_eq_false_iff_ne]
    intro e; exact h (UInt8.toNat_inj.1 (by omega))
theorem l1Stands (s : Str) (c : UInt8) (w : World) (hs : s.length ≤ maxLen) :
    Calls Tryz.prog 270 #[.string (S s), .int .u8 c.toNat] w fun e w' => e = .returned (.bool (P.has s c)) ∧ w = w' := by
  unfold maxLen at hs
  go_enter Tryz.func270, Tryz.ntmps270
  go_wp2
  go_loop [5] (fun i => ∃ k : Nat, k ≤ s.length ∧ i = .int .i64 k ∧ P.has (s.take k) c = false) (fun i => s.length - (intOf i).toNat)
  case atStart => exact ⟨0, by omega, rfl, by simp [P.has]⟩
  case round =>
    obtain ⟨k, hk, rfl, ha⟩ := hrel
    have HA := Lib.hid ha; clear ha
    by_cases hlt : k < s.length
    · have HT := Lib.hid (has_snoc s k hlt c)
      go_wp2
      · have h : (s[k] == c) = true := by assumption
        go_ret
        exact ⟨ret_bool (any_ge k hlt h).symm, rfl⟩
      · have h : (s[k] == c) = false := by assumption
        go_round
        case rel => exact ⟨k + 1, by omega, by go_num, by rw [HT.out, HA.out, h]; rfl⟩
        case measure => simp [intOf]; omega
    · go_wp2
      go_ret
      exact ⟨ret_bool (by rw [← HA.out, List.take_of_length_le (by omega)]), rfl⟩
theorem pr_no (b : UInt8) (h : (b.toNat : Int) < 32 ∨ 126 < (b.toNat : Int)) : (decide (32 ≤ (b.toNat : Int)) && decide ((b.toNat : Int) ≤ 126)) = false := by
  rw [Bool.and_eq_false_iff, decide_eq_false_iff_not, decide_eq_false_iff_not]; omega
theorem pr_yes (b : UInt8) (h : 32 ≤ (b.toNat : Int)) (h2 : (b.toNat : Int) ≤ 126) : (decide (32 ≤ (b.toNat : Int)) && decide ((b.toNat : Int) ≤ 126)) = true := by
  simp [h, h2]
theorem isPrintable (s : Str) (w : World) (hs : s.length ≤ maxLen) :
    Calls Tryz.prog 124 #[.string (S s)] w fun e w' => e = .returned (.bool (P.printable s)) ∧ w = w' := by
  unfold maxLen at hs
  go_enter Tryz.func124, Tryz.ntmps124
  go_wp2
  go_loop [3, 6] (fun _ i => ∃ k : Nat, k ≤ s.length ∧ i = .int .i64 k ∧ P.printable (s.take k) = true) (fun _ i => s.length - (intOf i).toNat)
  case atStart => exact ⟨0, by omega, rfl, by simp [P.printable]⟩
  case round =>
    obtain ⟨k, hk, rfl, ha⟩ := hrel
    have HA := Lib.hid ha; clear ha
    by_cases hlt : k < s.length
    · rcases Int.lt_or_le (s[k].toNat : Int) 32 with h1 | h1
      · go_wp2
        go_ret
        exact ⟨ret_bool (all_ge k hlt (pr_no _ (.inl h1))).symm, rfl⟩
      · rcases Int.lt_or_le 126 (s[k].toNat : Int) with h2 | h2
        · go_wp2
          go_ret
          exact ⟨ret_bool (all_ge k hlt (pr_no _ (.inr h2))).symm, rfl⟩
        · go_wp2
          go_round
          case rel => exact ⟨k + 1, by omega, by go_num, all_snoc k hlt HA.out (pr_yes _ h1 h2)⟩
          case measure => simp [intOf]; omega
    · go_wp2
      go_ret
      exact ⟨ret_bool (by rw [← HA.out, List.take_of_length_le (by omega)]), rfl⟩
theorem plain_no (b : UInt8) (h : ((b.toNat : Int) < 32 ∨ 126 < (b.toNat : Int)) ∨ b = 35) : P.plainByte b = false := by
  unfold P.plainByte
  rcases h with h | h
  · rw [pr_no _ h]; rfl
  · subst h; decide
theorem plain_yes (b : UInt8) (h : 32 ≤ (b.toNat : Int)) (h2 : (b.toNat : Int) ≤ 126) (h3 : b ≠ 35) : P.plainByte b = true := by
  unfold P.plainByte; rw [pr_yes _ h h2]; simp [h3]
theorem u8_ne {b : UInt8} {n : Nat} (hn : n < 256) (h : b ≠ UInt8.ofNat n) : ((b.toNat : Int) == (n : Int)) = false := by
  rw [beq_eq_false_iff_ne]; intro e; apply h
  apply UInt8.toNat_inj.1
  rw [UInt8.toNat_ofNat_of_lt' hn]; omega
theorem l24Plain (s : Str) (m : Int) (w : World) (hs : s.length ≤ maxLen) :
    Calls Tryz.prog 269 #[.string (S s), .int .i64 m] w fun e w' => e = .returned (.bool (P.plain s m)) ∧ w = w' := by
  unfold maxLen at hs
  go_enter Tryz.func269, Tryz.ntmps269
  go_wp2
  go_loop [5] (fun i => ∃ k : Nat, k ≤ s.length ∧ i = .int .i64 k ∧ (s.take k).all P.plainByte = true) (fun i => s.length - (intOf i).toNat)
  case atStart => exact ⟨0, by omega, rfl, by simp⟩
  case round =>
    obtain ⟨k, hk, rfl, ha⟩ := hrel
    have HA := Lib.hid ha; clear ha
    by_cases hlt : k < s.length
    · rcases Classical.em (((s[k].toNat : Int) < 32 ∨ 126 < (s[k].toNat : Int))) with h | h
      · have hd : decide (32 ≤ (s[k].toNat : Int) ∧ (s[k].toNat : Int) ≤ 126) = false := by rw [decide_eq_false_iff_not]; omega
        have H := Lib.hid h; clear h
        go_wp2_with (go_at_call 161; refine (l1In _ _ _ _).mono ?_; rintro e w' ⟨rfl, rfl⟩)
        go_ret
        exact ⟨ret_bool (by unfold P.plain; rw [all_ge k hlt (plain_no _ (.inl H.out))]; rfl), rfl⟩
      · have h1 : 32 ≤ (s[k].toNat : Int) := by omega
        have h2 : (s[k].toNat : Int) ≤ 126 := by omega
        clear h
        have hd : decide (32 ≤ (s[k].toNat : Int) ∧ (s[k].toNat : Int) ≤ 126) = true := by rw [decide_eq_true_iff]; omega
        by_cases h3 : s[k] = 35
        · have h4 : ((s[k].toNat : Int) == 35) = true := by rw [h3]; rfl
          have H3 := Lib.hid h3; clear h3
          go_wp2_with (go_at_call 161; refine (l1In _ _ _ _).mono ?_; rintro e w' ⟨rfl, rfl⟩)
          go_ret
          exact ⟨ret_bool (by unfold P.plain; rw [all_ge k hlt (plain_no _ (.inr H3.out))]; rfl), rfl⟩
        · have h4 : ((s[k].toNat : Int) == 35) = false := u8_ne (n := 35) (by omega) h3
          have H3 := Lib.hid h3; clear h3
          go_wp2_with (go_at_call 161; refine (l1In _ _ _ _).mono ?_; rintro e w' ⟨rfl, rfl⟩)
          go_round
          case rel => exact ⟨k + 1, by omega, by go_num, all_snoc k hlt HA.out (plain_yes _ h1 h2 H3.out)⟩
          case measure => simp [intOf]; omega
    · go_wp2
      go_ret
      exact ⟨ret_bool (by unfold P.plain; rw [← List.take_of_length_le (l := s) (i := k) (by omega), HA.out, List.take_of_length_le (by omega), Bool.true_and]), rfl⟩
theorem sum_snoc (l : Str) (k : Nat) (h : k < l.length) : P.sum (l.take (k + 1)) = (41 * P.sum (l.take k) + l[k].toNat + 1) % 999979 := by
  rw [take_snoc l k h]; simp only [P.sum, List.foldl_append, List.foldl_cons, List.foldl_nil]
theorem sum_lt (l : Str) : P.sum l < 999979 := by
  suffices ∀ (l : Str) (h : Nat), h < 999979 → l.foldl (fun h b => (41 * h + b.toNat + 1) % 999979) h < 999979 from this l 7 (by omega)
  intro l; induction l with
  | nil => intro h hh; exact hh
  | cons b l ih => intro h hh; exact ih _ (Nat.mod_lt _ (by omega))
theorem l1Sum (s : Str) (w : World) (hs : s.length ≤ maxLen) :
    Calls Tryz.prog 284 #[.string (S s)] w fun e w' => e = .returned (.int .i64 (P.sum s)) ∧ w = w' := by
  unfold maxLen at hs
  go_enter Tryz.func284, Tryz.ntmps284
  go_wp2
  go_loop [3, 4] (fun h i => ∃ k : Nat, k ≤ s.length ∧ i = .int .i64 k ∧ h = .int .i64 (P.sum (s.take k))) (fun _ i => s.length - (intOf i).toNat)
  case atStart => exact ⟨0, by omega, rfl, by simp [P.sum]⟩
  case round =>
    obtain ⟨k, hk, rfl, rfl⟩ := hrel
    have hb := sum_lt (s.take k)
    by_cases hlt : k < s.length
    · have hsn := sum_snoc s k hlt
      have HS := Lib.hid hsn; clear hsn
      have hc := s[k].toNat_lt
      generalize hg : P.sum (List.take k s) = g at *
      have HG := Lib.hid hg; clear hg
      go_wp2
      go_round
      case rel => exact ⟨k + 1, by omega, by go_num, by rw [HS.out]; go_num⟩
      case measure => simp [intOf]; omega
    · go_wp2
      go_ret
      exact ⟨ret_int (by rw [List.take_of_length_le (by omega)]), rfl⟩
end Go.Proofs.YtmlklnimoknojaaGreatDoor.L

namespace Go.Proofs.YtmlklnimoknojaaGreatDoor.L
open Go Go.RowKit
set_option maxHeartbeats 400000
set_option maxRecDepth 100000
theorem num_digit (n : Nat) (h : n < 10) : (List.take (n + 1 - n) (List.drop n [48, 49, 50, 51, 52, 53, 54, 55, 56, 57]) : List UInt8) = [UInt8.ofNat (48 + n)] := by
  match n, h with
  | 0, _ => rfl | 1, _ => rfl | 2, _ => rfl | 3, _ => rfl | 4, _ => rfl | 5, _ => rfl | 6, _ => rfl | 7, _ => rfl | 8, _ => rfl | 9, _ => rfl
def NumPost (n : Nat) (w : World) (e : Ending) (w' : World) : Prop := e = .returned (.string (S (P.num n))) ∧ ∃ k, w' = w.drewN k
theorem dec_small (n : Nat) (h : n < 10) : Lib.decDigits n = List.take 1 (List.drop n [48, 49, 50, 51, 52, 53, 54, 55, 56, 57]) := by
  rw [Lib.decDigits_one h, ← num_digit n h, show n + 1 - n = 1 from by omega]
theorem dec_big (n : Nat) (h : ¬ n < 10) : Lib.decDigits n = Lib.decDigits (n / 10) ++ List.take 1 (List.drop (n % 10) [48, 49, 50, 51, 52, 53, 54, 55, 56, 57]) := by
  rw [← dec_small _ (Nat.mod_lt _ (by omega)), Lib.decDigits_one (Nat.mod_lt _ (by omega))]
  rw [Lib.decDigits, dif_neg h]
theorem l1Num_nat (n : Nat) : ∀ (w : World), n < 2 ^ 62 →
    Calls Tryz.prog 244 #[.int .i64 n] w (NumPost n w) := by
  induction n using Nat.strongRecOn with
  | _ n ih =>
    intro w hn
    have ih2 : ∀ m : Int, 0 ≤ m → m < n → ∀ w : World, Calls Tryz.prog 244 #[.int .i64 m] w fun e w' => e = .returned (.string (S (P.num m.toNat))) ∧ ∃ k, w' = w.drewN k := fun m h0 hm w => by
      obtain ⟨k, rfl⟩ := Int.eq_ofNat_of_zero_le h0
      exact ih k (by omega) w (by omega)
    have HI := Lib.hid ih2; clear ih ih2
    by_cases h : n < 10
    · have HD := Lib.hid (dec_small n h)
      go_enter Tryz.func244, Tryz.ntmps244
      go_wp2_with fail
      go_ret
      exact ⟨ret_str (by unfold P.num; exact HD.out.symm), 0, rfl⟩
    · have HD := Lib.hid (dec_big n h)
      have HQ := Lib.hid (show ((n : Int) / 10).toNat = n / 10 by omega)
      have hl3 : (P.num ((n : Int) / 10).toNat).length ≤ 20 := by rw [HQ.out]; exact P.num_len _ (by omega)
      go_enter Tryz.func244, Tryz.ntmps244
      go_wp2_with fail
      go_quiet ((go_at_call 244; exact Calls.quiet_of (HI.out _ (by omega) (by omega) _)))
      go_wp2
      go_ret
      exact ⟨ret_str (by unfold P.num; exact HD.out.symm), _, rfl⟩
theorem l1Num (n : Int) (w : World) (h0 : 0 ≤ n) (h : n < 4611686018427387904) :
    Calls Tryz.prog 244 #[.int .i64 n] w fun e w' => e = .returned (.string (S (P.num n.toNat))) ∧ ∃ k, w' = w.drewN k := by
  obtain ⟨m, rfl⟩ := Int.eq_ofNat_of_zero_le h0
  exact l1Num_nat m w (by omega)
theorem checksum (s : Str) (w : World) (hs : s.length ≤ maxLen) :
    Calls Tryz.prog 286 #[.string (S s)] w fun e w' => e = .returned (.tuple #[.int .i64 (if (s.length : Int) ≤ 4000 then P.sum s else 0), .bool (decide ((s.length : Int) ≤ 4000))]) ∧ w = w' := by
  unfold maxLen at hs
  by_cases h4 : (s.length : Int) ≤ 4000
  · rw [if_pos h4, decide_eq_true h4]
    go_enter Tryz.func286, Tryz.ntmps286
    go_wp2
    go_loop [4, 5, 11] (fun h _ i => ∃ k : Nat, k ≤ s.length ∧ i = .int .i64 k ∧ h = .int .i64 (P.sum (s.take k))) (fun _ _ i => s.length - (intOf i).toNat)
    case atStart => exact ⟨0, by omega, rfl, by simp [P.sum]⟩
    case round =>
      obtain ⟨k, hk, rfl, rfl⟩ := hrel
      have hb := sum_lt (s.take k)
      by_cases hlt : k < s.length
      · have hsn := sum_snoc s k hlt
        have HS := Lib.hid hsn; clear hsn
        have hc := s[k].toNat_lt
        generalize hg : P.sum (List.take k s) = g at *
        have HG := Lib.hid hg; clear hg
        go_wp2
        go_round
        case rel => exact ⟨k + 1, by omega, by go_num, by rw [HS.out]; go_num⟩
        case measure => simp [intOf]; omega
      · go_wp2
        go_ret2
        exact ⟨by rw [List.take_of_length_le (l := s) (i := k) (by omega)]; rfl, rfl⟩
  · rw [if_neg h4, decide_eq_false h4]
    go_enter Tryz.func286, Tryz.ntmps286
    go_wp2
    go_ret2
    exact ⟨rfl, rfl⟩
theorem l1Seal (s : Str) (w : World) (hs : s.length ≤ 2 ^ 62) :
    Calls Tryz.prog 271 #[.string (S s)] w fun e w' => e = .returned (.string (S (P.sealed s))) ∧ ∃ k, w' = w.drewN k := by
  have hl := sum_lt s
  have hl2 := P.num_len (P.sum s) (by omega)
  go_enter Tryz.func271, Tryz.ntmps271
  go_wp2_with (first | (go_at_call 284; refine (l1Sum _ _ (by unfold maxLen; omega)).mono ?_; rintro e w' ⟨rfl, rfl⟩) | (go_at_call 244; refine (l1Num _ _ (by omega) (by omega)).mono ?_; rintro e w' ⟨rfl, k, rfl⟩; rw [Int.toNat_natCast]))
  go_ret
  exact ⟨ret_str (by simp [P.sealed, P.num]), _, rfl⟩
end Go.Proofs.YtmlklnimoknojaaGreatDoor.L

namespace Go.Proofs.YtmlklnimoknojaaGreatDoor.L
open Go Go.RowKit
set_option maxHeartbeats 400000
set_option maxRecDepth 100000
theorem l24Good (c r : Str) (w : World) (hc : c.length ≤ maxLen) (hr : r.length ≤ maxLen) :
    Calls Tryz.prog 245 #[.agg #[.string (S c), .string (S r)]] w fun e w' => e = .returned (.bool (P.good c r)) ∧ Below w.heap.size w w' := by
  cases h1 : c.isEmpty
  · cases h2 : P.plain c 90
    · go_enter Tryz.func245, Tryz.ntmps245
      go_wp2_with (first | (go_at_call 269; refine (l24Plain _ _ _ (by assumption)).mono ?_; rintro e w' ⟨rfl, rfl⟩) | (go_at_call 270; refine (l1Stands _ 62 _ (by assumption)).mono ?_; rintro e w' ⟨rfl, rfl⟩))
      go_ret
      exact ⟨ret_bool (by simp [P.good, h2]), (Below.refl _ _).alloc (Nat.le_refl _) _⟩
    · cases h3 : P.has c 62
      · cases h4 : P.plain r 200
        all_goals
          go_enter Tryz.func245, Tryz.ntmps245
          go_wp2_with (first | (go_at_call 269; refine (l24Plain _ _ _ (by assumption)).mono ?_; rintro e w' ⟨rfl, rfl⟩) | (go_at_call 270; refine (l1Stands _ 62 _ (by assumption)).mono ?_; rintro e w' ⟨rfl, rfl⟩))
          go_ret
          exact ⟨ret_bool (by simp [P.good, h1, h2, h3, h4]), (Below.refl _ _).alloc (Nat.le_refl _) _⟩
      · go_enter Tryz.func245, Tryz.ntmps245
        go_wp2_with (first | (go_at_call 269; refine (l24Plain _ _ _ (by assumption)).mono ?_; rintro e w' ⟨rfl, rfl⟩) | (go_at_call 270; refine (l1Stands _ 62 _ (by assumption)).mono ?_; rintro e w' ⟨rfl, rfl⟩))
        go_ret
        exact ⟨ret_bool (by simp [P.good, h3]), (Below.refl _ _).alloc (Nat.le_refl _) _⟩
  · go_enter Tryz.func245, Tryz.ntmps245
    go_wp2_with (first | (go_at_call 269; refine (l24Plain _ _ _ (by assumption)).mono ?_; rintro e w' ⟨rfl, rfl⟩) | (go_at_call 270; refine (l1Stands _ 62 _ (by assumption)).mono ?_; rintro e w' ⟨rfl, rfl⟩))
    go_ret
    exact ⟨ret_bool (by simp [P.good, h1]), (Below.refl _ _).alloc (Nat.le_refl _) _⟩
theorem sealed_len (s : Str) : (P.sealed s).length ≤ s.length + 21 := by
  have hl := sum_lt s
  have hl2 := P.num_len (P.sum s) (by omega)
  simp [P.sealed]; omega
theorem l24Line (k : Int) (c r : Str) (w : World) (h0 : 0 ≤ k) (hk : k < 1000) (hc : c.length ≤ 2 ^ 40) (hr : r.length ≤ 2 ^ 40) :
    Calls Tryz.prog 246 #[.int .i64 k, .agg #[.string (S c), .string (S r)]] w fun e w' => e = .returned (.string (S (P.line k.toNat c r))) ∧ Below w.heap.size w w' := by
  have hn := P.num_len k.toNat (by omega)
  have hs := sealed_len (P.num k.toNat ++ 32 :: (c ++ 62 :: r))
  simp only [List.length_append, List.length_cons] at hs
  go_enter Tryz.func246, Tryz.ntmps246
  go_wp2_with fail
  go_quiet ((first | (go_at_call 244; exact Calls.quiet_of (l1Num _ _ (by omega) (by omega))) | (go_at_call 271; exact Calls.quiet_of (l1Seal _ _ (by simp; omega)))))
  go_wp2
  go_ret
  exact ⟨ret_str (by simp [P.line]), below_drewN ((Below.refl _ _).alloc (Nat.le_refl _) _) _⟩
theorem ascii_of {c : Str} (h : P.printable c = true) : ∀ (j : Nat) (b : UInt8), c[j]? = some b → b.toNat < 128 := by
  intro j b hb
  have := List.all_eq_true.1 h b (List.mem_of_getElem? hb)
  simp at this; omega
theorem isValidRecord (c r : Str) (w : World) (hc : c.length ≤ 2 ^ 30) (hr : r.length ≤ 2 ^ 30) :
    Calls Tryz.prog 273 #[.agg #[.string (S c), .string (S r)]] w fun e w' => e = .returned (.bool (P.vrec c r)) ∧ Below w.heap.size w w' := by
  have hc' : c.length ≤ maxLen := by unfold maxLen; omega
  have hr' : r.length ≤ maxLen := by unfold maxLen; omega
  cases h1 : decide (1 ≤ (c.length : Int) ∧ (c.length : Int) ≤ 90)
  · go_enter Tryz.func273, Tryz.ntmps273
    go_wp2_with (first | (go_at_call 125; refine (impl_in _ _ _ _).mono ?_; rintro e w' ⟨rfl, rfl⟩))
    go_ret
    exact ⟨ret_bool (by simp only [P.vrec, h1, Bool.false_and]), (Below.refl _ _).alloc (Nat.le_refl _) _⟩
  · cases h2 : P.printable c
    · go_enter Tryz.func273, Tryz.ntmps273
      go_wp2_with (first | (go_at_call 125; refine (impl_in _ _ _ _).mono ?_; rintro e w' ⟨rfl, rfl⟩) | (go_at_call 124; refine (isPrintable _ _ (by assumption)).mono ?_; rintro e w' ⟨rfl, rfl⟩))
      go_ret
      exact ⟨ret_bool (by simp only [P.vrec, h1, h2, Bool.false_and, Bool.true_and]), (Below.refl _ _).alloc (Nat.le_refl _) _⟩
    · have HA := Lib.hid (ascii_of h2)
      cases h3 : Lib.containsAny c [35, 62] <;> cases h4 : decide ((r.length : Int) ≤ 200) <;> cases h5 : P.printable r <;> cases h6 : Lib.contains r [35]
      all_goals
        go_enter Tryz.func273, Tryz.ntmps273
        go_wp2_with (first | (go_at_call 125; refine (impl_in _ _ _ _).mono ?_; rintro e w' ⟨rfl, rfl⟩) | (go_at_call 124; refine (isPrintable _ _ (by assumption)).mono ?_; rintro e w' ⟨rfl, rfl⟩) | (go_at_call 285; refine (containsAny_hg _ _ hc HA.out).mono ?_; rintro e w' ⟨rfl, hb⟩; obtain ⟨hcc, hff⟩ := bcell hb; have HB := Lib.hid hb; clear hb) | (go_at_call 259; refine (contains_one _ 35 _).mono ?_; rintro e w' ⟨rfl, rfl⟩))
        go_ret
        exact ⟨ret_bool (by simp only [P.vrec, h1, h2, h3, h4, h5, h6, Bool.and_true, Bool.and_false, Bool.not_true, Bool.not_false]), ((Below.refl _ _).alloc (Nat.le_refl _) _).trans (HB.out.mono (by simp))⟩
end Go.Proofs.YtmlklnimoknojaaGreatDoor.L
