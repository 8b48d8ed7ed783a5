/- Walks: the rule of a suffix, the joined word (reference). -/
import Derived.Deep.DeepCutAuto
import Derived.Test.YtmlklnimoknojaaGreatDoorSpellS
namespace Go.Proofs.YtmlklnimoknojaaGreatDoor
open Go Go.RowKit
set_option maxHeartbeats 4000000
set_option maxRecDepth 100000
theorem l9Doubles (s : Str) (w : World) (hs : s.length ≤ 2 ^ 30) :
    Calls Tryz.prog 268 #[.string (S s)] w fun e w' => e = .returned (.bool (decide (P.vgroups s = 1) && P.closed s)) ∧ w = w' := by
  have hc : P.closed s = (decide (3 ≤ s.length) && (!P.vow (P.back s 3) && (P.vow (P.back s 2) && (!P.vow (P.back s 1) && !(P.back s 1 == 119 || (P.back s 1 == 120 || P.back s 1 == 121)))))) := rfl
  by_cases h3 : 3 ≤ s.length
  · obtain ⟨n3, hn3⟩ : ∃ n, n + 3 = s.length := ⟨s.length - 3, by omega⟩
    obtain ⟨l1, b1⟩ := P.back_at (s := s) (n := n3 + 2) (k := 1) (by omega) (by omega)
    obtain ⟨l2, b2⟩ := P.back_at (s := s) (n := n3 + 1) (k := 2) (by omega) (by omega)
    obtain ⟨l3, b3⟩ := P.back_at (s := s) (n := n3) (k := 3) (by omega) (by omega)
    rw [b1, b2, b3, decide_eq_true h3] at hc
    have i1 : ¬ (s.length : Int) < 3 := by omega
    have i2 : (s.length : Int) - 1 = ((n3 + 2 : Nat) : Int) := by omega
    have i3 : (s.length : Int) - 2 = ((n3 + 1 : Nat) : Int) := by omega
    have i4 : (s.length : Int) - 3 = (n3 : Int) := by omega
    obtain ⟨r1, hr1⟩ : ∃ q, ((s[n3 + 2]'l1) == 119) = q := ⟨_, rfl⟩
    obtain ⟨r2, hr2⟩ : ∃ q, ((s[n3 + 2]'l1) == 120) = q := ⟨_, rfl⟩
    obtain ⟨r3, hr3⟩ : ∃ q, ((s[n3 + 2]'l1) == 121) = q := ⟨_, rfl⟩
    have f1 : (((s[n3 + 2]'l1).toNat : Int) == 119) = r1 := (u8_beq _ 119 (by decide)).trans hr1
    have g1 : (((s[n3 + 2]'l1).toNat : Int) != 119) = !r1 := by rw [← f1]; rfl
    have f2 : (((s[n3 + 2]'l1).toNat : Int) == 120) = r2 := (u8_beq _ 120 (by decide)).trans hr2
    have g2 : (((s[n3 + 2]'l1).toNat : Int) != 120) = !r2 := by rw [← f2]; rfl
    have f3 : (((s[n3 + 2]'l1).toNat : Int) == 121) = r3 := (u8_beq _ 121 (by decide)).trans hr3
    have g3 : (((s[n3 + 2]'l1).toNat : Int) != 121) = !r3 := by rw [← f3]; rfl
    rw [hr1, hr2, hr3] at hc
    obtain ⟨q1, hq1⟩ : ∃ q, P.vow (s[n3 + 2]'l1) = q := ⟨_, rfl⟩
    obtain ⟨q2, hq2⟩ : ∃ q, P.vow (s[n3 + 1]'l2) = q := ⟨_, rfl⟩
    obtain ⟨q3, hq3⟩ : ∃ q, P.vow (s[n3]'l3) = q := ⟨_, rfl⟩
    rw [hq1, hq2, hq3] at hc
    have HC := Lib.hid hc
    obtain ⟨p, hp⟩ : ∃ q, decide (P.vgroups s = 1) = q := ⟨_, rfl⟩
    have HP := Lib.hid hp
    have f0 : ((P.vgroups s : Int) == 1) = p := by rw [← hp, Bool.eq_iff_iff]; simp; omega
    have f0' : ((P.vgroups s : Int) != 1) = !p := by rw [← f0]; rfl
    clear hc b1 b2 b3 hr1 hr2 hr3 hp hn3 h3 f0 f1 f2 f3
    have FIN := Lib.hid (show ∀ x : Bool, (p && P.closed s) = x → (decide (P.vgroups s = 1) && P.closed s) = x from fun x h => by rw [HP.out]; exact h)
    cases p with
    | false =>
      go_enter Tryz.func268, Tryz.ntmps268
      go_wp2_with (first | (go_at_call 265; refine (l9Vowel _ _).mono ?_; rintro e w' ⟨rfl, rfl⟩) | (go_at_call 283; refine (l9Groups _ _ hs).mono ?_; rintro e w' ⟨rfl, rfl⟩))
      go_ret
      exact ⟨ret_bool (by rw [FIN.out _ rfl, HC.out]; simp), rfl⟩
    | true =>
      cases q3 with
      | true =>
        go_enter Tryz.func268, Tryz.ntmps268
        go_wp2_with (first | (go_at_call 265; refine (l9Vowel _ _).mono ?_; rintro e w' ⟨rfl, rfl⟩) | (go_at_call 283; refine (l9Groups _ _ hs).mono ?_; rintro e w' ⟨rfl, rfl⟩))
        go_ret
        exact ⟨ret_bool (by rw [FIN.out _ rfl, HC.out]; simp), rfl⟩
      | false =>
        cases q2 with
        | false =>
          go_enter Tryz.func268, Tryz.ntmps268
          go_wp2_with (first | (go_at_call 265; refine (l9Vowel _ _).mono ?_; rintro e w' ⟨rfl, rfl⟩) | (go_at_call 283; refine (l9Groups _ _ hs).mono ?_; rintro e w' ⟨rfl, rfl⟩))
          go_ret
          exact ⟨ret_bool (by rw [FIN.out _ rfl, HC.out]; simp), rfl⟩
        | true =>
          cases q1 with
          | true =>
            go_enter Tryz.func268, Tryz.ntmps268
            go_wp2_with (first | (go_at_call 265; refine (l9Vowel _ _).mono ?_; rintro e w' ⟨rfl, rfl⟩) | (go_at_call 283; refine (l9Groups _ _ hs).mono ?_; rintro e w' ⟨rfl, rfl⟩))
            go_ret
            exact ⟨ret_bool (by rw [FIN.out _ rfl, HC.out]; simp), rfl⟩
          | false =>
            cases r1 with
            | true =>
              go_enter Tryz.func268, Tryz.ntmps268
              go_wp2_with (first | (go_at_call 265; refine (l9Vowel _ _).mono ?_; rintro e w' ⟨rfl, rfl⟩) | (go_at_call 283; refine (l9Groups _ _ hs).mono ?_; rintro e w' ⟨rfl, rfl⟩))
              go_ret
              exact ⟨ret_bool (by rw [FIN.out _ rfl, HC.out]; simp), rfl⟩
            | false =>
              cases r2 with
              | true =>
                go_enter Tryz.func268, Tryz.ntmps268
                go_wp2_with (first | (go_at_call 265; refine (l9Vowel _ _).mono ?_; rintro e w' ⟨rfl, rfl⟩) | (go_at_call 283; refine (l9Groups _ _ hs).mono ?_; rintro e w' ⟨rfl, rfl⟩))
                go_ret
                exact ⟨ret_bool (by rw [FIN.out _ rfl, HC.out]; simp), rfl⟩
              | false =>
                go_enter Tryz.func268, Tryz.ntmps268
                go_wp2_with (first | (go_at_call 265; refine (l9Vowel _ _).mono ?_; rintro e w' ⟨rfl, rfl⟩) | (go_at_call 283; refine (l9Groups _ _ hs).mono ?_; rintro e w' ⟨rfl, rfl⟩))
                go_ret
                exact ⟨ret_bool (by rw [FIN.out _ rfl, HC.out]; simp), rfl⟩
  · have HC := Lib.hid (show P.closed s = false by rw [hc, decide_eq_false h3]; rfl)
    have i1 : (s.length : Int) < 3 := by omega
    clear hc
    go_enter Tryz.func268, Tryz.ntmps268
    go_wp2
    go_ret
    exact ⟨ret_bool (by rw [HC.out]; simp), rfl⟩
theorem l9Rule (x y : Str) (w : World) (hx : x.length ≤ 2 ^ 30) (hy : 0 < y.length) :
    Calls Tryz.prog 243 #[.string (S x), .string (S y)] w fun e w' => e = .returned (.int .i64 (P.rule x y)) ∧ w = w' := by
  have hr : P.rule x y = (if (y == [115]) && P.consY x then 1
    else if (y == [115]) && (P.ends x [115] || (P.ends x [120] || (P.ends x [122] || (P.ends x [99, 104] || P.ends x [115, 104])))) then 2
    else if (y == [105, 110, 103]) && P.ends x [105, 101] then 3
    else if P.consY x && !(y.getD 0 0 == 105) then 4
    else if P.dropE x && P.vow (y.getD 0 0) then 5
    else if decide (P.vgroups x = 1) && (P.closed x && P.vow (y.getD 0 0)) then 6 else 0) := rfl
  rw [P.getD_at hy] at hr
  obtain ⟨y0, hy0⟩ : ∃ v, (y[0]'hy == 105) = v := ⟨_, rfl⟩
  have f0 : (((y[0]'hy).toNat : Int) == 105) = y0 := (u8_beq _ 105 (by decide)).trans hy0
  have f0' : (((y[0]'hy).toNat : Int) != 105) = !y0 := by rw [← f0]; rfl
  have h5 : (P.dropE x && P.vow (y[0]'hy)) = (decide (2 ≤ x.length) && (P.ends x [101] && (!P.ends x [101, 101] && (!P.ends x [111, 101] && (!P.ends x [121, 101] && P.vow (y[0]'hy)))))) := by
    unfold P.dropE P.eoy
    cases decide (2 ≤ x.length) <;> cases P.ends x [101] <;> cases P.ends x [101, 101] <;> cases P.ends x [111, 101] <;> cases P.ends x [121, 101] <;> rfl
  have h6 : (decide (P.vgroups x = 1) && (P.closed x && P.vow (y[0]'hy))) = ((decide (P.vgroups x = 1) && P.closed x) && P.vow (y[0]'hy)) := by
    cases decide (P.vgroups x = 1) <;> rfl
  rw [hy0, h5, h6] at hr
  have HR := Lib.hid hr
  clear hr hy0 f0 h5 h6
  go_enter Tryz.func243, Tryz.ntmps243
  go_upto_region 2 with (first | (go_at_call 265; refine (l9Vowel _ _).mono ?_; rintro e w' ⟨rfl, rfl⟩) | (go_at_call 266; refine (l9ConsonantY _ _ (by omega)).mono ?_; rintro e w' ⟨rfl, rfl⟩) | (go_at_call 267; refine (l9Ends _ _ _ (by omega)).mono ?_; rintro e w' ⟨rfl, rfl⟩) | (go_at_call 268; refine (l9Doubles _ _ hx).mono ?_; rintro e w' ⟨rfl, rfl⟩))
  go_upto_region 2 with fail
  go_cut [9] (fun c wx => c = .bool ((y == [115]) && P.consY x) ∧ w = wx)
  case first =>
    cases g4 : (y == [115]) with
    | false =>
      go_wp2_with (first | (go_at_call 265; refine (l9Vowel _ _).mono ?_; rintro e w' ⟨rfl, rfl⟩) | (go_at_call 266; refine (l9ConsonantY _ _ (by omega)).mono ?_; rintro e w' ⟨rfl, rfl⟩) | (go_at_call 267; refine (l9Ends _ _ _ (by omega)).mono ?_; rintro e w' ⟨rfl, rfl⟩) | (go_at_call 268; refine (l9Doubles _ _ hx).mono ?_; rintro e w' ⟨rfl, rfl⟩))
      go_meet
      exact ⟨by simp [g4], rfl⟩
    | true =>
      go_wp2_with (first | (go_at_call 265; refine (l9Vowel _ _).mono ?_; rintro e w' ⟨rfl, rfl⟩) | (go_at_call 266; refine (l9ConsonantY _ _ (by omega)).mono ?_; rintro e w' ⟨rfl, rfl⟩) | (go_at_call 267; refine (l9Ends _ _ _ (by omega)).mono ?_; rintro e w' ⟨rfl, rfl⟩) | (go_at_call 268; refine (l9Doubles _ _ hx).mono ?_; rintro e w' ⟨rfl, rfl⟩))
      go_meet
      exact ⟨by simp [g4], rfl⟩
  case rest =>
  obtain ⟨rfl, rfl⟩ := hcut
  cases hc0 : ((y == [115]) && P.consY x)
  rotate_left
  · have HZ := Lib.hid (show P.rule x y = 1 by rw [HR.out, hc0]; rfl)
    clear hc0
    go_wp2
    go_ret
    exact ⟨ret_int (by rw [HZ.out]; rfl), rfl⟩
  have N0 := Lib.hid hc0
  clear hc0
  go_upto_region 4 with fail
  go_cut [16] (fun c wx => c = .bool ((y == [115]) && (P.ends x [115] || (P.ends x [120] || (P.ends x [122] || (P.ends x [99, 104] || P.ends x [115, 104]))))) ∧ w = wx)
  case first =>
    cases g4 : (y == [115]) with
    | false =>
      go_wp2_with (first | (go_at_call 265; refine (l9Vowel _ _).mono ?_; rintro e w' ⟨rfl, rfl⟩) | (go_at_call 266; refine (l9ConsonantY _ _ (by omega)).mono ?_; rintro e w' ⟨rfl, rfl⟩) | (go_at_call 267; refine (l9Ends _ _ _ (by omega)).mono ?_; rintro e w' ⟨rfl, rfl⟩) | (go_at_call 268; refine (l9Doubles _ _ hx).mono ?_; rintro e w' ⟨rfl, rfl⟩))
      go_meet
      exact ⟨by simp [g4], rfl⟩
    | true =>
      cases g6 : P.ends x [115] with
      | true =>
        go_wp2_with (first | (go_at_call 265; refine (l9Vowel _ _).mono ?_; rintro e w' ⟨rfl, rfl⟩) | (go_at_call 266; refine (l9ConsonantY _ _ (by omega)).mono ?_; rintro e w' ⟨rfl, rfl⟩) | (go_at_call 267; refine (l9Ends _ _ _ (by omega)).mono ?_; rintro e w' ⟨rfl, rfl⟩) | (go_at_call 268; refine (l9Doubles _ _ hx).mono ?_; rintro e w' ⟨rfl, rfl⟩))
        go_meet
        exact ⟨by simp [g4, g6], rfl⟩
      | false =>
        cases g8 : P.ends x [120] with
        | true =>
          go_wp2_with (first | (go_at_call 265; refine (l9Vowel _ _).mono ?_; rintro e w' ⟨rfl, rfl⟩) | (go_at_call 266; refine (l9ConsonantY _ _ (by omega)).mono ?_; rintro e w' ⟨rfl, rfl⟩) | (go_at_call 267; refine (l9Ends _ _ _ (by omega)).mono ?_; rintro e w' ⟨rfl, rfl⟩) | (go_at_call 268; refine (l9Doubles _ _ hx).mono ?_; rintro e w' ⟨rfl, rfl⟩))
          go_meet
          exact ⟨by simp [g4, g6, g8], rfl⟩
        | false =>
          cases g10 : P.ends x [122] with
          | true =>
            go_wp2_with (first | (go_at_call 265; refine (l9Vowel _ _).mono ?_; rintro e w' ⟨rfl, rfl⟩) | (go_at_call 266; refine (l9ConsonantY _ _ (by omega)).mono ?_; rintro e w' ⟨rfl, rfl⟩) | (go_at_call 267; refine (l9Ends _ _ _ (by omega)).mono ?_; rintro e w' ⟨rfl, rfl⟩) | (go_at_call 268; refine (l9Doubles _ _ hx).mono ?_; rintro e w' ⟨rfl, rfl⟩))
            go_meet
            exact ⟨by simp [g4, g6, g8, g10], rfl⟩
          | false =>
            cases g12 : P.ends x [99, 104] with
            | true =>
              go_wp2_with (first | (go_at_call 265; refine (l9Vowel _ _).mono ?_; rintro e w' ⟨rfl, rfl⟩) | (go_at_call 266; refine (l9ConsonantY _ _ (by omega)).mono ?_; rintro e w' ⟨rfl, rfl⟩) | (go_at_call 267; refine (l9Ends _ _ _ (by omega)).mono ?_; rintro e w' ⟨rfl, rfl⟩) | (go_at_call 268; refine (l9Doubles _ _ hx).mono ?_; rintro e w' ⟨rfl, rfl⟩))
              go_meet
              exact ⟨by simp [g4, g6, g8, g10, g12], rfl⟩
            | false =>
              go_wp2_with (first | (go_at_call 265; refine (l9Vowel _ _).mono ?_; rintro e w' ⟨rfl, rfl⟩) | (go_at_call 266; refine (l9ConsonantY _ _ (by omega)).mono ?_; rintro e w' ⟨rfl, rfl⟩) | (go_at_call 267; refine (l9Ends _ _ _ (by omega)).mono ?_; rintro e w' ⟨rfl, rfl⟩) | (go_at_call 268; refine (l9Doubles _ _ hx).mono ?_; rintro e w' ⟨rfl, rfl⟩))
              go_meet
              exact ⟨by simp [g4, g6, g8, g10, g12], rfl⟩
  case rest =>
  obtain ⟨rfl, rfl⟩ := hcut
  cases hc1 : ((y == [115]) && (P.ends x [115] || (P.ends x [120] || (P.ends x [122] || (P.ends x [99, 104] || P.ends x [115, 104])))))
  rotate_left
  · have HZ := Lib.hid (show P.rule x y = 2 by rw [HR.out, N0.out, if_neg (by decide), hc1]; rfl)
    clear hc1
    go_wp2
    go_ret
    exact ⟨ret_int (by rw [HZ.out]; rfl), rfl⟩
  have N1 := Lib.hid hc1
  clear hc1
  go_upto_region 6 with fail
  go_cut [39] (fun c wx => c = .bool ((y == [105, 110, 103]) && P.ends x [105, 101]) ∧ w = wx)
  case first =>
    cases g4 : (y == [105, 110, 103]) with
    | false =>
      go_wp2_with (first | (go_at_call 265; refine (l9Vowel _ _).mono ?_; rintro e w' ⟨rfl, rfl⟩) | (go_at_call 266; refine (l9ConsonantY _ _ (by omega)).mono ?_; rintro e w' ⟨rfl, rfl⟩) | (go_at_call 267; refine (l9Ends _ _ _ (by omega)).mono ?_; rintro e w' ⟨rfl, rfl⟩) | (go_at_call 268; refine (l9Doubles _ _ hx).mono ?_; rintro e w' ⟨rfl, rfl⟩))
      go_meet
      exact ⟨by simp [g4], rfl⟩
    | true =>
      go_wp2_with (first | (go_at_call 265; refine (l9Vowel _ _).mono ?_; rintro e w' ⟨rfl, rfl⟩) | (go_at_call 266; refine (l9ConsonantY _ _ (by omega)).mono ?_; rintro e w' ⟨rfl, rfl⟩) | (go_at_call 267; refine (l9Ends _ _ _ (by omega)).mono ?_; rintro e w' ⟨rfl, rfl⟩) | (go_at_call 268; refine (l9Doubles _ _ hx).mono ?_; rintro e w' ⟨rfl, rfl⟩))
      go_meet
      exact ⟨by simp [g4], rfl⟩
  case rest =>
  obtain ⟨rfl, rfl⟩ := hcut
  cases hc2 : ((y == [105, 110, 103]) && P.ends x [105, 101])
  rotate_left
  · have HZ := Lib.hid (show P.rule x y = 3 by rw [HR.out, N0.out, if_neg (by decide), N1.out, if_neg (by decide), hc2]; rfl)
    clear hc2
    go_wp2
    go_ret
    exact ⟨ret_int (by rw [HZ.out]; rfl), rfl⟩
  have N2 := Lib.hid hc2
  clear hc2
  go_upto_region 8 with fail
  go_cut [46] (fun c wx => c = .bool (P.consY x && !y0) ∧ w = wx)
  case first =>
    cases g4 : P.consY x with
    | false =>
      go_wp2_with (first | (go_at_call 265; refine (l9Vowel _ _).mono ?_; rintro e w' ⟨rfl, rfl⟩) | (go_at_call 266; refine (l9ConsonantY _ _ (by omega)).mono ?_; rintro e w' ⟨rfl, rfl⟩) | (go_at_call 267; refine (l9Ends _ _ _ (by omega)).mono ?_; rintro e w' ⟨rfl, rfl⟩) | (go_at_call 268; refine (l9Doubles _ _ hx).mono ?_; rintro e w' ⟨rfl, rfl⟩))
      go_meet
      exact ⟨by simp [g4], rfl⟩
    | true =>
      go_wp2_with (first | (go_at_call 265; refine (l9Vowel _ _).mono ?_; rintro e w' ⟨rfl, rfl⟩) | (go_at_call 266; refine (l9ConsonantY _ _ (by omega)).mono ?_; rintro e w' ⟨rfl, rfl⟩) | (go_at_call 267; refine (l9Ends _ _ _ (by omega)).mono ?_; rintro e w' ⟨rfl, rfl⟩) | (go_at_call 268; refine (l9Doubles _ _ hx).mono ?_; rintro e w' ⟨rfl, rfl⟩))
      go_meet
      exact ⟨by simp [g4], rfl⟩
  case rest =>
  obtain ⟨rfl, rfl⟩ := hcut
  cases hc3 : (P.consY x && !y0)
  rotate_left
  · have HZ := Lib.hid (show P.rule x y = 4 by rw [HR.out, N0.out, if_neg (by decide), N1.out, if_neg (by decide), N2.out, if_neg (by decide), hc3]; rfl)
    clear hc3
    go_wp2
    go_ret
    exact ⟨ret_int (by rw [HZ.out]; rfl), rfl⟩
  have N3 := Lib.hid hc3
  clear hc3
  go_upto_region 10 with fail
  go_cut [54] (fun c wx => c = .bool (decide (2 ≤ x.length) && (P.ends x [101] && (!P.ends x [101, 101] && (!P.ends x [111, 101] && (!P.ends x [121, 101] && P.vow (y[0]'hy)))))) ∧ w = wx)
  case first =>
    by_cases g4 : 2 ≤ x.length
    · have g' : (2 : Int) ≤ (x.length : Int) := by omega
      cases g6 : P.ends x [101] with
      | false =>
        go_wp2_with (first | (go_at_call 265; refine (l9Vowel _ _).mono ?_; rintro e w' ⟨rfl, rfl⟩) | (go_at_call 266; refine (l9ConsonantY _ _ (by omega)).mono ?_; rintro e w' ⟨rfl, rfl⟩) | (go_at_call 267; refine (l9Ends _ _ _ (by omega)).mono ?_; rintro e w' ⟨rfl, rfl⟩) | (go_at_call 268; refine (l9Doubles _ _ hx).mono ?_; rintro e w' ⟨rfl, rfl⟩))
        go_meet
        exact ⟨by simp [g4, g6], rfl⟩
      | true =>
        cases g8 : P.ends x [101, 101] with
        | true =>
          go_wp2_with (first | (go_at_call 265; refine (l9Vowel _ _).mono ?_; rintro e w' ⟨rfl, rfl⟩) | (go_at_call 266; refine (l9ConsonantY _ _ (by omega)).mono ?_; rintro e w' ⟨rfl, rfl⟩) | (go_at_call 267; refine (l9Ends _ _ _ (by omega)).mono ?_; rintro e w' ⟨rfl, rfl⟩) | (go_at_call 268; refine (l9Doubles _ _ hx).mono ?_; rintro e w' ⟨rfl, rfl⟩))
          go_meet
          exact ⟨by simp [g4, g6, g8], rfl⟩
        | false =>
          cases g10 : P.ends x [111, 101] with
          | true =>
            go_wp2_with (first | (go_at_call 265; refine (l9Vowel _ _).mono ?_; rintro e w' ⟨rfl, rfl⟩) | (go_at_call 266; refine (l9ConsonantY _ _ (by omega)).mono ?_; rintro e w' ⟨rfl, rfl⟩) | (go_at_call 267; refine (l9Ends _ _ _ (by omega)).mono ?_; rintro e w' ⟨rfl, rfl⟩) | (go_at_call 268; refine (l9Doubles _ _ hx).mono ?_; rintro e w' ⟨rfl, rfl⟩))
            go_meet
            exact ⟨by simp [g4, g6, g8, g10], rfl⟩
          | false =>
            cases g12 : P.ends x [121, 101] with
            | true =>
              go_wp2_with (first | (go_at_call 265; refine (l9Vowel _ _).mono ?_; rintro e w' ⟨rfl, rfl⟩) | (go_at_call 266; refine (l9ConsonantY _ _ (by omega)).mono ?_; rintro e w' ⟨rfl, rfl⟩) | (go_at_call 267; refine (l9Ends _ _ _ (by omega)).mono ?_; rintro e w' ⟨rfl, rfl⟩) | (go_at_call 268; refine (l9Doubles _ _ hx).mono ?_; rintro e w' ⟨rfl, rfl⟩))
              go_meet
              exact ⟨by simp [g4, g6, g8, g10, g12], rfl⟩
            | false =>
              go_wp2_with (first | (go_at_call 265; refine (l9Vowel _ _).mono ?_; rintro e w' ⟨rfl, rfl⟩) | (go_at_call 266; refine (l9ConsonantY _ _ (by omega)).mono ?_; rintro e w' ⟨rfl, rfl⟩) | (go_at_call 267; refine (l9Ends _ _ _ (by omega)).mono ?_; rintro e w' ⟨rfl, rfl⟩) | (go_at_call 268; refine (l9Doubles _ _ hx).mono ?_; rintro e w' ⟨rfl, rfl⟩))
              go_meet
              exact ⟨by simp [g4, g6, g8, g10, g12], rfl⟩
    · have g' : ¬ (2 : Int) ≤ (x.length : Int) := by omega
      go_wp2_with (first | (go_at_call 265; refine (l9Vowel _ _).mono ?_; rintro e w' ⟨rfl, rfl⟩) | (go_at_call 266; refine (l9ConsonantY _ _ (by omega)).mono ?_; rintro e w' ⟨rfl, rfl⟩) | (go_at_call 267; refine (l9Ends _ _ _ (by omega)).mono ?_; rintro e w' ⟨rfl, rfl⟩) | (go_at_call 268; refine (l9Doubles _ _ hx).mono ?_; rintro e w' ⟨rfl, rfl⟩))
      go_meet
      exact ⟨by simp [g4], rfl⟩
  case rest =>
  obtain ⟨rfl, rfl⟩ := hcut
  cases hc4 : (decide (2 ≤ x.length) && (P.ends x [101] && (!P.ends x [101, 101] && (!P.ends x [111, 101] && (!P.ends x [121, 101] && P.vow (y[0]'hy))))))
  rotate_left
  · have HZ := Lib.hid (show P.rule x y = 5 by rw [HR.out, N0.out, if_neg (by decide), N1.out, if_neg (by decide), N2.out, if_neg (by decide), N3.out, if_neg (by decide), hc4]; rfl)
    clear hc4
    go_wp2
    go_ret
    exact ⟨ret_int (by rw [HZ.out]; rfl), rfl⟩
  have N4 := Lib.hid hc4
  clear hc4
  go_upto_region 12 with fail
  go_cut [80] (fun c wx => c = .bool ((decide (P.vgroups x = 1) && P.closed x) && P.vow (y[0]'hy)) ∧ w = wx)
  case first =>
    cases g4 : (decide (P.vgroups x = 1) && P.closed x) with
    | false =>
      go_wp2_with (first | (go_at_call 265; refine (l9Vowel _ _).mono ?_; rintro e w' ⟨rfl, rfl⟩) | (go_at_call 266; refine (l9ConsonantY _ _ (by omega)).mono ?_; rintro e w' ⟨rfl, rfl⟩) | (go_at_call 267; refine (l9Ends _ _ _ (by omega)).mono ?_; rintro e w' ⟨rfl, rfl⟩) | (go_at_call 268; refine (l9Doubles _ _ hx).mono ?_; rintro e w' ⟨rfl, rfl⟩))
      go_meet
      exact ⟨by simp [g4], rfl⟩
    | true =>
      go_wp2_with (first | (go_at_call 265; refine (l9Vowel _ _).mono ?_; rintro e w' ⟨rfl, rfl⟩) | (go_at_call 266; refine (l9ConsonantY _ _ (by omega)).mono ?_; rintro e w' ⟨rfl, rfl⟩) | (go_at_call 267; refine (l9Ends _ _ _ (by omega)).mono ?_; rintro e w' ⟨rfl, rfl⟩) | (go_at_call 268; refine (l9Doubles _ _ hx).mono ?_; rintro e w' ⟨rfl, rfl⟩))
      go_meet
      exact ⟨by simp [g4], rfl⟩
  case rest =>
  obtain ⟨rfl, rfl⟩ := hcut
  cases hc5 : ((decide (P.vgroups x = 1) && P.closed x) && P.vow (y[0]'hy))
  rotate_left
  · have HZ := Lib.hid (show P.rule x y = 6 by rw [HR.out, N0.out, if_neg (by decide), N1.out, if_neg (by decide), N2.out, if_neg (by decide), N3.out, if_neg (by decide), N4.out, if_neg (by decide), hc5]; rfl)
    clear hc5
    go_wp2
    go_ret
    exact ⟨ret_int (by rw [HZ.out]; rfl), rfl⟩
  have N5 := Lib.hid hc5
  clear hc5
  have HZ := Lib.hid (show P.rule x y = 0 by rw [HR.out, N0.out, if_neg (by decide), N1.out, if_neg (by decide), N2.out, if_neg (by decide), N3.out, if_neg (by decide), N4.out, if_neg (by decide), N5.out]; rfl)
  go_wp2
  go_ret
  exact ⟨ret_int (by rw [HZ.out]; rfl), rfl⟩
theorem l9Join (x y : Str) (w : World) (hx : x.length ≤ 2 ^ 30) (hyl : y.length ≤ 2 ^ 30) (hy : 0 < y.length) :
    Calls Tryz.prog 221 #[.string (S x), .string (S y)] w fun e w' => e = .returned (.string (S (P.joinW x y))) ∧ w = w' := by
  have hj : P.joinW x y = (match P.rule x y with
    | 1 => x.take (x.length - 1) ++ [105, 101, 115]
    | 2 => x ++ [101, 115]
    | 3 => x.take (x.length - 2) ++ [121, 105, 110, 103]
    | 4 => (x.take (x.length - 1) ++ [105]) ++ y
    | 5 => x.take (x.length - 1) ++ y
    | 6 => (x ++ x.drop (x.length - 1)) ++ y
    | _ => x ++ y) := rfl
  have HJ := Lib.hid hj
  have hle := P.rule_le x y
  have HLN := Lib.hid (P.rule_len (w := x) (x := y))
  have H6 := Lib.hid (show P.rule x y = 6 → 3 ≤ x.length from P.rule_len6)
  clear hj
  go_enter Tryz.func221, Tryz.ntmps221
  go_wp2_with fail
  refine (l9Rule x y _ hx hy).mono ?_
  rintro e w1 ⟨rfl, rfl⟩
  obtain ⟨r, hr⟩ : ∃ r, P.rule x y = r := ⟨_, rfl⟩
  rw [hr] at hle HJ HLN H6 ⊢
  clear hr
  obtain rfl | rfl | rfl | rfl | rfl | rfl | rfl : r = 0 ∨ r = 1 ∨ r = 2 ∨ r = 3 ∨ r = 4 ∨ r = 5 ∨ r = 6 := by omega
  · go_wp2
    go_ret
    exact ⟨ret_str (by rw [HJ.out] <;> simp), rfl⟩
  · have hl := HLN.out.1 rfl
    have i1 : (x.length : Int) - 1 = ((x.length - 1 : Nat) : Int) := by omega
    have i2 : x.length - 1 ≤ x.length := by omega
    go_wp2
    go_ret
    exact ⟨ret_str (by rw [HJ.out] <;> simp), rfl⟩
  · go_wp2
    go_ret
    exact ⟨ret_str (by rw [HJ.out] <;> simp), rfl⟩
  · have hl := HLN.out.2.1 rfl
    have i1 : (x.length : Int) - 2 = ((x.length - 2 : Nat) : Int) := by omega
    have i2 : x.length - 2 ≤ x.length := by omega
    go_wp2
    go_ret
    exact ⟨ret_str (by rw [HJ.out] <;> simp), rfl⟩
  · have hl := HLN.out.2.2.1 rfl
    have i1 : (x.length : Int) - 1 = ((x.length - 1 : Nat) : Int) := by omega
    have i2 : x.length - 1 ≤ x.length := by omega
    go_wp2
    go_ret
    exact ⟨ret_str (by rw [HJ.out] <;> simp), rfl⟩
  · have hl := HLN.out.2.2.2 rfl
    have i1 : (x.length : Int) - 1 = ((x.length - 1 : Nat) : Int) := by omega
    have i2 : x.length - 1 ≤ x.length := by omega
    go_wp2
    go_ret
    exact ⟨ret_str (by rw [HJ.out] <;> simp), rfl⟩
  · have hl := H6.out rfl
    have i1 : (x.length : Int) - 1 = ((x.length - 1 : Nat) : Int) := by omega
    have i2 : x.length - 1 ≤ x.length := by omega
    go_wp2
    go_ret
    exact ⟨ret_str (by rw [HJ.out] <;> simp), rfl⟩
theorem spec_joinSuffix (x y : Str) (w : World) (hx : x.length ≤ 2 ^ 30) (hyl : y.length ≤ 2 ^ 30) :
    Calls Tryz.prog 193 #[.string (S x), .string (S y)] w fun e w' => e = .returned (.tuple #[.string (S (P.joinS x y).1), .bool (P.joinS x y).2]) ∧ w = w' := by
  have hj : P.joinS x y = (if P.isWord x && P.isWord y then (if 24 < (P.joinW x y).length then ([], false) else (P.joinW x y, true)) else ([], false)) := rfl
  have HYL := Lib.hid (show P.isWord y = true → 0 < y.length from fun h => by have := P.isWord_len h; omega)
  have HJL := Lib.hid (P.joinW_len x y)
  cases hqx : P.isWord x with
  | false =>
    have HJ := Lib.hid (show P.joinS x y = ([], false) by rw [hj, hqx]; rfl)
    clear hj
    go_enter Tryz.func193, Tryz.ntmps193
    go_wp2_with (go_at_call 220; refine (l9Word _ _ (by omega)).mono ?_; rintro e w' ⟨rfl, rfl⟩)
    go_ret2
    exact ⟨by rw [HJ.out]; rfl, rfl⟩
  | true =>
    cases hqy : P.isWord y with
    | false =>
      have HJ := Lib.hid (show P.joinS x y = ([], false) by rw [hj, hqx, hqy]; rfl)
      clear hj
      go_enter Tryz.func193, Tryz.ntmps193
      go_wp2_with (go_at_call 220; refine (l9Word _ _ (by omega)).mono ?_; rintro e w' ⟨rfl, rfl⟩)
      go_ret2
      exact ⟨by rw [HJ.out]; rfl, rfl⟩
    | true =>
      rw [hqx, hqy] at hj
      have hy0 := HYL.out hqy
      by_cases h24 : 24 < (P.joinW x y).length
      · have HJ := Lib.hid (show P.joinS x y = ([], false) by rw [hj, if_pos h24]; rfl)
        have i1 : (24 : Int) < ((P.joinW x y).length : Int) := by omega
        clear hj
        go_enter Tryz.func193, Tryz.ntmps193
        go_wp2_with (first | (go_at_call 220; refine (l9Word _ _ (by omega)).mono ?_; rintro e w' ⟨rfl, rfl⟩) | (go_at_call 221; refine (l9Join _ _ _ hx hyl hy0).mono ?_; rintro e w' ⟨rfl, rfl⟩))
        go_ret2
        exact ⟨by rw [HJ.out]; rfl, rfl⟩
      · have HJ := Lib.hid (show P.joinS x y = (P.joinW x y, true) by rw [hj, if_neg h24]; rfl)
        have i1 : ¬ (24 : Int) < ((P.joinW x y).length : Int) := by omega
        clear hj
        go_enter Tryz.func193, Tryz.ntmps193
        go_wp2_with (first | (go_at_call 220; refine (l9Word _ _ (by omega)).mono ?_; rintro e w' ⟨rfl, rfl⟩) | (go_at_call 221; refine (l9Join _ _ _ hx hyl hy0).mono ?_; rintro e w' ⟨rfl, rfl⟩))
        go_ret2
        exact ⟨by rw [HJ.out]; rfl, rfl⟩
end Go.Proofs.YtmlklnimoknojaaGreatDoor
