/- Walks: spelling (reference). -/
import Derived.Deep.DeepCutAuto
import Derived.Test.YtmlklnimoknojaaGreatDoorPlainFmt
import Derived.Test.YtmlklnimoknojaaGreatDoorOutD
namespace Go.Proofs.YtmlklnimoknojaaGreatDoor
namespace P
theorem vgroupsN_le (s : Bs) : ∀ k : Nat, vgroupsN s k ≤ k
  | 0 => Nat.le_refl _
  | k + 1 => by have := vgroupsN_le s k; unfold vgroupsN; split <;> omega
theorem vgroupsN_yes {s : Bs} {k : Nat} (h : vbegins s k = true) : vgroupsN s (k + 1) = vgroupsN s k + 1 := by
  conv => lhs; unfold vgroupsN
  rw [if_pos h]
theorem vgroupsN_no {s : Bs} {k : Nat} (h : vbegins s k = false) : vgroupsN s (k + 1) = vgroupsN s k := by
  conv => lhs; unfold vgroupsN
  rw [if_neg (by rw [h]; decide)]
  rfl
theorem getD_at {s : Bs} {k : Nat} (h : k < s.length) : s.getD k 0 = s[k] := by
  rw [List.getD_eq_getElem?_getD, List.getElem?_eq_getElem h]; rfl
theorem back_at {s : Bs} {n k : Nat} (h : n + k = s.length) (hk : 1 ≤ k) : ∃ hn : n < s.length, back s k = s[n] := by
  refine ⟨by omega, ?_⟩
  unfold back
  rw [show s.length - k = n by omega, getD_at (by omega)]
theorem vbegins_0 {s : Bs} (h : 0 < s.length) : vbegins s 0 = vow s[0] := by
  unfold vbegins
  rw [getD_at h]
  simp
theorem vbegins_s {s : Bs} {k : Nat} (h : k + 1 < s.length) : vbegins s (k + 1) = (vow s[k + 1] && !vow (s[k]'(by omega))) := by
  unfold vbegins
  rw [getD_at h, Nat.add_sub_cancel, getD_at (show k < s.length by omega)]
  simp
end P
open Go Go.RowKit
set_option maxHeartbeats 2000000
set_option maxRecDepth 100000
theorem u8_beq (b : UInt8) (n : Nat) (hn : n < 256) : ((b.toNat : Int) == (n : Int)) = (b == UInt8.ofNat n) := by
  rw [Bool.eq_iff_iff]
  simp only [beq_iff_eq]
  constructor
  · intro h
    apply UInt8.toNat_inj.1
    rw [UInt8.toNat_ofNat_of_lt' hn]; omega
  · intro h
    rw [h, UInt8.toNat_ofNat_of_lt' hn]
theorem l9Vowel (b : UInt8) (w : World) :
    Calls Tryz.prog 265 #[.int .u8 b.toNat] w fun e w' => e = .returned (.bool (P.vow b)) ∧ w = w' := by
  have hv : P.vow b = (b == 97 || (b == 101 || (b == 105 || (b == 111 || b == 117)))) := rfl
  obtain ⟨q0, h0⟩ : ∃ q, (b == 97) = q := ⟨_, rfl⟩
  obtain ⟨q1, h1⟩ : ∃ q, (b == 101) = q := ⟨_, rfl⟩
  obtain ⟨q2, h2⟩ : ∃ q, (b == 105) = q := ⟨_, rfl⟩
  obtain ⟨q3, h3⟩ : ∃ q, (b == 111) = q := ⟨_, rfl⟩
  obtain ⟨q4, h4⟩ : ∃ q, (b == 117) = q := ⟨_, rfl⟩
  have f0 : ((b.toNat : Int) == 97) = q0 := (u8_beq b 97 (by decide)).trans h0
  have f1 : ((b.toNat : Int) == 101) = q1 := (u8_beq b 101 (by decide)).trans h1
  have f2 : ((b.toNat : Int) == 105) = q2 := (u8_beq b 105 (by decide)).trans h2
  have f3 : ((b.toNat : Int) == 111) = q3 := (u8_beq b 111 (by decide)).trans h3
  have f4 : ((b.toNat : Int) == 117) = q4 := (u8_beq b 117 (by decide)).trans h4
  rw [h0, h1, h2, h3, h4] at hv
  have HV := Lib.hid hv
  clear h0 h1 h2 h3 h4 hv
  cases q0 with
  | true =>
    go_enter Tryz.func265, Tryz.ntmps265
    go_wp2
    go_ret
    exact ⟨ret_bool (by rw [HV.out]; rfl), rfl⟩
  | false =>
  cases q1 with
  | true =>
    go_enter Tryz.func265, Tryz.ntmps265
    go_wp2
    go_ret
    exact ⟨ret_bool (by rw [HV.out]; rfl), rfl⟩
  | false =>
  cases q2 with
  | true =>
    go_enter Tryz.func265, Tryz.ntmps265
    go_wp2
    go_ret
    exact ⟨ret_bool (by rw [HV.out]; rfl), rfl⟩
  | false =>
  cases q3 with
  | true =>
    go_enter Tryz.func265, Tryz.ntmps265
    go_wp2
    go_ret
    exact ⟨ret_bool (by rw [HV.out]; rfl), rfl⟩
  | false =>
    go_enter Tryz.func265, Tryz.ntmps265
    go_wp2
    go_ret
    exact ⟨ret_bool (by rw [HV.out]; rfl), rfl⟩
theorem l9Groups (s : Str) (w : World) (hs : s.length ≤ 2 ^ 30) :
    Calls Tryz.prog 283 #[.string (S s)] w fun e w' => e = .returned (.int .i64 (P.vgroups s)) ∧ w = w' := by
  go_enter Tryz.func283, Tryz.ntmps283
  go_wp2
  go_loop [3, 4] (fun n i => ∃ k : Nat, k ≤ s.length ∧ i = .int .i64 k ∧ n = .int .i64 (P.vgroupsN s k)) (fun _ i => s.length - (intOf i).toNat)
  case atStart => exact ⟨0, Nat.zero_le _, rfl, rfl⟩
  case round =>
    obtain ⟨k, hk, rfl, rfl⟩ := hrel
    have hg := P.vgroupsN_le s k
    by_cases hlt : k < s.length
    · have i1 : (k : Int) < (s.length : Int) := by omega
      have HY := Lib.hid (P.vgroupsN_yes (s := s) (k := k)); have HN := Lib.hid (P.vgroupsN_no (s := s) (k := k))
      generalize P.vgroupsN s k = gn at *
      rcases k with _ | m
      · rw [P.vbegins_0 hlt] at HY HN
        obtain ⟨q, hq⟩ : ∃ q, P.vow (s[0]'hlt) = q := ⟨_, rfl⟩
        rw [hq] at HY HN
        cases q
        · have HZ := Lib.hid (HN.out rfl)
          clear HY HN
          go_wp2_with (go_at_call 265; refine (l9Vowel _ _).mono ?_; rintro e w' ⟨rfl, rfl⟩)
          go_round
          case rel => exact ⟨1, by omega, by go_num, by rw [show (1 : Nat) = 0 + 1 from rfl, HZ.out]⟩
          case measure => simp [intOf]; omega
        · have HZ := Lib.hid (HY.out rfl)
          clear HY HN
          go_wp2_with (go_at_call 265; refine (l9Vowel _ _).mono ?_; rintro e w' ⟨rfl, rfl⟩)
          go_round
          case rel => exact ⟨1, by omega, by go_num, by rw [show (1 : Nat) = 0 + 1 from rfl, HZ.out]; go_num⟩
          case measure => simp [intOf]; omega
      · rw [P.vbegins_s hlt] at HY HN
        have hm : m < s.length := by omega
        have i2 : (((m + 1 : Nat) : Int) == 0) = false := by rw [beq_eq_false_iff_ne]; omega
        have i3 : ((m + 1 : Nat) : Int) - 1 = (m : Int) := by omega
        obtain ⟨q, hq⟩ : ∃ q, P.vow (s[m + 1]'hlt) = q := ⟨_, rfl⟩
        obtain ⟨r, hr⟩ : ∃ r, P.vow (s[m]'hm) = r := ⟨_, rfl⟩
        rw [hq, hr] at HY HN
        cases q
        · have HZ := Lib.hid (HN.out rfl)
          clear HY HN
          go_wp2_with (go_at_call 265; refine (l9Vowel _ _).mono ?_; rintro e w' ⟨rfl, rfl⟩)
          go_round
          case rel => exact ⟨m + 1 + 1, by omega, by go_num, by rw [HZ.out]⟩
          case measure => simp [intOf]; omega
        · cases r
          · have HZ := Lib.hid (HY.out rfl)
            clear HY HN
            go_wp2_with (go_at_call 265; refine (l9Vowel _ _).mono ?_; rintro e w' ⟨rfl, rfl⟩)
            go_round
            case rel => exact ⟨m + 1 + 1, by omega, by go_num, by rw [HZ.out]; go_num⟩
            case measure => simp [intOf]; omega
          · have HZ := Lib.hid (HN.out rfl)
            clear HY HN
            go_wp2_with (go_at_call 265; refine (l9Vowel _ _).mono ?_; rintro e w' ⟨rfl, rfl⟩)
            go_round
            case rel => exact ⟨m + 1 + 1, by omega, by go_num, by rw [HZ.out]⟩
            case measure => simp [intOf]; omega
    · have i1 : ¬ (k : Int) < (s.length : Int) := by omega
      have HE := Lib.hid (show P.vgroups s = P.vgroupsN s k by unfold P.vgroups; rw [show s.length = k by omega])
      go_wp2
      go_ret
      exact ⟨ret_int (by rw [HE.out]), rfl⟩
theorem l9Ends (s e : Str) (w : World) (hs : s.length ≤ 2 ^ 40) :
    Calls Tryz.prog 267 #[.string (S s), .string (S e)] w fun e' w' => e' = .returned (.bool (P.ends s e)) ∧ w = w' := by
  have HE := Lib.hid (P.ends_raw s e)
  by_cases h : e.length ≤ s.length
  · have i1 : (e.length : Int) ≤ (s.length : Int) := by omega
    have i2 : (s.length : Int) - (e.length : Int) = ((s.length - e.length : Nat) : Int) := by omega
    have i3 : s.length - e.length ≤ s.length := by omega
    have i4 : IntKind.i64.wrap ((s.length : Int) - (e.length : Int)) = ((s.length - e.length : Nat) : Int) := by rw [IntKind.wrap_i64]; omega
    go_enter Tryz.func267, Tryz.ntmps267
    go_wp2
    go_ret
    exact ⟨ret_bool (by rw [← HE.out, decide_eq_true h]; simp), rfl⟩
  · have i1 : ¬ (e.length : Int) ≤ (s.length : Int) := by omega
    go_enter Tryz.func267, Tryz.ntmps267
    go_wp2
    go_ret
    exact ⟨ret_bool (by rw [← HE.out, decide_eq_false h]; simp), rfl⟩
theorem l9ConsonantY (s : Str) (w : World) (hs : s.length ≤ 2 ^ 40) :
    Calls Tryz.prog 266 #[.string (S s)] w fun e w' => e = .returned (.bool (P.consY s)) ∧ w = w' := by
  have HC := Lib.hid (show P.consY s = (decide (2 ≤ s.length) && (P.back s 1 == 121 && !P.vow (P.back s 2))) from rfl)
  by_cases h : 2 ≤ s.length
  · obtain ⟨n2, hn2⟩ : ∃ n, n + 2 = s.length := ⟨s.length - 2, by omega⟩
    obtain ⟨l1, b1⟩ := P.back_at (s := s) (n := n2 + 1) (k := 1) (by omega) (by omega)
    obtain ⟨l2, b2⟩ := P.back_at (s := s) (n := n2) (k := 2) (by omega) (by omega)
    rw [b1, b2, decide_eq_true h] at HC
    have i1 : (2 : Int) ≤ (s.length : Int) := by omega
    have i2 : (s.length : Int) - 1 = ((n2 + 1 : Nat) : Int) := by omega
    have i3 : (s.length : Int) - 2 = (n2 : Int) := by omega
    have i4 : n2 + 1 < s.length := l1
    have i5 : n2 < s.length := l2
    obtain ⟨q, hq⟩ : ∃ q, (s[n2 + 1]'l1 == 121) = q := ⟨_, rfl⟩
    have f0 : (((s[n2 + 1]'l1).toNat : Int) == 121) = q := (u8_beq _ 121 (by decide)).trans hq
    rw [hq] at HC
    clear b1 b2 hq hn2 h
    cases q
    · go_enter Tryz.func266, Tryz.ntmps266
      go_wp2_with (go_at_call 265; refine (l9Vowel _ _).mono ?_; rintro e w' ⟨rfl, rfl⟩)
      go_ret
      exact ⟨ret_bool (by rw [HC.out]; rfl), rfl⟩
    · go_enter Tryz.func266, Tryz.ntmps266
      go_wp2_with (go_at_call 265; refine (l9Vowel _ _).mono ?_; rintro e w' ⟨rfl, rfl⟩)
      go_ret
      exact ⟨ret_bool (by rw [HC.out]; rfl), rfl⟩
  · have i1 : ¬ (2 : Int) ≤ (s.length : Int) := by omega
    go_enter Tryz.func266, Tryz.ntmps266
    go_wp2
    go_ret
    exact ⟨ret_bool (by rw [HC.out, decide_eq_false h]; rfl), rfl⟩
theorem l9Word (s : Str) (w : World) (hs : s.length ≤ 2 ^ 40) :
    Calls Tryz.prog 220 #[.string (S s)] w fun e w' => e = .returned (.bool (P.isWord s)) ∧ w = w' := by
  have HF := Lib.hid (show P.isWord s = (s.all P.lower && decide (1 ≤ (s.length : Int) ∧ (s.length : Int) ≤ 24)) from rfl)
  go_enter Tryz.func220, Tryz.ntmps220
  go_wp2
  go_loop [3] (fun i => ∃ j : Nat, j ≤ s.length ∧ i = .int .i64 j ∧ (s.take j).all P.lower = true) (fun i => s.length - (intOf i).toNat)
  case atStart => exact ⟨0, by omega, rfl, by simp⟩
  case round =>
    obtain ⟨j, hj, rfl, ha⟩ := hrel
    have HA := Lib.hid ha; clear ha
    by_cases hlt : j < s.length
    · have i1 : (j : Int) < (s.length : Int) := by omega
      rcases Int.lt_or_le (s[j].toNat : Int) 97 with h1 | h1
      · have H := Lib.hid h1
        go_wp2
        go_ret
        exact ⟨ret_bool (by rw [HF.out, P.all_false hlt (P.lower_no (.inl H.out))]; simp), rfl⟩
      · rcases Int.lt_or_le 122 (s[j].toNat : Int) with h2 | h2
        · have H := Lib.hid h2
          go_wp2
          go_ret
          exact ⟨ret_bool (by rw [HF.out, P.all_false hlt (P.lower_no (.inr H.out))]; simp), rfl⟩
        · have HL := Lib.hid (P.lower_yes h1 h2)
          go_wp2
          go_round
          case rel => exact ⟨j + 1, by omega, by go_num, all_snoc j hlt HA.out HL.out⟩
          case measure => simp [intOf]; omega
    · have i1 : ¬ (j : Int) < (s.length : Int) := by omega
      have HT := Lib.hid (show s.all P.lower = true by rw [← List.take_of_length_le (l := s) (i := j) (by omega)]; exact HA.out)
      go_wp2_with fail
      refine (l1In _ _ _ _).mono ?_
      rintro e w1 ⟨rfl, rfl⟩
      go_wp2
      go_ret
      exact ⟨ret_bool (by rw [HF.out, HT.out]; simp), rfl⟩
end Go.Proofs.YtmlklnimoknojaaGreatDoor
