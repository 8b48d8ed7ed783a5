/- Walks: numbers and checksums. -/
import Derived.Test.YtbjfpceoamiaoaaDoorStr1
namespace Go.Proofs.YtbjfpceoamiaoaaDoor
open Go Go.RowKit
set_option maxHeartbeats 400000
set_option maxRecDepth 100000
theorem num_digit (n : Nat) (h : n < 10) : (List.take (n + 1 - n) (List.drop n [48, 49, 50, 51, 52, 53, 54, 55, 56, 57]) : List UInt8) = [UInt8.ofNat (48 + n)] := by
  match n, h with
  | 0, _ => rfl | 1, _ => rfl | 2, _ => rfl | 3, _ => rfl | 4, _ => rfl | 5, _ => rfl | 6, _ => rfl | 7, _ => rfl | 8, _ => rfl | 9, _ => rfl
def NumPost (n : Nat) (w : World) (e : Ending) (w' : World) : Prop := e = .returned (.string (S (P.num n))) ∧ ∃ k, w' = w.drewN k
theorem dec_small (n : Nat) (h : n < 10) : Lib.decDigits n = List.take 1 (List.drop n [48, 49, 50, 51, 52, 53, 54, 55, 56, 57]) := by
  rw [Lib.decDigits_one h, ← num_digit n h, show n + 1 - n = 1 from by omega]
theorem dec_big (n : Nat) (h : ¬ n < 10) : Lib.decDigits n = Lib.decDigits (n / 10) ++ List.take 1 (List.drop (n % 10) [48, 49, 50, 51, 52, 53, 54, 55, 56, 57]) := by
  rw [← dec_small _ (Nat.mod_lt _ (by omega)), Lib.decDigits_one (Nat.mod_lt _ (by omega))]
  rw [Lib.decDigits, dif_neg h]
theorem l1Num_nat (n : Nat) : ∀ (w : World), n < 2 ^ 62 →
    Calls Tryd.prog 64 #[.int .i64 n] w (NumPost n w) := by
  induction n using Nat.strongRecOn with
  | _ n ih =>
    intro w hn
    have ih2 : ∀ m : Int, 0 ≤ m → m < n → ∀ w : World, Calls Tryd.prog 64 #[.int .i64 m] w fun e w' => e = .returned (.string (S (P.num m.toNat))) ∧ ∃ k, w' = w.drewN k := fun m h0 hm w => by
      obtain ⟨k, rfl⟩ := Int.eq_ofNat_of_zero_le h0
      exact ih k (by omega) w (by omega)
    have HI := Lib.hid ih2; clear ih ih2
    by_cases h : n < 10
    · have HD := Lib.hid (dec_small n h)
      go_enter Tryd.func64, Tryd.ntmps64
      go_wp2_with fail
      go_ret
      exact ⟨ret_str (by unfold P.num; exact HD.out.symm), 0, rfl⟩
    · have HD := Lib.hid (dec_big n h)
      have HQ := Lib.hid (show ((n : Int) / 10).toNat = n / 10 by omega)
      have hl3 : (P.num ((n : Int) / 10).toNat).length ≤ 20 := by rw [HQ.out]; exact P.num_len _ (by omega)
      go_enter Tryd.func64, Tryd.ntmps64
      go_wp2_with fail
      go_quiet ((go_at_call 64; exact Calls.quiet_of (HI.out _ (by omega) (by omega) _)))
      go_wp2
      go_ret
      exact ⟨ret_str (by unfold P.num; exact HD.out.symm), _, rfl⟩
theorem l1Num (n : Int) (w : World) (h0 : 0 ≤ n) (h : n < 4611686018427387904) :
    Calls Tryd.prog 64 #[.int .i64 n] w fun e w' => e = .returned (.string (S (P.num n.toNat))) ∧ ∃ k, w' = w.drewN k := by
  obtain ⟨m, rfl⟩ := Int.eq_ofNat_of_zero_le h0
  exact l1Num_nat m w (by omega)
theorem checksum (s : Str) (w : World) (hs : s.length ≤ maxLen) :
    Calls Tryd.prog 68 #[.string (S s)] w fun e w' => e = .returned (.tuple #[.int .i64 (if (s.length : Int) ≤ 4000 then P.sum s else 0), .bool (decide ((s.length : Int) ≤ 4000))]) ∧ w = w' := by
  unfold maxLen at hs
  by_cases h4 : (s.length : Int) ≤ 4000
  · rw [if_pos h4, decide_eq_true h4]
    go_enter Tryd.func68, Tryd.ntmps68
    go_wp2
    go_loop [4, 5, 11] (fun h _ i => ∃ k : Nat, k ≤ s.length ∧ i = .int .i64 k ∧ h = .int .i64 (P.sum (s.take k))) (fun _ _ i => s.length - (intOf i).toNat)
    case atStart => exact ⟨0, by omega, rfl, by simp [P.sum]⟩
    case round =>
      obtain ⟨k, hk, rfl, rfl⟩ := hrel
      have hb := sum_lt (s.take k)
      by_cases hlt : k < s.length
      · have hsn := sum_snoc s k hlt
        have HS := Lib.hid hsn; clear hsn
        have hc := s[k].toNat_lt
        generalize hg : P.sum (List.take k s) = g at *
        have HG := Lib.hid hg; clear hg
        go_wp2
        go_round
        case rel => exact ⟨k + 1, by omega, by go_num, by rw [HS.out]; go_num⟩
        case measure => simp [intOf]; omega
      · go_wp2
        go_ret2
        exact ⟨by rw [List.take_of_length_le (l := s) (i := k) (by omega)]; rfl, rfl⟩
  · rw [if_neg h4, decide_eq_false h4]
    go_enter Tryd.func68, Tryd.ntmps68
    go_wp2
    go_ret2
    exact ⟨rfl, rfl⟩
theorem l1Seal (s : Str) (w : World) (hs : s.length ≤ 2 ^ 62) :
    Calls Tryd.prog 63 #[.string (S s)] w fun e w' => e = .returned (.string (S (P.sealed s))) ∧ ∃ k, w' = w.drewN k := by
  have hl := sum_lt s
  have hl2 := P.num_len (P.sum s) (by omega)
  go_enter Tryd.func63, Tryd.ntmps63
  go_wp2_with (first | (go_at_call 74; refine (l1Sum _ _ (by unfold maxLen; omega)).mono ?_; rintro e w' ⟨rfl, rfl⟩) | (go_at_call 64; refine (l1Num _ _ (by omega) (by omega)).mono ?_; rintro e w' ⟨rfl, k, rfl⟩; rw [Int.toNat_natCast]))
  go_ret
  exact ⟨ret_str (by simp [P.sealed, P.num]), _, rfl⟩
end Go.Proofs.YtbjfpceoamiaoaaDoor
