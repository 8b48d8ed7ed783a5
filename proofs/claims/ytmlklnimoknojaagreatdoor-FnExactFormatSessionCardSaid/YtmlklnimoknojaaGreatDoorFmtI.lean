/- Walks: the rule of a suffix, the joined word (program). -/
import Derived.Deep.DeepCutAuto
import Derived.Deep.CutBlock
import Derived.Test.YtmlklnimoknojaaGreatDoorSpellI2
import Derived.Deep.RegionHeld
import Derived.BigQuiet
import Derived.Deep.QuietTactic
import Derived.Test.YtmlklnimoknojaaGreatDoorFmtS3
namespace Go.Proofs.YtmlklnimoknojaaGreatDoor
open Go Go.RowKit
set_option maxHeartbeats 4000000
set_option maxRecDepth 100000
theorem impl_joinSuffix (x y : Str) (w : World) (hx : x.length ≤ 2 ^ 30) (hyl : y.length ≤ 2 ^ 30) :
    Calls Tryz.prog 282 #[.string (S x), .string (S y)] w fun e w' => e = .returned (.tuple #[.string (S (P.joinS x y).1), .bool (P.joinS x y).2]) ∧ Below w.heap.size w w' := by
  have hj : P.joinS x y = (if P.isWord x && P.isWord y then (if 24 < (P.joinW x y).length then ([], false) else (P.joinW x y, true)) else ([], false)) := rfl
  have HYL := Lib.hid (show P.isWord y = true → 0 < y.length from fun h => by have := P.isWord_len h; omega)
  have HJL := Lib.hid (P.joinW_len x y)
  cases hqx : P.isWord x with
  | false =>
    have HJ := Lib.hid (show P.joinS x y = ([], false) by rw [hj, hqx]; rfl)
    clear hj
    go_enter Tryz.func282, Tryz.ntmps282
    go_wp2_with (go_at_call 289; refine (isWordI _ _ (by omega)).mono ?_; rintro e w' ⟨rfl, rfl⟩)
    go_ret2
    exact ⟨by rw [HJ.out]; rfl, Below.refl _ _⟩
  | true =>
    cases hqy : P.isWord y with
    | false =>
      have HJ := Lib.hid (show P.joinS x y = ([], false) by rw [hj, hqx, hqy]; rfl)
      clear hj
      go_enter Tryz.func282, Tryz.ntmps282
      go_wp2_with (go_at_call 289; refine (isWordI _ _ (by omega)).mono ?_; rintro e w' ⟨rfl, rfl⟩)
      go_ret2
      exact ⟨by rw [HJ.out]; rfl, Below.refl _ _⟩
    | true =>
      rw [hqx, hqy] at hj
      have hy0 := HYL.out hqy
      have hjw : P.joinW x y = (match P.rule x y with
        | 1 => x.take (x.length - 1) ++ [105, 101, 115]
        | 2 => x ++ [101, 115]
        | 3 => x.take (x.length - 2) ++ [121, 105, 110, 103]
        | 4 => (x.take (x.length - 1) ++ [105]) ++ y
        | 5 => x.take (x.length - 1) ++ y
        | 6 => (x ++ x.drop (x.length - 1)) ++ y
        | _ => x ++ y) := rfl
      have HJ := Lib.hid hjw
      have hle := P.rule_le x y
      have HLN := Lib.hid (P.rule_len (w := x) (x := y))
      have H6 := Lib.hid (show P.rule x y = 6 → 3 ≤ x.length from P.rule_len6)
      have HJS := Lib.hid (show P.joinS x y = if 24 < (P.joinW x y).length then ([], false) else (P.joinW x y, true) from hj)
      clear hjw hj
      go_enter Tryz.func282, Tryz.ntmps282
      go_wp2_with (go_at_call 289; refine (isWordI _ _ (by omega)).mono ?_; rintro e w' ⟨rfl, rfl⟩)
      refine (impl_rule x y _ hx hy0).mono ?_
      rintro e w1 ⟨rfl, hb⟩
      have HB := Lib.hid hb
      clear hb
      obtain ⟨r, hr⟩ : ∃ r, P.rule x y = r := ⟨_, rfl⟩
      rw [hr] at hle HJ HLN H6
      rw [hr]
      clear hr
      obtain rfl | rfl | rfl | rfl | rfl | rfl | rfl : r = 0 ∨ r = 1 ∨ r = 2 ∨ r = 3 ∨ r = 4 ∨ r = 5 ∨ r = 6 := by omega
      · go_upto_region 17 with fail
        have HV := Lib.hid (show P.joinW x y = x ++ y by rw [HJ.out] <;> simp)
        rw [HV.out] at HJS
        generalize x ++ y = z at *
        by_cases h24 : 24 < z.length
        · have HF := Lib.hid (HJS.out.trans (if_pos h24))
          have i7 : (24 : Int) < (z.length : Int) := by omega
          clear h24
          go_wp2
          go_ret2
          exact ⟨by rw [HF.out]; rfl, HB.out⟩
        · have HF := Lib.hid (HJS.out.trans (if_neg h24))
          have i7 : ¬ (24 : Int) < (z.length : Int) := by omega
          clear h24
          go_wp2
          go_ret2
          exact ⟨by rw [HF.out] <;> rfl, HB.out⟩
      · have hl := HLN.out.1 rfl
        have i1 : (x.length : Int) - 1 = ((x.length - 1 : Nat) : Int) := by omega
        have i2 : x.length - 1 ≤ x.length := by omega
        go_upto_region 17 with fail
        have HV := Lib.hid (show P.joinW x y = x.take (x.length - 1) ++ [105, 101, 115] by rw [HJ.out] <;> simp)
        rw [HV.out] at HJS
        generalize x.take (x.length - 1) ++ [105, 101, 115] = z at *
        by_cases h24 : 24 < z.length
        · have HF := Lib.hid (HJS.out.trans (if_pos h24))
          have i7 : (24 : Int) < (z.length : Int) := by omega
          clear h24
          go_wp2
          go_ret2
          exact ⟨by rw [HF.out]; rfl, HB.out⟩
        · have HF := Lib.hid (HJS.out.trans (if_neg h24))
          have i7 : ¬ (24 : Int) < (z.length : Int) := by omega
          clear h24
          go_wp2
          go_ret2
          exact ⟨by rw [HF.out] <;> rfl, HB.out⟩
      · go_upto_region 17 with fail
        have HV := Lib.hid (show P.joinW x y = x ++ [101, 115] by rw [HJ.out] <;> simp)
        rw [HV.out] at HJS
        generalize x ++ [101, 115] = z at *
        by_cases h24 : 24 < z.length
        · have HF := Lib.hid (HJS.out.trans (if_pos h24))
          have i7 : (24 : Int) < (z.length : Int) := by omega
          clear h24
          go_wp2
          go_ret2
          exact ⟨by rw [HF.out]; rfl, HB.out⟩
        · have HF := Lib.hid (HJS.out.trans (if_neg h24))
          have i7 : ¬ (24 : Int) < (z.length : Int) := by omega
          clear h24
          go_wp2
          go_ret2
          exact ⟨by rw [HF.out] <;> rfl, HB.out⟩
      · have hl := HLN.out.2.1 rfl
        have i1 : (x.length : Int) - 2 = ((x.length - 2 : Nat) : Int) := by omega
        have i2 : x.length - 2 ≤ x.length := by omega
        go_upto_region 17 with fail
        have HV := Lib.hid (show P.joinW x y = x.take (x.length - 2) ++ [121, 105, 110, 103] by rw [HJ.out] <;> simp)
        rw [HV.out] at HJS
        generalize x.take (x.length - 2) ++ [121, 105, 110, 103] = z at *
        by_cases h24 : 24 < z.length
        · have HF := Lib.hid (HJS.out.trans (if_pos h24))
          have i7 : (24 : Int) < (z.length : Int) := by omega
          clear h24
          go_wp2
          go_ret2
          exact ⟨by rw [HF.out]; rfl, HB.out⟩
        · have HF := Lib.hid (HJS.out.trans (if_neg h24))
          have i7 : ¬ (24 : Int) < (z.length : Int) := by omega
          clear h24
          go_wp2
          go_ret2
          exact ⟨by rw [HF.out] <;> rfl, HB.out⟩
      · have hl := HLN.out.2.2.1 rfl
        have i1 : (x.length : Int) - 1 = ((x.length - 1 : Nat) : Int) := by omega
        have i2 : x.length - 1 ≤ x.length := by omega
        go_upto_region 17 with fail
        have HV := Lib.hid (show P.joinW x y = x.take (x.length - 1) ++ 105 :: y by rw [HJ.out] <;> simp)
        rw [HV.out] at HJS
        generalize x.take (x.length - 1) ++ 105 :: y = z at *
        by_cases h24 : 24 < z.length
        · have HF := Lib.hid (HJS.out.trans (if_pos h24))
          have i7 : (24 : Int) < (z.length : Int) := by omega
          clear h24
          go_wp2
          go_ret2
          exact ⟨by rw [HF.out]; rfl, HB.out⟩
        · have HF := Lib.hid (HJS.out.trans (if_neg h24))
          have i7 : ¬ (24 : Int) < (z.length : Int) := by omega
          clear h24
          go_wp2
          go_ret2
          exact ⟨by rw [HF.out] <;> rfl, HB.out⟩
      · have hl := HLN.out.2.2.2 rfl
        have i1 : (x.length : Int) - 1 = ((x.length - 1 : Nat) : Int) := by omega
        have i2 : x.length - 1 ≤ x.length := by omega
        go_upto_region 17 with fail
        have HV := Lib.hid (show P.joinW x y = x.take (x.length - 1) ++ y by rw [HJ.out] <;> simp)
        rw [HV.out] at HJS
        generalize x.take (x.length - 1) ++ y = z at *
        by_cases h24 : 24 < z.length
        · have HF := Lib.hid (HJS.out.trans (if_pos h24))
          have i7 : (24 : Int) < (z.length : Int) := by omega
          clear h24
          go_wp2
          go_ret2
          exact ⟨by rw [HF.out]; rfl, HB.out⟩
        · have HF := Lib.hid (HJS.out.trans (if_neg h24))
          have i7 : ¬ (24 : Int) < (z.length : Int) := by omega
          clear h24
          go_wp2
          go_ret2
          exact ⟨by rw [HF.out] <;> rfl, HB.out⟩
      · have hl := H6.out rfl
        have i1 : (x.length : Int) - 1 = ((x.length - 1 : Nat) : Int) := by omega
        have i2 : x.length - 1 ≤ x.length := by omega
        go_upto_region 17 with fail
        have HV := Lib.hid (show P.joinW x y = x ++ (x.drop (x.length - 1) ++ y) by rw [HJ.out] <;> simp)
        rw [HV.out] at HJS
        generalize x ++ (x.drop (x.length - 1) ++ y) = z at *
        by_cases h24 : 24 < z.length
        · have HF := Lib.hid (HJS.out.trans (if_pos h24))
          have i7 : (24 : Int) < (z.length : Int) := by omega
          clear h24
          go_wp2
          go_ret2
          exact ⟨by rw [HF.out]; rfl, HB.out⟩
        · have HF := Lib.hid (HJS.out.trans (if_neg h24))
          have i7 : ¬ (24 : Int) < (z.length : Int) := by omega
          clear h24
          go_wp2
          go_ret2
          exact ⟨by rw [HF.out] <;> rfl, HB.out⟩
end Go.Proofs.YtmlklnimoknojaaGreatDoor

namespace Go.Proofs.YtmlklnimoknojaaGreatDoor
open Go Go.RowKit
set_option maxHeartbeats 2000000
set_option maxRecDepth 100000
theorem isPrintable (s : Str) (w : World) (hs : s.length ≤ 2 ^ 40) :
    Calls Tryz.prog 124 #[.string (S s)] w fun e w' => e = .returned (.bool (s.all P.prn)) ∧ w = w' := by
  go_enter Tryz.func124, Tryz.ntmps124
  go_wp2
  go_loop [3, 6] (fun _ i => ∃ k : Nat, k ≤ s.length ∧ i = .int .i64 k ∧ (s.take k).all P.prn = true) (fun _ i => s.length - (intOf i).toNat)
  case atStart => exact ⟨0, by omega, rfl, by simp⟩
  case round =>
    obtain ⟨k, hk, rfl, ha⟩ := hrel
    have HA := Lib.hid ha; clear ha
    by_cases hlt : k < s.length
    · rcases Int.lt_or_le (s[k].toNat : Int) 32 with h1 | h1
      · have H := Lib.hid h1
        go_wp2
        go_ret
        exact ⟨ret_bool (P.pall_false hlt (P.prn_no (.inl H.out))).symm, rfl⟩
      · rcases Int.lt_or_le 126 (s[k].toNat : Int) with h2 | h2
        · have H := Lib.hid h2
          go_wp2
          go_ret
          exact ⟨ret_bool (P.pall_false hlt (P.prn_no (.inr H.out))).symm, rfl⟩
        · have HL := Lib.hid (P.prn_yes h1 h2)
          go_wp2
          go_round
          case rel => exact ⟨k + 1, by omega, by go_num, all_snoc k hlt HA.out HL.out⟩
          case measure => simp [intOf]; omega
    · have HT := Lib.hid (show s.all P.prn = true by rw [← List.take_of_length_le (l := s) (i := k) (by omega)]; exact HA.out)
      go_wp2
      go_ret
      exact ⟨ret_bool HT.out.symm, rfl⟩
theorem encode_one (b : UInt8) (h : b.toNat < 128) : Utf8.encode (b.toNat : Int) = S [b] := by
  have hv : Utf8.valid (b.toNat : Int) = true := by
    unfold Utf8.valid
    simp
    omega
  unfold Utf8.encode
  rw [hv]
  simp only [if_true, Int.toNat_natCast]
  rw [if_pos (by omega)]
  simp [S]
theorem upperW (s : Str) (w : World) (hs : s.length ≤ 2 ^ 40) :
    Calls Tryz.prog 263 #[.string (S s)] w fun e w' => e = .returned (.string (S (P.upper s))) ∧ ∃ n, w' = w.drewN n := by
  cases s with
  | nil =>
    go_enter Tryz.func263, Tryz.ntmps263
    go_wp2
    go_ret
    exact ⟨rfl, 0, rfl⟩
  | cons b t =>
    have hn : ((b :: t : Str) == []) = false := rfl
    have hsl : t.length + 1 ≤ 2 ^ 40 := hs
    have j1 : (1 : Int) ≤ (t.length : Int) + 1 := by omega
    have j2 : ¬ 9223372036854775807 < 1 + t.length := by omega
    clear hs
    by_cases h1 : 97 ≤ (b.toNat : Int)
    · by_cases h2 : (b.toNat : Int) ≤ 122
      · have hl := P.lower_yes h1 h2
        have HU := Lib.hid (show P.upper (b :: t) = [b - 32] ++ t by rw [P.upper_yes hl]; rfl)
        obtain ⟨h3, _⟩ := u8_sub hl
        have hE := encode_one (b - 32) (by omega)
        rw [h3] at hE
        have e1 : IntKind.i32.wrap (IntKind.u8.wrap (IntKind.u8.wrap ((b.toNat : Int) - 97) + 65)) = (b.toNat : Int) - 32 := by
          simp only [IntKind.wrap_u8, IntKind.wrap_i32]; omega
        clear hl h3
        go_enter Tryz.func263, Tryz.ntmps263
        go_upto_region 2 with fail
        go_quiet (fail)
        go_wp2
        go_ret
        exact ⟨ret_str HU.out.symm, _, rfl⟩
      · have HU := Lib.hid (show P.upper (b :: t) = b :: t by exact P.upper_no (P.lower_no (.inr (by omega))))
        go_enter Tryz.func263, Tryz.ntmps263
        go_wp2
        go_ret
        exact ⟨ret_str HU.out.symm, 0, rfl⟩
    · have HU := Lib.hid (show P.upper (b :: t) = b :: t by exact P.upper_no (P.lower_no (.inl (by omega))))
      go_enter Tryz.func263, Tryz.ntmps263
      go_wp2
      go_ret
      exact ⟨ret_str HU.out.symm, 0, rfl⟩
theorem lowerW (s : Str) (w : World) (hs : s.length ≤ 2 ^ 40) :
    Calls Tryz.prog 281 #[.string (S s)] w fun e w' => e = .returned (.string (S (P.lowered s))) ∧ ∃ n, w' = w.drewN n := by
  cases s with
  | nil =>
    go_enter Tryz.func281, Tryz.ntmps281
    go_wp2
    go_ret
    exact ⟨rfl, 0, rfl⟩
  | cons b t =>
    have hn : ((b :: t : Str) == []) = false := rfl
    have hsl : t.length + 1 ≤ 2 ^ 40 := hs
    have j1 : (1 : Int) ≤ (t.length : Int) + 1 := by omega
    have j2 : ¬ 9223372036854775807 < 1 + t.length := by omega
    clear hs
    by_cases h1 : 65 ≤ (b.toNat : Int)
    · by_cases h2 : (b.toNat : Int) ≤ 90
      · have hl := P.upB_yes h1 h2
        have HU := Lib.hid (show P.lowered (b :: t) = [b + 32] ++ t by rw [P.lowered_yes hl]; rfl)
        obtain ⟨h3, _⟩ := u8_add hl
        have hE := encode_one (b + 32) (by omega)
        rw [h3] at hE
        have e1 : IntKind.i32.wrap (IntKind.u8.wrap (IntKind.u8.wrap ((b.toNat : Int) - 65) + 97)) = (b.toNat : Int) + 32 := by
          simp only [IntKind.wrap_u8, IntKind.wrap_i32]; omega
        clear hl h3
        go_enter Tryz.func281, Tryz.ntmps281
        go_upto_region 2 with fail
        go_quiet (fail)
        go_wp2
        go_ret
        exact ⟨ret_str HU.out.symm, _, rfl⟩
      · have HU := Lib.hid (show P.lowered (b :: t) = b :: t by exact P.lowered_no (P.upB_no (.inr (by omega))))
        go_enter Tryz.func281, Tryz.ntmps281
        go_wp2
        go_ret
        exact ⟨ret_str HU.out.symm, 0, rfl⟩
    · have HU := Lib.hid (show P.lowered (b :: t) = b :: t by exact P.lowered_no (P.upB_no (.inl (by omega))))
      go_enter Tryz.func281, Tryz.ntmps281
      go_wp2
      go_ret
      exact ⟨ret_str HU.out.symm, 0, rfl⟩
def StPost (b : Nat) (s : P.St) (w : World) (e : Ending) (w' : World) : Prop := e = .returned (.tuple #[]) ∧ StBox b s w' ∧ Chg (fun x => x = b) w w'
end Go.Proofs.YtmlklnimoknojaaGreatDoor
