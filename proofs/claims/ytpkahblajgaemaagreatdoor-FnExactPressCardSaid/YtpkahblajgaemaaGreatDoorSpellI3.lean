/- Walks: the rule of a suffix, the joined word (program). -/
import Derived.Deep.DeepCutAuto
import Derived.Deep.CutBlock
import Derived.Test.YtpkahblajgaemaaGreatDoorSpellI2
namespace Go.Proofs.YtpkahblajgaemaaGreatDoor
open Go Go.RowKit
set_option maxHeartbeats 4000000
set_option maxRecDepth 100000
theorem impl_joinSuffix (x y : Str) (w : World) (hx : x.length ≤ 2 ^ 30) (hyl : y.length ≤ 2 ^ 30) :
    Calls Tryz.prog 233 #[.string (S x), .string (S y)] w fun e w' => e = .returned (.tuple #[.string (S (P.joinS x y).1), .bool (P.joinS x y).2]) ∧ Below w.heap.size w w' := by
  have hj : P.joinS x y = (if P.isWord x && P.isWord y then (if 24 < (P.joinW x y).length then ([], false) else (P.joinW x y, true)) else ([], false)) := rfl
  have HYL := Lib.hid (show P.isWord y = true → 0 < y.length from fun h => by have := P.isWord_len h; omega)
  have HJL := Lib.hid (P.joinW_len x y)
  cases hqx : P.isWord x with
  | false =>
    have HJ := Lib.hid (show P.joinS x y = ([], false) by rw [hj, hqx]; rfl)
    clear hj
    go_enter Tryz.func233, Tryz.ntmps233
    go_wp2_with (go_at_call 238; refine (isWordI _ _ (by omega)).mono ?_; rintro e w' ⟨rfl, rfl⟩)
    go_ret2
    exact ⟨by rw [HJ.out]; rfl, Below.refl _ _⟩
  | true =>
    cases hqy : P.isWord y with
    | false =>
      have HJ := Lib.hid (show P.joinS x y = ([], false) by rw [hj, hqx, hqy]; rfl)
      clear hj
      go_enter Tryz.func233, Tryz.ntmps233
      go_wp2_with (go_at_call 238; refine (isWordI _ _ (by omega)).mono ?_; rintro e w' ⟨rfl, rfl⟩)
      go_ret2
      exact ⟨by rw [HJ.out]; rfl, Below.refl _ _⟩
    | true =>
      rw [hqx, hqy] at hj
      have hy0 := HYL.out hqy
      have hjw : P.joinW x y = (match P.rule x y with
        | 1 => x.take (x.length - 1) ++ [105, 101, 115]
        | 2 => x ++ [101, 115]
        | 3 => x.take (x.length - 2) ++ [121, 105, 110, 103]
        | 4 => (x.take (x.length - 1) ++ [105]) ++ y
        | 5 => x.take (x.length - 1) ++ y
        | 6 => (x ++ x.drop (x.length - 1)) ++ y
        | _ => x ++ y) := rfl
      have HJ := Lib.hid hjw
      have hle := P.rule_le x y
      have HLN := Lib.hid (P.rule_len (w := x) (x := y))
      have H6 := Lib.hid (show P.rule x y = 6 → 3 ≤ x.length from P.rule_len6)
      have HJS := Lib.hid (show P.joinS x y = if 24 < (P.joinW x y).length then ([], false) else (P.joinW x y, true) from hj)
      clear hjw hj
      go_enter Tryz.func233, Tryz.ntmps233
      go_wp2_with (go_at_call 238; refine (isWordI _ _ (by omega)).mono ?_; rintro e w' ⟨rfl, rfl⟩)
      refine (impl_rule x y _ hx hy0).mono ?_
      rintro e w1 ⟨rfl, hb⟩
      have HB := Lib.hid hb
      clear hb
      obtain ⟨r, hr⟩ : ∃ r, P.rule x y = r := ⟨_, rfl⟩
      rw [hr] at hle HJ HLN H6
      rw [hr]
      clear hr
      obtain rfl | rfl | rfl | rfl | rfl | rfl | rfl : r = 0 ∨ r = 1 ∨ r = 2 ∨ r = 3 ∨ r = 4 ∨ r = 5 ∨ r = 6 := by omega
      · go_upto_region 17 with fail
        have HV := Lib.hid (show P.joinW x y = x ++ y by rw [HJ.out] <;> simp)
        rw [HV.out] at HJS
        generalize x ++ y = z at *
        by_cases h24 : 24 < z.length
        · have HF := Lib.hid (HJS.out.trans (if_pos h24))
          have i7 : (24 : Int) < (z.length : Int) := by omega
          clear h24
          go_wp2
          go_ret2
          exact ⟨by rw [HF.out]; rfl, HB.out⟩
        · have HF := Lib.hid (HJS.out.trans (if_neg h24))
          have i7 : ¬ (24 : Int) < (z.length : Int) := by omega
          clear h24
          go_wp2
          go_ret2
          exact ⟨by rw [HF.out] <;> rfl, HB.out⟩
      · have hl := HLN.out.1 rfl
        have i1 : (x.length : Int) - 1 = ((x.length - 1 : Nat) : Int) := by omega
        have i2 : x.length - 1 ≤ x.length := by omega
        go_upto_region 17 with fail
        have HV := Lib.hid (show P.joinW x y = x.take (x.length - 1) ++ [105, 101, 115] by rw [HJ.out] <;> simp)
        rw [HV.out] at HJS
        generalize x.take (x.length - 1) ++ [105, 101, 115] = z at *
        by_cases h24 : 24 < z.length
        · have HF := Lib.hid (HJS.out.trans (if_pos h24))
          have i7 : (24 : Int) < (z.length : Int) := by omega
          clear h24
          go_wp2
          go_ret2
          exact ⟨by rw [HF.out]; rfl, HB.out⟩
        · have HF := Lib.hid (HJS.out.trans (if_neg h24))
          have i7 : ¬ (24 : Int) < (z.length : Int) := by omega
          clear h24
          go_wp2
          go_ret2
          exact ⟨by rw [HF.out] <;> rfl, HB.out⟩
      · go_upto_region 17 with fail
        have HV := Lib.hid (show P.joinW x y = x ++ [101, 115] by rw [HJ.out] <;> simp)
        rw [HV.out] at HJS
        generalize x ++ [101, 115] = z at *
        by_cases h24 : 24 < z.length
        · have HF := Lib.hid (HJS.out.trans (if_pos h24))
          have i7 : (24 : Int) < (z.length : Int) := by omega
          clear h24
          go_wp2
          go_ret2
          exact ⟨by rw [HF.out]; rfl, HB.out⟩
        · have HF := Lib.hid (HJS.out.trans (if_neg h24))
          have i7 : ¬ (24 : Int) < (z.length : Int) := by omega
          clear h24
          go_wp2
          go_ret2
          exact ⟨by rw [HF.out] <;> rfl, HB.out⟩
      · have hl := HLN.out.2.1 rfl
        have i1 : (x.length : Int) - 2 = ((x.length - 2 : Nat) : Int) := by omega
        have i2 : x.length - 2 ≤ x.length := by omega
        go_upto_region 17 with fail
        have HV := Lib.hid (show P.joinW x y = x.take (x.length - 2) ++ [121, 105, 110, 103] by rw [HJ.out] <;> simp)
        rw [HV.out] at HJS
        generalize x.take (x.length - 2) ++ [121, 105, 110, 103] = z at *
        by_cases h24 : 24 < z.length
        · have HF := Lib.hid (HJS.out.trans (if_pos h24))
          have i7 : (24 : Int) < (z.length : Int) := by omega
          clear h24
          go_wp2
          go_ret2
          exact ⟨by rw [HF.out]; rfl, HB.out⟩
        · have HF := Lib.hid (HJS.out.trans (if_neg h24))
          have i7 : ¬ (24 : Int) < (z.length : Int) := by omega
          clear h24
          go_wp2
          go_ret2
          exact ⟨by rw [HF.out] <;> rfl, HB.out⟩
      · have hl := HLN.out.2.2.1 rfl
        have i1 : (x.length : Int) - 1 = ((x.length - 1 : Nat) : Int) := by omega
        have i2 : x.length - 1 ≤ x.length := by omega
        go_upto_region 17 with fail
        have HV := Lib.hid (show P.joinW x y = x.take (x.length - 1) ++ 105 :: y by rw [HJ.out] <;> simp)
        rw [HV.out] at HJS
        generalize x.take (x.length - 1) ++ 105 :: y = z at *
        by_cases h24 : 24 < z.length
        · have HF := Lib.hid (HJS.out.trans (if_pos h24))
          have i7 : (24 : Int) < (z.length : Int) := by omega
          clear h24
          go_wp2
          go_ret2
          exact ⟨by rw [HF.out]; rfl, HB.out⟩
        · have HF := Lib.hid (HJS.out.trans (if_neg h24))
          have i7 : ¬ (24 : Int) < (z.length : Int) := by omega
          clear h24
          go_wp2
          go_ret2
          exact ⟨by rw [HF.out] <;> rfl, HB.out⟩
      · have hl := HLN.out.2.2.2 rfl
        have i1 : (x.length : Int) - 1 = ((x.length - 1 : Nat) : Int) := by omega
        have i2 : x.length - 1 ≤ x.length := by omega
        go_upto_region 17 with fail
        have HV := Lib.hid (show P.joinW x y = x.take (x.length - 1) ++ y by rw [HJ.out] <;> simp)
        rw [HV.out] at HJS
        generalize x.take (x.length - 1) ++ y = z at *
        by_cases h24 : 24 < z.length
        · have HF := Lib.hid (HJS.out.trans (if_pos h24))
          have i7 : (24 : Int) < (z.length : Int) := by omega
          clear h24
          go_wp2
          go_ret2
          exact ⟨by rw [HF.out]; rfl, HB.out⟩
        · have HF := Lib.hid (HJS.out.trans (if_neg h24))
          have i7 : ¬ (24 : Int) < (z.length : Int) := by omega
          clear h24
          go_wp2
          go_ret2
          exact ⟨by rw [HF.out] <;> rfl, HB.out⟩
      · have hl := H6.out rfl
        have i1 : (x.length : Int) - 1 = ((x.length - 1 : Nat) : Int) := by omega
        have i2 : x.length - 1 ≤ x.length := by omega
        go_upto_region 17 with fail
        have HV := Lib.hid (show P.joinW x y = x ++ (x.drop (x.length - 1) ++ y) by rw [HJ.out] <;> simp)
        rw [HV.out] at HJS
        generalize x ++ (x.drop (x.length - 1) ++ y) = z at *
        by_cases h24 : 24 < z.length
        · have HF := Lib.hid (HJS.out.trans (if_pos h24))
          have i7 : (24 : Int) < (z.length : Int) := by omega
          clear h24
          go_wp2
          go_ret2
          exact ⟨by rw [HF.out]; rfl, HB.out⟩
        · have HF := Lib.hid (HJS.out.trans (if_neg h24))
          have i7 : ¬ (24 : Int) < (z.length : Int) := by omega
          clear h24
          go_wp2
          go_ret2
          exact ⟨by rw [HF.out] <;> rfl, HB.out⟩
end Go.Proofs.YtpkahblajgaemaaGreatDoor
