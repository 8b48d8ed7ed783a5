/- Walks: the rule of a suffix, the joined word (program). -/
import Derived.Deep.DeepCutAuto
import Derived.Deep.CutBlock
import Derived.Test.YtmlklnimoknojaaGreatDoorSpellI2
import Derived.Deep.RegionHeld
import Derived.BigQuiet
import Derived.Deep.QuietTactic
import Derived.Test.YtmlklnimoknojaaGreatDoorFmtS3
import Derived.RegionTactic
import Derived.BigRegion
namespace Go.Proofs.YtmlklnimoknojaaGreatDoor
open Go Go.RowKit
set_option maxHeartbeats 4000000
set_option maxRecDepth 100000
theorem impl_joinSuffix (x y : Str) (w : World) (hx : x.length ≤ 2 ^ 30) (hyl : y.length ≤ 2 ^ 30) :
    Calls Tryz.prog 282 #[.string (S x), .string (S y)] w fun e w' => e = .returned (.tuple #[.string (S (P.joinS x y).1), .bool (P.joinS x y).2]) ∧ Below w.heap.size w w' := by
  have hj : P.joinS x y = (if P.isWord x && P.isWord y then (if 24 < (P.joinW x y).length then ([], false) else (P.joinW x y, true)) else ([], false)) := rfl
  have HYL := Lib.hid (show P.isWord y = true → 0 < y.length from fun h => by have := P.isWord_len h; omega)
  have HJL := Lib.hid (P.joinW_len x y)
  cases hqx : P.isWord x with
  | false =>
    have HJ := Lib.hid (show P.joinS x y = ([], false) by rw [hj, hqx]; rfl)
    clear hj
    go_enter Tryz.func282, Tryz.ntmps282
    go_wp2_with (go_at_call 289; refine (isWordI _ _ (by omega)).mono ?_; rintro e w' ⟨rfl, rfl⟩)
    go_ret2
    exact ⟨by rw [HJ.out]; rfl, Below.refl _ _⟩
  | true =>
    cases hqy : P.isWord y with
    | false =>
      have HJ := Lib.hid (show P.joinS x y = ([], false) by rw [hj, hqx, hqy]; rfl)
      clear hj
      go_enter Tryz.func282, Tryz.ntmps282
      go_wp2_with (go_at_call 289; refine (isWordI _ _ (by omega)).mono ?_; rintro e w' ⟨rfl, rfl⟩)
      go_ret2
      exact ⟨by rw [HJ.out]; rfl, Below.refl _ _⟩
    | true =>
      rw [hqx, hqy] at hj
      have hy0 := HYL.out hqy
      have hjw : P.joinW x y = (match P.rule x y with
        | 1 => x.take (x.length - 1) ++ [105, 101, 115]
        | 2 => x ++ [101, 115]
        | 3 => x.take (x.length - 2) ++ [121, 105, 110, 103]
        | 4 => (x.take (x.length - 1) ++ [105]) ++ y
        | 5 => x.take (x.length - 1) ++ y
        | 6 => (x ++ x.drop (x.length - 1)) ++ y
        | _ => x ++ y) := rfl
      have HJ := Lib.hid hjw
      have hle := P.rule_le x y
      have HLN := Lib.hid (P.rule_len (w := x) (x := y))
      have H6 := Lib.hid (show P.rule x y = 6 → 3 ≤ x.length from P.rule_len6)
      have HJS := Lib.hid (show P.joinS x y = if 24 < (P.joinW x y).length then ([], false) else (P.joinW x y, true) from hj)
      clear hjw hj
      go_enter Tryz.func282, Tryz.ntmps282
      go_wp2_with (go_at_call 289; refine (isWordI _ _ (by omega)).mono ?_; rintro e w' ⟨rfl, rfl⟩)
      refine (impl_rule x y _ hx hy0).mono ?_
      rintro e w1 ⟨rfl, hb⟩
      have HB := Lib.hid hb
      clear hb
      obtain ⟨r, hr⟩ : ∃ r, P.rule x y = r := ⟨_, rfl⟩
      rw [hr] at hle HJ HLN H6
      rw [hr]
      clear hr
      obtain rfl | rfl | rfl | rfl | rfl | rfl | rfl : r = 0 ∨ r = 1 ∨ r = 2 ∨ r = 3 ∨ r = 4 ∨ r = 5 ∨ r = 6 := by omega
      · go_upto_region 17 with fail
        have HV := Lib.hid (show P.joinW x y = x ++ y by rw [HJ.out] <;> simp)
        rw [HV.out] at HJS
        generalize x ++ y = z at *
        by_cases h24 : 24 < z.length
        · have HF := Lib.hid (HJS.out.trans (if_pos h24))
          have i7 : (24 : Int) < (z.length : Int) := by omega
          clear h24
          go_wp2
          go_ret2
          exact ⟨by rw [HF.out]; rfl, HB.out⟩
        · have HF := Lib.hid (HJS.out.trans (if_neg h24))
          have i7 : ¬ (24 : Int) < (z.length : Int) := by omega
          clear h24
          go_wp2
          go_ret2
          exact ⟨by rw [HF.out] <;> rfl, HB.out⟩
      · have hl := HLN.out.1 rfl
        have i1 : (x.length : Int) - 1 = ((x.length - 1 : Nat) : Int) := by omega
        have i2 : x.length - 1 ≤ x.length := by omega
        go_upto_region 17 with fail
        have HV := Lib.hid (show P.joinW x y = x.take (x.length - 1) ++ [105, 101, 115] by rw [HJ.out] <;> simp)
        rw [HV.out] at HJS
        generalize x.take (x.length - 1) ++ [105, 101, 115] = z at *
        by_cases h24 : 24 < z.length
        · have HF := Lib.hid (HJS.out.trans (if_pos h24))
          have i7 : (24 : Int) < (z.length : Int) := by omega
          clear h24
          go_wp2
          go_ret2
          exact ⟨by rw [HF.out]; rfl, HB.out⟩
        · have HF := Lib.hid (HJS.out.trans (if_neg h24))
          have i7 : ¬ (24 : Int) < (z.length : Int) := by omega
          clear h24
          go_wp2
          go_ret2
          exact ⟨by rw [HF.out] <;> rfl, HB.out⟩
      · go_upto_region 17 with fail
        have HV := Lib.hid (show P.joinW x y = x ++ [101, 115] by rw [HJ.out] <;> simp)
        rw [HV.out] at HJS
        generalize x ++ [101, 115] = z at *
        by_cases h24 : 24 < z.length
        · have HF := Lib.hid (HJS.out.trans (if_pos h24))
          have i7 : (24 : Int) < (z.length : Int) := by omega
          clear h24
          go_wp2
          go_ret2
          exact ⟨by rw [HF.out]; rfl, HB.out⟩
        · have HF := Lib.hid (HJS.out.trans (if_neg h24))
          have i7 : ¬ (24 : Int) < (z.length : Int) := by omega
          clear h24
          go_wp2
          go_ret2
          exact ⟨by rw [HF.out] <;> rfl, HB.out⟩
      · have hl := HLN.out.2.1 rfl
        have i1 : (x.length : Int) - 2 = ((x.length - 2 : Nat) : Int) := by omega
        have i2 : x.length - 2 ≤ x.length := by omega
        go_upto_region 17 with fail
        have HV := Lib.hid (show P.joinW x y = x.take (x.length - 2) ++ [121, 105, 110, 103] by rw [HJ.out] <;> simp)
        rw [HV.out] at HJS
        generalize x.take (x.length - 2) ++ [121, 105, 110, 103] = z at *
        by_cases h24 : 24 < z.length
        · have HF := Lib.hid (HJS.out.trans (if_pos h24))
          have i7 : (24 : Int) < (z.length : Int) := by omega
          clear h24
          go_wp2
          go_ret2
          exact ⟨by rw [HF.out]; rfl, HB.out⟩
        · have HF := Lib.hid (HJS.out.trans (if_neg h24))
          have i7 : ¬ (24 : Int) < (z.length : Int) := by omega
          clear h24
          go_wp2
          go_ret2
          exact ⟨by rw [HF.out] <;> rfl, HB.out⟩
      · have hl := HLN.out.2.2.1 rfl
        have i1 : (x.length : Int) - 1 = ((x.length - 1 : Nat) : Int) := by omega
        have i2 : x.length - 1 ≤ x.length := by omega
        go_upto_region 17 with fail
        have HV := Lib.hid (show P.joinW x y = x.take (x.length - 1) ++ 105 :: y by rw [HJ.out] <;> simp)
        rw [HV.out] at HJS
        generalize x.take (x.length - 1) ++ 105 :: y = z at *
        by_cases h24 : 24 < z.length
        · have HF := Lib.hid (HJS.out.trans (if_pos h24))
          have i7 : (24 : Int) < (z.length : Int) := by omega
          clear h24
          go_wp2
          go_ret2
          exact ⟨by rw [HF.out]; rfl, HB.out⟩
        · have HF := Lib.hid (HJS.out.trans (if_neg h24))
          have i7 : ¬ (24 : Int) < (z.length : Int) := by omega
          clear h24
          go_wp2
          go_ret2
          exact ⟨by rw [HF.out] <;> rfl, HB.out⟩
      · have hl := HLN.out.2.2.2 rfl
        have i1 : (x.length : Int) - 1 = ((x.length - 1 : Nat) : Int) := by omega
        have i2 : x.length - 1 ≤ x.length := by omega
        go_upto_region 17 with fail
        have HV := Lib.hid (show P.joinW x y = x.take (x.length - 1) ++ y by rw [HJ.out] <;> simp)
        rw [HV.out] at HJS
        generalize x.take (x.length - 1) ++ y = z at *
        by_cases h24 : 24 < z.length
        · have HF := Lib.hid (HJS.out.trans (if_pos h24))
          have i7 : (24 : Int) < (z.length : Int) := by omega
          clear h24
          go_wp2
          go_ret2
          exact ⟨by rw [HF.out]; rfl, HB.out⟩
        · have HF := Lib.hid (HJS.out.trans (if_neg h24))
          have i7 : ¬ (24 : Int) < (z.length : Int) := by omega
          clear h24
          go_wp2
          go_ret2
          exact ⟨by rw [HF.out] <;> rfl, HB.out⟩
      · have hl := H6.out rfl
        have i1 : (x.length : Int) - 1 = ((x.length - 1 : Nat) : Int) := by omega
        have i2 : x.length - 1 ≤ x.length := by omega
        go_upto_region 17 with fail
        have HV := Lib.hid (show P.joinW x y = x ++ (x.drop (x.length - 1) ++ y) by rw [HJ.out] <;> simp)
        rw [HV.out] at HJS
        generalize x ++ (x.drop (x.length - 1) ++ y) = z at *
        by_cases h24 : 24 < z.length
        · have HF := Lib.hid (HJS.out.trans (if_pos h24))
          have i7 : (24 : Int) < (z.length : Int) := by omega
          clear h24
          go_wp2
          go_ret2
          exact ⟨by rw [HF.out]; rfl, HB.out⟩
        · have HF := Lib.hid (HJS.out.trans (if_neg h24))
          have i7 : ¬ (24 : Int) < (z.length : Int) := by omega
          clear h24
          go_wp2
          go_ret2
          exact ⟨by rw [HF.out] <;> rfl, HB.out⟩
end Go.Proofs.YtmlklnimoknojaaGreatDoor
namespace Go.Proofs.YtmlklnimoknojaaGreatDoor
open Go Go.RowKit
set_option maxHeartbeats 2000000
set_option maxRecDepth 100000
theorem isPrintable (s : Str) (w : World) (hs : s.length ≤ 2 ^ 40) :
    Calls Tryz.prog 124 #[.string (S s)] w fun e w' => e = .returned (.bool (s.all P.prn)) ∧ w = w' := by
  go_enter Tryz.func124, Tryz.ntmps124
  go_wp2
  go_loop [3, 6] (fun _ i => ∃ k : Nat, k ≤ s.length ∧ i = .int .i64 k ∧ (s.take k).all P.prn = true) (fun _ i => s.length - (intOf i).toNat)
  case atStart => exact ⟨0, by omega, rfl, by simp⟩
  case round =>
    obtain ⟨k, hk, rfl, ha⟩ := hrel
    have HA := Lib.hid ha; clear ha
    by_cases hlt : k < s.length
    · rcases Int.lt_or_le (s[k].toNat : Int) 32 with h1 | h1
      · have H := Lib.hid h1
        go_wp2
        go_ret
        exact ⟨ret_bool (P.pall_false hlt (P.prn_no (.inl H.out))).symm, rfl⟩
      · rcases Int.lt_or_le 126 (s[k].toNat : Int) with h2 | h2
        · have H := Lib.hid h2
          go_wp2
          go_ret
          exact ⟨ret_bool (P.pall_false hlt (P.prn_no (.inr H.out))).symm, rfl⟩
        · have HL := Lib.hid (P.prn_yes h1 h2)
          go_wp2
          go_round
          case rel => exact ⟨k + 1, by omega, by go_num, all_snoc k hlt HA.out HL.out⟩
          case measure => simp [intOf]; omega
    · have HT := Lib.hid (show s.all P.prn = true by rw [← List.take_of_length_le (l := s) (i := k) (by omega)]; exact HA.out)
      go_wp2
      go_ret
      exact ⟨ret_bool HT.out.symm, rfl⟩
theorem encode_one (b : UInt8) (h : b.toNat < 128) : Utf8.encode (b.toNat : Int) = S [b] := by
  have hv : Utf8.valid (b.toNat : Int) = true := by
    unfold Utf8.valid
    simp
    omega
  unfold Utf8.encode
  rw [hv]
  simp only [if_true, Int.toNat_natCast]
  rw [if_pos (by omega)]
  simp [S]
theorem upperW (s : Str) (w : World) (hs : s.length ≤ 2 ^ 40) :
    Calls Tryz.prog 263 #[.string (S s)] w fun e w' => e = .returned (.string (S (P.upper s))) ∧ ∃ n, w' = w.drewN n := by
  cases s with
  | nil =>
    go_enter Tryz.func263, Tryz.ntmps263
    go_wp2
    go_ret
    exact ⟨rfl, 0, rfl⟩
  | cons b t =>
    have hn : ((b :: t : Str) == []) = false := rfl
    have hsl : t.length + 1 ≤ 2 ^ 40 := hs
    have j1 : (1 : Int) ≤ (t.length : Int) + 1 := by omega
    have j2 : ¬ 9223372036854775807 < 1 + t.length := by omega
    clear hs
    by_cases h1 : 97 ≤ (b.toNat : Int)
    · by_cases h2 : (b.toNat : Int) ≤ 122
      · have hl := P.lower_yes h1 h2
        have HU := Lib.hid (show P.upper (b :: t) = [b - 32] ++ t by rw [P.upper_yes hl]; rfl)
        obtain ⟨h3, _⟩ := u8_sub hl
        have hE := encode_one (b - 32) (by omega)
        rw [h3] at hE
        have e1 : IntKind.i32.wrap (IntKind.u8.wrap (IntKind.u8.wrap ((b.toNat : Int) - 97) + 65)) = (b.toNat : Int) - 32 := by
          simp only [IntKind.wrap_u8, IntKind.wrap_i32]; omega
        clear hl h3
        go_enter Tryz.func263, Tryz.ntmps263
        go_upto_region 2 with fail
        go_quiet (fail)
        go_wp2
        go_ret
        exact ⟨ret_str HU.out.symm, _, rfl⟩
      · have HU := Lib.hid (show P.upper (b :: t) = b :: t by exact P.upper_no (P.lower_no (.inr (by omega))))
        go_enter Tryz.func263, Tryz.ntmps263
        go_wp2
        go_ret
        exact ⟨ret_str HU.out.symm, 0, rfl⟩
    · have HU := Lib.hid (show P.upper (b :: t) = b :: t by exact P.upper_no (P.lower_no (.inl (by omega))))
      go_enter Tryz.func263, Tryz.ntmps263
      go_wp2
      go_ret
      exact ⟨ret_str HU.out.symm, 0, rfl⟩
theorem lowerW (s : Str) (w : World) (hs : s.length ≤ 2 ^ 40) :
    Calls Tryz.prog 281 #[.string (S s)] w fun e w' => e = .returned (.string (S (P.lowered s))) ∧ ∃ n, w' = w.drewN n := by
  cases s with
  | nil =>
    go_enter Tryz.func281, Tryz.ntmps281
    go_wp2
    go_ret
    exact ⟨rfl, 0, rfl⟩
  | cons b t =>
    have hn : ((b :: t : Str) == []) = false := rfl
    have hsl : t.length + 1 ≤ 2 ^ 40 := hs
    have j1 : (1 : Int) ≤ (t.length : Int) + 1 := by omega
    have j2 : ¬ 9223372036854775807 < 1 + t.length := by omega
    clear hs
    by_cases h1 : 65 ≤ (b.toNat : Int)
    · by_cases h2 : (b.toNat : Int) ≤ 90
      · have hl := P.upB_yes h1 h2
        have HU := Lib.hid (show P.lowered (b :: t) = [b + 32] ++ t by rw [P.lowered_yes hl]; rfl)
        obtain ⟨h3, _⟩ := u8_add hl
        have hE := encode_one (b + 32) (by omega)
        rw [h3] at hE
        have e1 : IntKind.i32.wrap (IntKind.u8.wrap (IntKind.u8.wrap ((b.toNat : Int) - 65) + 97)) = (b.toNat : Int) + 32 := by
          simp only [IntKind.wrap_u8, IntKind.wrap_i32]; omega
        clear hl h3
        go_enter Tryz.func281, Tryz.ntmps281
        go_upto_region 2 with fail
        go_quiet (fail)
        go_wp2
        go_ret
        exact ⟨ret_str HU.out.symm, _, rfl⟩
      · have HU := Lib.hid (show P.lowered (b :: t) = b :: t by exact P.lowered_no (P.upB_no (.inr (by omega))))
        go_enter Tryz.func281, Tryz.ntmps281
        go_wp2
        go_ret
        exact ⟨ret_str HU.out.symm, 0, rfl⟩
    · have HU := Lib.hid (show P.lowered (b :: t) = b :: t by exact P.lowered_no (P.upB_no (.inl (by omega))))
      go_enter Tryz.func281, Tryz.ntmps281
      go_wp2
      go_ret
      exact ⟨ret_str HU.out.symm, 0, rfl⟩
def StPost (b : Nat) (s : P.St) (w : World) (e : Ending) (w' : World) : Prop := e = .returned (.tuple #[]) ∧ StBox b s w' ∧ Chg (fun x => x = b) w w'
end Go.Proofs.YtmlklnimoknojaaGreatDoor
namespace Go.Proofs.YtmlklnimoknojaaGreatDoor
open Go Go.RowKit
set_option maxHeartbeats 4000000
set_option maxRecDepth 100000
def StC (b : Nat) (s : P.St) (w v : World) : Prop := StBox b s v ∧ Chg (fun x => x = b) w v
theorem StC.text {b : Nat} {s : P.St} {w v : World} (h : StC b s w v) (t : Str) : StC b { s with text := t } w (v.setCell ⟨b, 0, none⟩ (.string (S t))) := ⟨h.1.text t, h.2.put _⟩
theorem StC.joined {b : Nat} {s : P.St} {w v : World} (h : StC b s w v) (x : Bool) : StC b { s with joined := x } w (v.setCell ⟨b, 1, none⟩ (.bool x)) := ⟨h.1.joined x, h.2.put _⟩
theorem StC.glued {b : Nat} {s : P.St} {w v : World} (h : StC b s w v) (x : Bool) : StC b { s with glued := x } w (v.setCell ⟨b, 2, none⟩ (.bool x)) := ⟨h.1.glued x, h.2.put _⟩
theorem StC.cap {b : Nat} {s : P.St} {w v : World} (h : StC b s w v) (x : Int) : StC b { s with cap := x } w (v.setCell ⟨b, 3, none⟩ (.int .i64 x)) := ⟨h.1.cap x, h.2.put _⟩
theorem StC.word {b : Nat} {s : P.St} {w v : World} (h : StC b s w v) (x : Nat) : StC b { s with word := x } w (v.setCell ⟨b, 4, none⟩ (.int .i64 (x : Int))) := ⟨h.1.word x, h.2.put _⟩
theorem StC.below {b : Nat} {s : P.St} {w v v' : World} (h : StC b s w v) (hb : Below v.heap.size v v') : StC b s w v' := ⟨h.1.below hb, h.2.trans (Below.chg hb _)⟩
theorem StC.drewN {b : Nat} {s : P.St} {w v : World} (h : StC b s w v) (n : Nat) : StC b s w (v.drewN n) := h.below (below_drewN (Below.refl _ _) n)
theorem stPut (b : Nat) (s : P.St) (t : Str) (w : World) (hb : StBox b s w) (hc : 0 ≤ s.cap ∧ s.cap ≤ 2) (hl : s.text.length ≤ 2 ^ 30) (ht : t.length ≤ 2 ^ 30) :
    Calls Tryz.prog 260 #[.pointer (some ⟨b, 0, none⟩), .string (S t)] w (StPost b (P.put s t) w) := by
  obtain ⟨tx, jn, gl, cp, wd⟩ := s
  simp only at hc hl
  have H0 := Lib.hid (show StC b ⟨tx, jn, gl, cp, wd⟩ w w from ⟨hb, Chg.refl _ _⟩)
  have h3 : cp = 0 ∨ cp = 1 ∨ cp = 2 := by omega
  have hul := P.upper_len t
  have hll := P.lowered_len t
  have j1 : ¬ 9223372036854775807 < tx.length + 1 + t.length := by omega
  have j2 : ¬ 9223372036854775807 < tx.length + t.length := by omega
  have j3 : ¬ 9223372036854775807 < tx.length + 1 + (P.upper t).length := by omega
  have j4 : ¬ 9223372036854775807 < tx.length + (P.upper t).length := by omega
  have j5 : ¬ 9223372036854775807 < tx.length + 1 + (P.lowered t).length := by omega
  have j6 : ¬ 9223372036854775807 < tx.length + (P.lowered t).length := by omega
  have j7 : ¬ 9223372036854775807 < tx.length + 1 := by omega
  have HTL := Lib.hid (show t.length ≤ 2 ^ 40 by omega)
  clear hul hll hc hb
  cases jn
  · skip
    obtain ⟨⟨a0, a1, a2, a3, a4⟩, ⟨f0, f1, f2, f3, f4⟩, hlt⟩ := H0.out.1
    simp only at a0 a1 a2 a3 a4
    go_enter Tryz.func260, Tryz.ntmps260
    go_upto_region 2 with fail
    have H1 := Lib.hid (show StC b ⟨tx ++ [32], false, gl, cp, wd⟩ w (w.setCell ⟨b, 0, none⟩ (.string (S (tx ++ [32])))) from H0.out.text (tx ++ [32]))
    clear H0
    clear a0 a1 a2 a3 a4 f0 f1 f2 f3 f4 hlt
    generalize (World.setCell _ _ _) = v1 at *
    obtain ⟨⟨a0, a1, a2, a3, a4⟩, ⟨f0, f1, f2, f3, f4⟩, hlt⟩ := H1.out.1
    simp only at a0 a1 a2 a3 a4
    go_upto_region 3 with fail
    have H2 := Lib.hid (show StC b ⟨tx ++ [32], false, gl, cp, tx.length + 1⟩ w (v1.setCell ⟨b, 4, none⟩ (.int .i64 ((tx.length : Int) + 1))) from H1.out.word (tx.length + 1))
    clear H1
    clear a0 a1 a2 a3 a4 f0 f1 f2 f3 f4 hlt
    generalize (World.setCell _ _ _) = v2 at *
    obtain ⟨⟨a0, a1, a2, a3, a4⟩, ⟨f0, f1, f2, f3, f4⟩, hlt⟩ := H2.out.1
    simp only at a0 a1 a2 a3 a4
    rcases h3 with rfl | rfl | rfl
    · skip
      go_upto_region 9 with fail
      have H4 := Lib.hid (show StC b ⟨tx ++ 32 :: t, false, gl, 0, tx.length + 1⟩ w (v2.setCell ⟨b, 0, none⟩ (.string (S (tx ++ 32 :: t)))) from H2.out.text (tx ++ 32 :: t))
      clear H2
      clear a0 a1 a2 a3 a4 f0 f1 f2 f3 f4 hlt
      generalize (World.setCell _ _ _) = v4 at *
      obtain ⟨⟨a0, a1, a2, a3, a4⟩, ⟨f0, f1, f2, f3, f4⟩, hlt⟩ := H4.out.1
      simp only at a0 a1 a2 a3 a4
      go_wp2
      first | go_end0 | (refine bodyPost_ret (results_none rfl _ _ _) rfl ?_)
      have H5 := H4.out.cap 0
      refine ⟨rfl, ?_, H5.2⟩
      have he : P.put ⟨tx, false, gl, 0, wd⟩ t = ⟨(tx ++ [32]) ++ t, false, gl, 0, (tx ++ [32]).length⟩ := rfl
      rw [he]
      have h6 := H5.1
      simpa using h6
    · skip
      go_upto_region 8 with (go_at_call 263; refine (upperW _ _ HTL.out).mono ?_; rintro e w' ⟨rfl, n, rfl⟩)
      have H3 := Lib.hid (show StC b ⟨tx ++ [32], false, gl, 1, tx.length + 1⟩ w (v2.drewN n) from H2.out.drewN n)
      clear H2
      clear a0 a1 a2 a3 a4 f0 f1 f2 f3 f4 hlt
      generalize (World.drewN _ _) = v3 at *
      obtain ⟨⟨a0, a1, a2, a3, a4⟩, ⟨f0, f1, f2, f3, f4⟩, hlt⟩ := H3.out.1
      simp only at a0 a1 a2 a3 a4
      go_upto_region 9 with fail
      have H4 := Lib.hid (show StC b ⟨tx ++ 32 :: P.upper t, false, gl, 1, tx.length + 1⟩ w (v3.setCell ⟨b, 0, none⟩ (.string (S (tx ++ 32 :: P.upper t)))) from H3.out.text (tx ++ 32 :: P.upper t))
      clear H3
      clear a0 a1 a2 a3 a4 f0 f1 f2 f3 f4 hlt
      generalize (World.setCell _ _ _) = v4 at *
      obtain ⟨⟨a0, a1, a2, a3, a4⟩, ⟨f0, f1, f2, f3, f4⟩, hlt⟩ := H4.out.1
      simp only at a0 a1 a2 a3 a4
      go_wp2
      first | go_end0 | (refine bodyPost_ret (results_none rfl _ _ _) rfl ?_)
      have H5 := H4.out.cap 0
      refine ⟨rfl, ?_, H5.2⟩
      have he : P.put ⟨tx, false, gl, 1, wd⟩ t = ⟨(tx ++ [32]) ++ P.upper t, false, gl, 0, (tx ++ [32]).length⟩ := rfl
      rw [he]
      have h6 := H5.1
      simpa using h6
    · skip
      go_upto_region 8 with (go_at_call 281; refine (lowerW _ _ HTL.out).mono ?_; rintro e w' ⟨rfl, n, rfl⟩)
      have H3 := Lib.hid (show StC b ⟨tx ++ [32], false, gl, 2, tx.length + 1⟩ w (v2.drewN n) from H2.out.drewN n)
      clear H2
      clear a0 a1 a2 a3 a4 f0 f1 f2 f3 f4 hlt
      generalize (World.drewN _ _) = v3 at *
      obtain ⟨⟨a0, a1, a2, a3, a4⟩, ⟨f0, f1, f2, f3, f4⟩, hlt⟩ := H3.out.1
      simp only at a0 a1 a2 a3 a4
      go_upto_region 9 with fail
      have H4 := Lib.hid (show StC b ⟨tx ++ 32 :: P.lowered t, false, gl, 2, tx.length + 1⟩ w (v3.setCell ⟨b, 0, none⟩ (.string (S (tx ++ 32 :: P.lowered t)))) from H3.out.text (tx ++ 32 :: P.lowered t))
      clear H3
      clear a0 a1 a2 a3 a4 f0 f1 f2 f3 f4 hlt
      generalize (World.setCell _ _ _) = v4 at *
      obtain ⟨⟨a0, a1, a2, a3, a4⟩, ⟨f0, f1, f2, f3, f4⟩, hlt⟩ := H4.out.1
      simp only at a0 a1 a2 a3 a4
      go_wp2
      first | go_end0 | (refine bodyPost_ret (results_none rfl _ _ _) rfl ?_)
      have H5 := H4.out.cap 0
      refine ⟨rfl, ?_, H5.2⟩
      have he : P.put ⟨tx, false, gl, 2, wd⟩ t = ⟨(tx ++ [32]) ++ P.lowered t, false, gl, 0, (tx ++ [32]).length⟩ := rfl
      rw [he]
      have h6 := H5.1
      simpa using h6
  · skip
    obtain ⟨⟨a0, a1, a2, a3, a4⟩, ⟨f0, f1, f2, f3, f4⟩, hlt⟩ := H0.out.1
    simp only at a0 a1 a2 a3 a4
    go_enter Tryz.func260, Tryz.ntmps260
    go_upto_region 3 with fail
    have H2 := Lib.hid (show StC b ⟨tx, true, gl, cp, tx.length⟩ w (w.setCell ⟨b, 4, none⟩ (.int .i64 (tx.length : Int))) from H0.out.word (tx.length))
    clear H0
    clear a0 a1 a2 a3 a4 f0 f1 f2 f3 f4 hlt
    generalize (World.setCell _ _ _) = v2 at *
    obtain ⟨⟨a0, a1, a2, a3, a4⟩, ⟨f0, f1, f2, f3, f4⟩, hlt⟩ := H2.out.1
    simp only at a0 a1 a2 a3 a4
    rcases h3 with rfl | rfl | rfl
    · skip
      go_upto_region 9 with fail
      have H4 := Lib.hid (show StC b ⟨(tx) ++ t, true, gl, 0, tx.length⟩ w (v2.setCell ⟨b, 0, none⟩ (.string (S ((tx) ++ t)))) from H2.out.text ((tx) ++ t))
      clear H2
      clear a0 a1 a2 a3 a4 f0 f1 f2 f3 f4 hlt
      generalize (World.setCell _ _ _) = v4 at *
      obtain ⟨⟨a0, a1, a2, a3, a4⟩, ⟨f0, f1, f2, f3, f4⟩, hlt⟩ := H4.out.1
      simp only at a0 a1 a2 a3 a4
      go_wp2
      first | go_end0 | (refine bodyPost_ret (results_none rfl _ _ _) rfl ?_)
      have H5 := H4.out.cap 0
      refine ⟨rfl, ?_, H5.2⟩
      have he : P.put ⟨tx, true, gl, 0, wd⟩ t = ⟨(tx) ++ t, true, gl, 0, (tx).length⟩ := rfl
      rw [he]
      have h6 := H5.1
      simpa using h6
    · skip
      go_upto_region 8 with (go_at_call 263; refine (upperW _ _ HTL.out).mono ?_; rintro e w' ⟨rfl, n, rfl⟩)
      have H3 := Lib.hid (show StC b ⟨tx, true, gl, 1, tx.length⟩ w (v2.drewN n) from H2.out.drewN n)
      clear H2
      clear a0 a1 a2 a3 a4 f0 f1 f2 f3 f4 hlt
      generalize (World.drewN _ _) = v3 at *
      obtain ⟨⟨a0, a1, a2, a3, a4⟩, ⟨f0, f1, f2, f3, f4⟩, hlt⟩ := H3.out.1
      simp only at a0 a1 a2 a3 a4
      go_upto_region 9 with fail
      have H4 := Lib.hid (show StC b ⟨(tx) ++ P.upper t, true, gl, 1, tx.length⟩ w (v3.setCell ⟨b, 0, none⟩ (.string (S ((tx) ++ P.upper t)))) from H3.out.text ((tx) ++ P.upper t))
      clear H3
      clear a0 a1 a2 a3 a4 f0 f1 f2 f3 f4 hlt
      generalize (World.setCell _ _ _) = v4 at *
      obtain ⟨⟨a0, a1, a2, a3, a4⟩, ⟨f0, f1, f2, f3, f4⟩, hlt⟩ := H4.out.1
      simp only at a0 a1 a2 a3 a4
      go_wp2
      first | go_end0 | (refine bodyPost_ret (results_none rfl _ _ _) rfl ?_)
      have H5 := H4.out.cap 0
      refine ⟨rfl, ?_, H5.2⟩
      have he : P.put ⟨tx, true, gl, 1, wd⟩ t = ⟨(tx) ++ P.upper t, true, gl, 0, (tx).length⟩ := rfl
      rw [he]
      have h6 := H5.1
      simpa using h6
    · skip
      go_upto_region 8 with (go_at_call 281; refine (lowerW _ _ HTL.out).mono ?_; rintro e w' ⟨rfl, n, rfl⟩)
      have H3 := Lib.hid (show StC b ⟨tx, true, gl, 2, tx.length⟩ w (v2.drewN n) from H2.out.drewN n)
      clear H2
      clear a0 a1 a2 a3 a4 f0 f1 f2 f3 f4 hlt
      generalize (World.drewN _ _) = v3 at *
      obtain ⟨⟨a0, a1, a2, a3, a4⟩, ⟨f0, f1, f2, f3, f4⟩, hlt⟩ := H3.out.1
      simp only at a0 a1 a2 a3 a4
      go_upto_region 9 with fail
      have H4 := Lib.hid (show StC b ⟨(tx) ++ P.lowered t, true, gl, 2, tx.length⟩ w (v3.setCell ⟨b, 0, none⟩ (.string (S ((tx) ++ P.lowered t)))) from H3.out.text ((tx) ++ P.lowered t))
      clear H3
      clear a0 a1 a2 a3 a4 f0 f1 f2 f3 f4 hlt
      generalize (World.setCell _ _ _) = v4 at *
      obtain ⟨⟨a0, a1, a2, a3, a4⟩, ⟨f0, f1, f2, f3, f4⟩, hlt⟩ := H4.out.1
      simp only at a0 a1 a2 a3 a4
      go_wp2
      first | go_end0 | (refine bodyPost_ret (results_none rfl _ _ _) rfl ?_)
      have H5 := H4.out.cap 0
      refine ⟨rfl, ?_, H5.2⟩
      have he : P.put ⟨tx, true, gl, 2, wd⟩ t = ⟨(tx) ++ P.lowered t, true, gl, 0, (tx).length⟩ := rfl
      rw [he]
      have h6 := H5.1
      simpa using h6
theorem stGlue (b : Nat) (s : P.St) (t : Str) (w : World) (hb : StBox b s w) (hc : 0 ≤ s.cap ∧ s.cap ≤ 2) (hl : s.text.length ≤ 2 ^ 30) (ht : t.length ≤ 2 ^ 30) :
    Calls Tryz.prog 261 #[.pointer (some ⟨b, 0, none⟩), .string (S t)] w (StPost b (P.gluedPut s t) w) := by
  obtain ⟨tx, jn, gl, cp, wd⟩ := s
  simp only at hc hl
  have HB := Lib.hid hb
  obtain ⟨⟨a0, a1, a2, a3, a4⟩, ⟨f0, f1, f2, f3, f4⟩, hlt⟩ := hb
  simp only at a0 a1 a2 a3 a4
  cases gl
  · go_enter Tryz.func261, Tryz.ntmps261
    go_wp2_with fail
    refine (stPut b ⟨tx, jn, false, cp, wd⟩ t _ HB.out hc hl ht).mono ?_
    rintro e w1 ⟨rfl, hb1, hc1⟩
    have HB1 := Lib.hid hb1; have HC1 := Lib.hid hc1
    obtain ⟨⟨_, _, c2, _, _⟩, _, hl1⟩ := hb1
    clear hc1 a0 a1 a2 a3 a4 f0 f1 f2 f3 f4
    have c2' : w1.cell? ⟨b, 2, none⟩ = some (.bool false) := c2
    clear c2
    go_wp2
    first | go_end0 | (refine bodyPost_ret (results_none rfl _ _ _) rfl ?_)
    exact ⟨rfl, HB1.out, HC1.out⟩
  · have HB0 := Lib.hid (HB.out.joined true)
    go_enter Tryz.func261, Tryz.ntmps261
    go_wp2_with fail
    refine (stPut b ⟨tx, true, true, cp, wd⟩ t _ HB0.out hc hl ht).mono ?_
    rintro e w1 ⟨rfl, hb1, hc1⟩
    have HB1 := Lib.hid hb1; have HC1 := Lib.hid ((Chg.put (Chg.refl _ w) (.bool true)).trans hc1)
    obtain ⟨⟨_, _, c2, _, c4⟩, ⟨_, _, _, _, g4⟩, hl1⟩ := hb1
    clear hc1 a0 a1 a2 a3 a4 f0 f1 f2 f3 f4
    have c2' : w1.cell? ⟨b, 2, none⟩ = some (.bool true) := c2
    clear c2
    go_wp2
    first | go_end0 | (refine bodyPost_ret (results_none rfl _ _ _) rfl ?_)
    exact ⟨rfl, HB1.out.word wd, HC1.out.put _⟩
end Go.Proofs.YtmlklnimoknojaaGreatDoor
