/- Walks: the rule of a suffix, the joined word (program). -/
import Derived.Deep.DeepCutAuto
import Derived.Test.YtmlklnimoknojaaGreatDoorSpellI
import Derived.Test.YtmlklnimoknojaaGreatDoorCurE1
import Derived.Test.YtmlklnimoknojaaGreatDoorSpellS2
namespace Go.Proofs.YtmlklnimoknojaaGreatDoor
open Go Go.RowKit
set_option maxHeartbeats 4000000
set_option maxRecDepth 100000
theorem any1 {f : Str → Bool} (a : Str) : [a].any f = f a := by simp
theorem any3 {f : Str → Bool} (a b c : Str) : [a, b, c].any f = (f a || (f b || f c)) := by simp
theorem any5 {f : Str → Bool} (a b c d e : Str) : [a, b, c, d, e].any f = (f a || (f b || (f c || (f d || f e)))) := by simp
theorem impl_rule (x y : Str) (w : World) (hx : x.length ≤ 2 ^ 30) (hy : 0 < y.length) :
    Calls Tryz.prog 290 #[.string (S x), .string (S y)] w fun e w' => e = .returned (.int .i64 (P.rule x y)) ∧ Below w.heap.size w w' := by
  have hr : P.rule x y = (if (y == [115]) && P.consY x then 1
    else if (y == [115]) && (P.ends x [115] || (P.ends x [120] || (P.ends x [122] || (P.ends x [99, 104] || P.ends x [115, 104])))) then 2
    else if (y == [105, 110, 103]) && P.ends x [105, 101] then 3
    else if P.consY x && !(y.getD 0 0 == 105) then 4
    else if P.dropE x && P.vow (y.getD 0 0) then 5
    else if decide (P.vgroups x = 1) && (P.closed x && P.vow (y.getD 0 0)) then 6 else 0) := rfl
  rw [P.getD_at hy] at hr
  obtain ⟨y0, hy0⟩ : ∃ v, (y[0]'hy == 105) = v := ⟨_, rfl⟩
  have f0 : (((y[0]'hy).toNat : Int) == 105) = y0 := (u8_beq _ 105 (by decide)).trans hy0
  have f0' : (((y[0]'hy).toNat : Int) != 105) = !y0 := by rw [← f0]; rfl
  have h5 : (P.dropE x && P.vow (y[0]'hy)) = (decide (2 ≤ x.length) && (P.ends x [101] && (!P.ends x [101, 101] && (!P.ends x [111, 101] && (!P.ends x [121, 101] && P.vow (y[0]'hy)))))) := by
    unfold P.dropE P.eoy
    cases decide (2 ≤ x.length) <;> cases P.ends x [101] <;> cases P.ends x [101, 101] <;> cases P.ends x [111, 101] <;> cases P.ends x [121, 101] <;> rfl
  have h6 : (decide (P.vgroups x = 1) && (P.closed x && P.vow (y[0]'hy))) = ((decide (P.vgroups x = 1) && P.closed x) && P.vow (y[0]'hy)) := by
    cases decide (P.vgroups x = 1) <;> rfl
  rw [hy0, h5, h6] at hr
  have HR := Lib.hid hr
  clear hr hy0 f0 h5 h6
  have hcy : P.consY x = (decide (2 ≤ x.length) && (P.back x 1 == 121 && !P.vow (P.back x 2))) := rfl
  have hcl : P.closed x = (decide (3 ≤ x.length) && (!P.vow (P.back x 3) && (P.vow (P.back x 2) && (!P.vow (P.back x 1) && !P.wxy (P.back x 1))))) := rfl
  have HCY := Lib.hid hcy; have HCL := Lib.hid hcl
  have HW3 := Lib.hid (fun h => P.ends_wxy (s := x) h)
  clear hcy hcl
  go_enter Tryz.func290, Tryz.ntmps290
  go_upto_region 2 with (go_at_call 293; refine (isVowel _ _).mono ?_; rintro e w' ⟨rfl, rfl⟩)
  go_cut [7] (fun c wx => ∃ b, c = .bool b ∧ P.consY x = b ∧ w = wx)
  case first =>
    by_cases h : 2 ≤ x.length
    · obtain ⟨n2, hn2⟩ : ∃ n, n + 2 = x.length := ⟨x.length - 2, by omega⟩
      obtain ⟨l1, b1⟩ := P.back_at (s := x) (n := n2 + 1) (k := 1) (by omega) (by omega)
      obtain ⟨l2, b2⟩ := P.back_at (s := x) (n := n2) (k := 2) (by omega) (by omega)
      rw [b1, b2, decide_eq_true h] at HCY
      have i1 : (2 : Int) ≤ (x.length : Int) := by omega
      have i2 : (x.length : Int) - 1 = ((n2 + 1 : Nat) : Int) := by omega
      have i3 : (x.length : Int) - 2 = (n2 : Int) := by omega
      obtain ⟨q, hq⟩ : ∃ q, (x[n2 + 1]'l1 == 121) = q := ⟨_, rfl⟩
      have f0 : (((x[n2 + 1]'l1).toNat : Int) == 121) = q := (u8_beq _ 121 (by decide)).trans hq
      rw [hq] at HCY
      clear b1 b2 hq hn2 h
      cases q
      · go_wp2_with (go_at_call 293; refine (isVowel _ _).mono ?_; rintro e w' ⟨rfl, rfl⟩)
        go_meet
        exact ⟨_, rfl, by rw [HCY.out]; rfl, rfl⟩
      · go_wp2_with (go_at_call 293; refine (isVowel _ _).mono ?_; rintro e w' ⟨rfl, rfl⟩)
        go_meet
        exact ⟨_, rfl, by rw [HCY.out]; rfl, rfl⟩
    · have i1 : ¬ (2 : Int) ≤ (x.length : Int) := by omega
      go_wp2
      go_meet
      exact ⟨_, rfl, by rw [HCY.out, decide_eq_false h]; rfl, rfl⟩
  case rest =>
  obtain ⟨cy, rfl, hcy, rfl⟩ := hcut
  rw [hcy] at HR
  clear HCY hcy
  go_upto_region 3 with fail
  go_cut [8] (fun c wx => ∃ b, c = .bool b ∧ P.closed x = b ∧ Below w.heap.size w wx)
  case first =>
    by_cases h : 3 ≤ x.length
    · obtain ⟨n3, hn3⟩ : ∃ n, n + 3 = x.length := ⟨x.length - 3, by omega⟩
      obtain ⟨l1, b1⟩ := P.back_at (s := x) (n := n3 + 2) (k := 1) (by omega) (by omega)
      obtain ⟨l2, b2⟩ := P.back_at (s := x) (n := n3 + 1) (k := 2) (by omega) (by omega)
      obtain ⟨l3, b3⟩ := P.back_at (s := x) (n := n3) (k := 3) (by omega) (by omega)
      have hw3 := HW3.out (by omega)
      rw [b1] at hw3
      rw [b1, b2, b3, decide_eq_true h, ← hw3] at HCL
      have i1 : (3 : Int) ≤ (x.length : Int) := by omega
      have i2 : (x.length : Int) - 1 = ((n3 + 2 : Nat) : Int) := by omega
      have i3 : (x.length : Int) - 2 = ((n3 + 1 : Nat) : Int) := by omega
      have i4 : (x.length : Int) - 3 = (n3 : Int) := by omega
      obtain ⟨q1, hq1⟩ : ∃ q, P.vow (x[n3 + 2]'l1) = q := ⟨_, rfl⟩
      obtain ⟨q2, hq2⟩ : ∃ q, P.vow (x[n3 + 1]'l2) = q := ⟨_, rfl⟩
      obtain ⟨q3, hq3⟩ : ∃ q, P.vow (x[n3]'l3) = q := ⟨_, rfl⟩
      rw [hq1, hq2, hq3] at HCL
      clear b1 b2 b3 hn3 h hw3
      cases q3 with
      | true =>
        go_wp2_with (go_at_call 293; refine (isVowel _ _).mono ?_; rintro e w' ⟨rfl, rfl⟩)
        go_meet
        exact ⟨_, rfl, by rw [HCL.out]; rfl, Below.refl _ _⟩
      | false =>
      cases q2 with
      | false =>
        go_wp2_with (go_at_call 293; refine (isVowel _ _).mono ?_; rintro e w' ⟨rfl, rfl⟩)
        go_meet
        exact ⟨_, rfl, by rw [HCL.out]; rfl, Below.refl _ _⟩
      | true =>
      cases q1 with
      | true =>
        go_wp2_with (go_at_call 293; refine (isVowel _ _).mono ?_; rintro e w' ⟨rfl, rfl⟩)
        go_meet
        exact ⟨_, rfl, by rw [HCL.out]; rfl, Below.refl _ _⟩
      | false =>
        go_wp2_with (go_at_call 293; refine (isVowel _ _).mono ?_; rintro e w' ⟨rfl, rfl⟩)
        refine (endsWith _ 3 x [[119], [120], [121]] _ (by simp) (lit_strs [[119], [120], [121]] _ _) (by omega) (by decide)).mono ?_
        rintro e w1 ⟨rfl, hb⟩
        have HB := Lib.hid (((Below.refl w.heap.size w).alloc (Nat.le_refl _) _).trans (hb.mono (by simp)))
        clear hb
        rw [any3]
        go_wp2
        go_meet
        exact ⟨_, rfl, by rw [HCL.out]; simp, HB.out⟩
    · have i1 : ¬ (3 : Int) ≤ (x.length : Int) := by omega
      go_wp2
      go_meet
      exact ⟨_, rfl, by rw [HCL.out, decide_eq_false h]; rfl, Below.refl _ _⟩
  case rest =>
  obtain ⟨cl, rfl, hcl, hb⟩ := hcut
  rw [hcl] at HR
  have HB0 := Lib.hid hb
  clear hb hcl HCL HW3
  generalize hww : wc = w0 at *
  clear hww
  go_upto_region 4 with fail
  go_cut [62] (fun c wx => c = .bool ((y == [115]) && cy) ∧ Below w.heap.size w wx)
  case first =>
    cases g1 : (y == [115]) with
    | false =>
      go_wp2
      go_meet
      exact ⟨by simp [*], HB0.out⟩
    | true =>
      go_wp2
      go_meet
      exact ⟨by simp [*], HB0.out⟩
  case rest =>
  obtain ⟨rfl, hb⟩ := hcut
  have HB1 := Lib.hid hb
  clear hb HB0
  generalize hww : wc = w1 at *
  clear hww
  cases hc0 : ((y == [115]) && cy)
  rotate_left
  · have HZ := Lib.hid (show P.rule x y = 1 by rw [HR.out, hc0]; rfl)
    clear hc0
    go_wp2
    go_ret
    exact ⟨ret_int (by rw [HZ.out]; rfl), HB1.out⟩
  have N0 := Lib.hid hc0
  clear hc0
  go_upto_region 6 with fail
  go_cut [68] (fun c wx => c = .bool ((y == [115]) && (P.ends x [115] || (P.ends x [120] || (P.ends x [122] || (P.ends x [99, 104] || P.ends x [115, 104]))))) ∧ Below w.heap.size w wx)
  case first =>
    cases g1 : (y == [115]) with
    | false =>
      go_wp2
      go_meet
      exact ⟨by simp [*], HB1.out⟩
    | true =>
      go_wp2_with fail
      refine (endsWith _ 5 x [[115], [120], [122], [99, 104], [115, 104]] _ (by simp) (lit_strs [[115], [120], [122], [99, 104], [115, 104]] _ _) (by omega) (by decide)).mono ?_
      rintro e v1 ⟨rfl, hb⟩
      have Hv1 := Lib.hid (((HB1.out).alloc (HB1.out).size _).trans (hb.mono (by have h := (HB1.out).size; simp; omega)))
      clear hb
      rw [any5]
      go_wp2
      go_meet
      exact ⟨by simp [*], Hv1.out⟩
  case rest =>
  obtain ⟨rfl, hb⟩ := hcut
  have HB2 := Lib.hid hb
  clear hb HB1
  generalize hww : wc = w2 at *
  clear hww
  cases hc1 : ((y == [115]) && (P.ends x [115] || (P.ends x [120] || (P.ends x [122] || (P.ends x [99, 104] || P.ends x [115, 104])))))
  rotate_left
  · have HZ := Lib.hid (show P.rule x y = 2 by rw [HR.out, N0.out, if_neg (by decide), hc1]; rfl)
    clear hc1
    go_wp2
    go_ret
    exact ⟨ret_int (by rw [HZ.out]; rfl), HB2.out⟩
  have N1 := Lib.hid hc1
  clear hc1
  go_upto_region 8 with fail
  go_cut [76] (fun c wx => c = .bool ((y == [105, 110, 103]) && P.ends x [105, 101]) ∧ Below w.heap.size w wx)
  case first =>
    cases g1 : (y == [105, 110, 103]) with
    | false =>
      go_wp2
      go_meet
      exact ⟨by simp [*], HB2.out⟩
    | true =>
      go_wp2_with fail
      refine (endsWith _ 1 x [[105, 101]] _ (by simp) (lit_strs [[105, 101]] _ _) (by omega) (by decide)).mono ?_
      rintro e v1 ⟨rfl, hb⟩
      have Hv1 := Lib.hid (((HB2.out).alloc (HB2.out).size _).trans (hb.mono (by have h := (HB2.out).size; simp; omega)))
      clear hb
      rw [any1]
      go_wp2
      go_meet
      exact ⟨by simp [*], Hv1.out⟩
  case rest =>
  obtain ⟨rfl, hb⟩ := hcut
  have HB3 := Lib.hid hb
  clear hb HB2
  generalize hww : wc = w3 at *
  clear hww
  cases hc2 : ((y == [105, 110, 103]) && P.ends x [105, 101])
  rotate_left
  · have HZ := Lib.hid (show P.rule x y = 3 by rw [HR.out, N0.out, if_neg (by decide), N1.out, if_neg (by decide), hc2]; rfl)
    clear hc2
    go_wp2
    go_ret
    exact ⟨ret_int (by rw [HZ.out]; rfl), HB3.out⟩
  have N2 := Lib.hid hc2
  clear hc2
  go_upto_region 10 with fail
  go_cut [84] (fun c wx => c = .bool (cy && !y0) ∧ Below w.heap.size w wx)
  case first =>
    cases cy with
    | false =>
      go_wp2
      go_meet
      exact ⟨by simp [*], HB3.out⟩
    | true =>
      go_wp2
      go_meet
      exact ⟨by simp [*], HB3.out⟩
  case rest =>
  obtain ⟨rfl, hb⟩ := hcut
  have HB4 := Lib.hid hb
  clear hb HB3
  generalize hww : wc = w4 at *
  clear hww
  cases hc3 : (cy && !y0)
  rotate_left
  · have HZ := Lib.hid (show P.rule x y = 4 by rw [HR.out, N0.out, if_neg (by decide), N1.out, if_neg (by decide), N2.out, if_neg (by decide), hc3]; rfl)
    clear hc3
    go_wp2
    go_ret
    exact ⟨ret_int (by rw [HZ.out]; rfl), HB4.out⟩
  have N3 := Lib.hid hc3
  clear hc3
  go_upto_region 12 with fail
  go_cut [91] (fun c wx => c = .bool (decide (2 ≤ x.length) && (P.ends x [101] && (!P.ends x [101, 101] && (!P.ends x [111, 101] && (!P.ends x [121, 101] && P.vow (y[0]'hy)))))) ∧ Below w.heap.size w wx)
  case first =>
    by_cases g1 : 2 ≤ x.length
    · have g' : (2 : Int) ≤ (x.length : Int) := by omega
      have HG := Lib.hid g1
      have HP5 := Lib.hid (show (decide (2 ≤ x.length) && (P.ends x [101] && (!P.ends x [101, 101] && (!P.ends x [111, 101] && (!P.ends x [121, 101] && P.vow (y[0]'hy)))))) = (P.ends x [101] && (!(P.ends x [101, 101] || (P.ends x [111, 101] || P.ends x [121, 101])) && P.vow (y[0]'hy))) by
        rw [decide_eq_true HG.out]
        cases P.ends x [101] <;> cases P.ends x [101, 101] <;> cases P.ends x [111, 101] <;> cases P.ends x [121, 101] <;> rfl)
      go_wp2_with fail
      refine (endsWith _ 1 x [[101]] _ (by simp) (lit_strs [[101]] _ _) (by omega) (by decide)).mono ?_
      rintro e v1 ⟨rfl, hb⟩
      have Hv1 := Lib.hid (((HB4.out).alloc (HB4.out).size _).trans (hb.mono (by have h := (HB4.out).size; simp; omega)))
      clear hb
      rw [any1]
      cases g2 : P.ends x [101] with
      | false =>
        go_wp2
        go_meet
        exact ⟨by rw [HP5.out]; simp [*], Hv1.out⟩
      | true =>
        go_wp2_with fail
        refine (endsWith _ 3 x [[101, 101], [111, 101], [121, 101]] _ (by simp) (lit_strs [[101, 101], [111, 101], [121, 101]] _ _) (by omega) (by decide)).mono ?_
        rintro e v2 ⟨rfl, hb⟩
        have Hv2 := Lib.hid (((Hv1.out).alloc (Hv1.out).size _).trans (hb.mono (by have h := (Hv1.out).size; simp; omega)))
        clear hb
        rw [any3]
        cases g3 : (P.ends x [101, 101] || (P.ends x [111, 101] || P.ends x [121, 101])) with
        | true =>
          go_wp2
          go_meet
          exact ⟨by rw [HP5.out]; simp [*], Hv2.out⟩
        | false =>
          go_wp2
          go_meet
          exact ⟨by rw [HP5.out]; simp [*], Hv2.out⟩
    · have g' : ¬ (2 : Int) ≤ (x.length : Int) := by omega
      go_wp2
      go_meet
      exact ⟨by simp [*], HB4.out⟩
  case rest =>
  obtain ⟨rfl, hb⟩ := hcut
  have HB5 := Lib.hid hb
  clear hb HB4
  generalize hww : wc = w5 at *
  clear hww
  cases hc4 : (decide (2 ≤ x.length) && (P.ends x [101] && (!P.ends x [101, 101] && (!P.ends x [111, 101] && (!P.ends x [121, 101] && P.vow (y[0]'hy))))))
  rotate_left
  · have HZ := Lib.hid (show P.rule x y = 5 by rw [HR.out, N0.out, if_neg (by decide), N1.out, if_neg (by decide), N2.out, if_neg (by decide), N3.out, if_neg (by decide), hc4]; rfl)
    clear hc4
    go_wp2
    go_ret
    exact ⟨ret_int (by rw [HZ.out]; rfl), HB5.out⟩
  have N4 := Lib.hid hc4
  clear hc4
  go_upto_region 14 with fail
  go_cut [108] (fun c wx => c = .bool ((decide (P.vgroups x = 1) && cl) && P.vow (y[0]'hy)) ∧ Below w.heap.size w wx)
  case first =>
    obtain ⟨p, hp⟩ : ∃ q, decide (P.vgroups x = 1) = q := ⟨_, rfl⟩
    have f1 : ((P.vgroups x : Int) == 1) = p := by rw [← hp, Bool.eq_iff_iff]; simp; omega
    cases p with
    | false =>
      go_wp2_with (go_at_call 295; refine (vowelGroups _ _ hx).mono ?_; rintro e w' ⟨rfl, rfl⟩)
      go_meet
      exact ⟨by simp [*], HB5.out⟩
    | true =>
    cases cl with
    | false =>
      go_wp2_with (go_at_call 295; refine (vowelGroups _ _ hx).mono ?_; rintro e w' ⟨rfl, rfl⟩)
      go_meet
      exact ⟨by simp [*], HB5.out⟩
    | true =>
      go_wp2_with (go_at_call 295; refine (vowelGroups _ _ hx).mono ?_; rintro e w' ⟨rfl, rfl⟩)
      go_meet
      exact ⟨by simp [*], HB5.out⟩
  case rest =>
  obtain ⟨rfl, hb⟩ := hcut
  have HB6 := Lib.hid hb
  clear hb HB5
  generalize hww : wc = w6 at *
  clear hww
  cases hc5 : ((decide (P.vgroups x = 1) && cl) && P.vow (y[0]'hy))
  rotate_left
  · have HZ := Lib.hid (show P.rule x y = 6 by rw [HR.out, N0.out, if_neg (by decide), N1.out, if_neg (by decide), N2.out, if_neg (by decide), N3.out, if_neg (by decide), N4.out, if_neg (by decide), hc5]; rfl)
    clear hc5
    go_wp2
    go_ret
    exact ⟨ret_int (by rw [HZ.out]; rfl), HB6.out⟩
  have N5 := Lib.hid hc5
  clear hc5
  have HZ := Lib.hid (show P.rule x y = 0 by rw [HR.out, N0.out, if_neg (by decide), N1.out, if_neg (by decide), N2.out, if_neg (by decide), N3.out, if_neg (by decide), N4.out, if_neg (by decide), N5.out]; rfl)
  go_wp2
  go_ret
  exact ⟨ret_int (by rw [HZ.out]; rfl), HB6.out⟩
end Go.Proofs.YtmlklnimoknojaaGreatDoor
