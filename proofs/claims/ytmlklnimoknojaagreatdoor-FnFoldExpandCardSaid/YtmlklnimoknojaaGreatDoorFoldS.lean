/- Walks: folds (reference): validity, an outline folded and unfolded, a folded text. -/
import Derived.Deep.DeepCutAuto
import Derived.Deep.RegionHeld
import Derived.BigQuiet
import Derived.IntWalk
import Derived.Test.YtmlklnimoknojaaGreatDoorFold3
namespace Go.Proofs.YtmlklnimoknojaaGreatDoor
open Go Go.RowKit
set_option maxHeartbeats 4000000
set_option maxRecDepth 100000
theorem l10Fold (k : Int) (s : Str) (w : World) (hs : s.length ≤ 2 ^ 30) :
    Calls Tryz.prog 149 #[.agg #[.int .i64 k, .string (S s)]] w fun e w' => e = .returned (.bool (P.fold (k, s))) ∧ Below w.heap.size w w' := by
  have hb0 : Below w.heap.size w (w.alloc (.cells #[.int .i64 k, .string (S s)] 115)) := (Below.refl _ _).alloc (Nat.le_refl _) _
  have HB0 := Lib.hid hb0; clear hb0
  have HF := Lib.hid (show P.fold (k, s) = (decide (13 ≤ k ∧ k ≤ 22) && (s.all P.lower && decide (1 ≤ (s.length : Int) ∧ (s.length : Int) ≤ 8))) from rfl)
  go_enter Tryz.func149, Tryz.ntmps149
  go_wp2
  go_loop [3] (fun i => ∃ j : Nat, j ≤ s.length ∧ i = .int .i64 j ∧ (s.take j).all P.lower = true) (fun i => s.length - (intOf i).toNat)
  case atStart => exact ⟨0, by omega, rfl, by simp⟩
  case round =>
    obtain ⟨j, hj, rfl, ha⟩ := hrel
    have HA := Lib.hid ha; clear ha
    by_cases hlt : j < s.length
    · have i1 : (j : Int) < (s.length : Int) := by omega
      rcases Int.lt_or_le (s[j].toNat : Int) 97 with h1 | h1
      · have H := Lib.hid h1
        go_wp2
        go_ret
        exact ⟨ret_bool (by rw [HF.out, P.all_false hlt (P.lower_no (.inl H.out))]; simp), HB0.out⟩
      · rcases Int.lt_or_le 122 (s[j].toNat : Int) with h2 | h2
        · have H := Lib.hid h2
          go_wp2
          go_ret
          exact ⟨ret_bool (by rw [HF.out, P.all_false hlt (P.lower_no (.inr H.out))]; simp), HB0.out⟩
        · have HL := Lib.hid (P.lower_yes h1 h2)
          go_wp2
          go_round
          case rel => exact ⟨j + 1, by omega, by go_num, all_snoc j hlt HA.out HL.out⟩
          case measure => simp [intOf]; omega
    · have i1 : ¬ (j : Int) < (s.length : Int) := by omega
      have HT := Lib.hid (show s.all P.lower = true by rw [← List.take_of_length_le (l := s) (i := j) (by omega)]; exact HA.out)
      go_wp2_with fail
      refine (l1In _ _ _ _).mono ?_
      rintro e w1 ⟨rfl, rfl⟩
      obtain ⟨q, hq⟩ : ∃ q, decide (13 ≤ k ∧ k ≤ 22) = q := ⟨_, rfl⟩
      have HQ := Lib.hid hq
      rw [hq]
      clear hq
      cases q
      · go_wp2
        go_ret
        exact ⟨ret_bool (by rw [HF.out, HQ.out]; rfl), HB0.out⟩
      · go_wp2_with fail
        refine (l1In _ _ _ _).mono ?_
        rintro e w1 ⟨rfl, rfl⟩
        go_wp2
        go_ret
        exact ⟨ret_bool (by rw [HF.out, HQ.out, HT.out]; simp), HB0.out⟩
theorem spec_isValidFolds (u : Value) (l : P.Folds) (w : World) (hu : FldR w u l) (ht : ∀ f ∈ l, f.2.length ≤ 2 ^ 30) :
    Calls Tryz.prog 82 #[u] w fun e w' => e = .returned (.bool (P.foldsOk l)) ∧ Below w.heap.size w w' := by
  have HU := Lib.hid hu; have HT := Lib.hid ht; clear ht
  obtain ⟨ad, cap, rfl, ⟨hl45, _⟩, _, _⟩ := hu
  by_cases h6 : (l.length : Int) ≤ 6
  · have i6 : ¬ (6 : Int) < (l.length : Int) := by omega
    go_enter Tryz.func82, Tryz.ntmps82
    go_wp2_with fail
    go_loopw [3] (fun i wr => ∃ j : Nat, j ≤ l.length ∧ i = .int .i64 j ∧ (l.take j).all P.fold = true ∧ (l.take j).Pairwise P.other ∧ Below w.heap.size w wr) (fun i _ => l.length - (intOf i).toNat)
    case atStart => exact ⟨0, by omega, rfl, rfl, List.Pairwise.nil, Below.refl _ _⟩
    case round =>
      obtain ⟨j, hj, rfl, ha, hp, hb⟩ := hrel
      have HA := Lib.hid ha; have HP := Lib.hid hp; have HB := Lib.hid hb
      clear ha hp
      by_cases hlt : j < l.length
      · have i1 : (j : Int) < (l.length : Int) := by omega
        obtain ⟨g, o, hga, hgl, c0, c1⟩ := (HU.out.below hb).at j hlt
        subst hga
        have HTL := Lib.hid (HT.out l[j] (List.getElem_mem hlt))
        have HBAD := Lib.hid (P.folds_bad hlt)
        have HTW := Lib.hid (P.folds_twice hlt)
        have HSN := Lib.hid (take_snoc l j hlt)
        have HPR := Lib.hid (P.take_pair hlt HP.out)
        generalize l[j] = en at *
        obtain ⟨k, s⟩ := en
        simp only at HTL HTW HPR c0 c1
        clear hb
        go_wp2_with fail
        refine (l10Fold k s _ HTL.out).mono ?_
        rintro e w1 ⟨rfl, hb⟩
        have HB1 := Lib.hid (HB.out.trans (hb.mono HB.out.size))
        have C0 := Lib.hid ((hb.cell (p := ⟨g, o + j * 2, none⟩) hgl).trans c0)
        have HGL := Lib.hid (Nat.lt_of_lt_of_le hgl hb.size)
        clear hb c0 c1 hgl
        obtain ⟨f, hf⟩ : ∃ f, P.fold (k, s) = f := ⟨_, rfl⟩
        have HF := Lib.hid hf
        rw [hf]
        clear hf
        cases f
        · have HR := Lib.hid (HBAD.out HF.out)
          go_wp2
          go_ret
          exact ⟨ret_bool HR.out.symm, HB1.out⟩
        · go_wp2_with fail
          go_loopw [4] (fun i wx => ∃ b : Nat, b ≤ j ∧ i = .int .i64 b ∧ (∀ (x : Nat) (hx : x < l.length), x < b → (l[x]'hx).1 ≠ k) ∧ Below w1.heap.size w1 wx) (fun i _ => j - (intOf i).toNat)
          case atStart => exact ⟨0, by omega, rfl, fun x _ h => absurd h (Nat.not_lt_zero _), Below.refl _ _⟩
          case round =>
            obtain ⟨b, hbj, rfl, hne, hb⟩ := hrel
            have HNE := Lib.hid hne; have HBB := Lib.hid hb
            clear hne
            by_cases hl2 : b < j
            · have i2 : (b : Int) < (j : Int) := by omega
              have hbl : b < l.length := by omega
              have i3 : (b : Int) < (l.length : Int) := by omega
              obtain ⟨g2, o2, hga2, _, d0, _⟩ := (HU.out.below (HB1.out.trans (hb.mono HB1.out.size))).at b hbl
              injection hga2 with hga2
              injection hga2 with hg2 ho2
              subst hg2 ho2
              have c0 := (hb.cell (p := ⟨g, o + j * 2, none⟩) HGL.out).trans C0.out
              clear hb
              by_cases he : (l[b]'hbl).1 = k
              · have HE := Lib.hid he
                rw [he] at d0
                have HR := Lib.hid (HTW.out ⟨l[b], by rw [List.mem_take_iff_getElem]; exact ⟨b, by omega, rfl⟩, he⟩)
                clear he
                go_wp2_with fail
                go_quiet (fail)
                go_wp2
                go_ret
                exact ⟨ret_bool HR.out.symm, below_drewN (HB1.out.trans (HBB.out.mono HB1.out.size)) _⟩
              · have HE := Lib.hid he
                go_wp2_with fail
                go_quiet (fail)
                go_wp2
                go_roundw
                case rel => exact ⟨b + 1, by omega, by go_num, fun x hx h => by
                  by_cases e : x = b
                  · subst e; exact HE.out
                  · exact HNE.out x hx (by omega), below_drewN HBB.out _⟩
                case measure => simp [intOf]; omega
            · have i2 : ¬ (b : Int) < (j : Int) := by omega
              have HNO := Lib.hid (show ∀ f ∈ l.take j, f.1 ≠ k from fun f hf => by
                obtain ⟨x, hx, rfl⟩ := List.mem_iff_getElem.1 hf
                rw [List.length_take] at hx
                rw [List.getElem_take]
                exact HNE.out x (by omega) (by omega))
              clear hb
              go_wp2
              go_roundw
              case rel => exact ⟨j + 1, by omega, by go_num, by rw [HSN.out, List.all_append, HA.out]; simp [HF.out], HPR.out HNO.out, HB1.out.trans (HBB.out.mono HB1.out.size)⟩
              case measure => simp [intOf]; omega
      · have HR := Lib.hid (P.folds_all (by omega) HA.out HP.out)
        have H6 := Lib.hid h6
        have i1 : ¬ (j : Int) < (l.length : Int) := by omega
        clear hb
        go_wp2
        go_ret
        exact ⟨ret_bool (by rw [HR.out, decide_eq_true H6.out]), HB.out⟩
  · have i6 : (6 : Int) < (l.length : Int) := by omega
    have HR := Lib.hid (show P.foldsOk l = false by unfold P.foldsOk; rw [decide_eq_false h6]; rfl)
    go_enter Tryz.func82, Tryz.ntmps82
    go_wp2
    go_ret
    exact ⟨ret_bool HR.out.symm, Below.refl _ _⟩
end Go.Proofs.YtmlklnimoknojaaGreatDoor
