/- Walks: lists of atoms applied (program). -/
import Derived.Deep.DeepCutAuto
import Derived.Deep.RegionHeld
import Derived.Test.YtpkahblajgaemaaGreatDoorFmtI3
namespace Go.Proofs.YtpkahblajgaemaaGreatDoor
namespace P
def applyR (s : St) (k : Int) (t : Bs) : St × Bool := if atom k t then (if 2000 < (apply s k t).text.length then (⟨[], false, false, 0, 0⟩, false) else (apply s k t, true)) else (⟨[], false, false, 0, 0⟩, false)
theorem runA_step {s : St} {a : Int × Bs} {l : List (Int × Bs)} (hg : stGood s) (hl : s.text.length ≤ 2000) : runA s (a :: l) = if (applyR s a.1 a.2).2 then runA (applyR s a.1 a.2).1 l else none := by
  conv => lhs; unfold runA
  rw [stOk_iff.2 ⟨hg, hl⟩, Bool.true_and]
  unfold applyR
  split
  · split
    · rfl
    · rfl
  · rfl
theorem applyR_good {s : St} {k : Int} {t : Bs} (hg : stGood s) (h : (applyR s k t).2 = true) : stGood (applyR s k t).1 ∧ (applyR s k t).1.text.length ≤ 2000 := by
  unfold applyR at h ⊢
  split at h
  · rename_i ha
    rw [if_pos ha]
    split at h
    · cases h
    · rename_i hl
      rw [if_neg hl]
      exact ⟨apply_good hg ha, by simp only; omega⟩
  · cases h
theorem atom_kind {k : Int} {t : Bs} (h : atom k t = true) : 1 ≤ k ∧ k ≤ 10 := by
  have h2 := (trim_note h).2.2
  exact h2
end P
open Go Go.RowKit
set_option maxHeartbeats 4000000
set_option maxRecDepth 100000
theorem stApply (b : Nat) (s : P.St) (k : Int) (t : Str) (w : World) (hb : StBox b s w) (hg : P.stGood s) (hl : s.text.length ≤ 2 ^ 29) (ha : P.atom k t = true) :
    Calls Tryz.prog 200 #[.pointer (some ⟨b, 0, none⟩), .agg #[.int .i64 k, .string (S t)]] w (StPost b (P.apply s k t) w) := by
  obtain ⟨tx, jn, gl, cp, wd⟩ := s
  have hk := P.atom_kind ha
  have ht : t.length ≤ 2 ^ 29 := by have := (P.atom_text ha).2; omega
  have h1 := hg.2.1
  have h2 := hg.2.2
  simp only at hl h1 h2
  have hk10 : k = 1 ∨ k = 2 ∨ k = 3 ∨ k = 4 ∨ k = 5 ∨ k = 6 ∨ k = 7 ∨ k = 8 ∨ k = 9 ∨ k = 10 := by omega
  rcases hk10 with rfl | rfl | rfl | rfl | rfl | rfl | rfl | rfl | rfl | rfl
  · exact stApply1 b tx jn gl cp wd t w hb h1 h2 hl ht
  · exact stApply2 b tx jn gl cp wd t w hb h1 h2 hl ht
  · exact stApply3 b tx jn gl cp wd t w hb h1 h2 hl ht
  · exact stApply4 b tx jn gl cp wd t w hb h1 h2 hl ht
  · exact stApply5 b tx jn gl cp wd t w hb h1 h2 hl ht
  · exact stApply6 b tx jn gl cp wd t w hb h1 h2 hl ht
  · exact stApply7 b tx jn gl cp wd t w hb h1 h2 hl ht
  · exact stApply8 b tx jn gl cp wd t w hb h1 h2 hl ht
  · exact stApply9 b tx jn gl cp wd t w hb h1 h2 hl ht
  · exact stApply10 b tx jn gl cp wd t w hb h1 h2 hl ht
theorem isValidState (s : P.St) (w : World) (hs : s.text.length ≤ 2 ^ 40) :
    Calls Tryz.prog 174 #[stV s] w fun e w' => e = .returned (.bool (P.stOk s)) ∧ Below w.heap.size w w' := by
  obtain ⟨t, jn, gl, cp, wd⟩ := s
  simp only at hs
  have HB0 := Lib.hid ((Below.refl w.heap.size w).alloc (Nat.le_refl _) (.cells #[.string (S t), .bool jn, .bool gl, .int .i64 cp, .int .i64 (wd : Int)] 140))
  have hf : P.stOk ⟨t, jn, gl, cp, wd⟩ = (decide ((t.length : Int) ≤ 2000) && (t.all P.prn && (decide (0 ≤ cp ∧ cp ≤ 2) && decide (0 ≤ (wd : Int) ∧ (wd : Int) ≤ (t.length : Int))))) := rfl
  obtain ⟨q1, hq1⟩ : ∃ q, t.all P.prn = q := ⟨_, rfl⟩
  obtain ⟨q2, hq2⟩ : ∃ q, decide (0 ≤ cp ∧ cp ≤ 2) = q := ⟨_, rfl⟩
  have HQ1 := Lib.hid hq1; have HQ2 := Lib.hid hq2
  by_cases h0 : (t.length : Int) ≤ 2000
  · rw [decide_eq_true h0, hq1, hq2] at hf
    have HF := Lib.hid hf
    clear hf hq1 hq2
    cases q1
    · go_enter Tryz.func174, Tryz.ntmps174
      go_wp2_with (first | (go_at_call 107; refine (isPrintable _ _ hs).mono ?_; rintro e w' ⟨rfl, rfl⟩; rw [HQ1.out]) | (go_at_call 108; refine (impl_in _ _ _ _).mono ?_; rintro e w' ⟨rfl, rfl⟩))
      go_ret
      exact ⟨ret_bool (by rw [HF.out]; rfl), HB0.out⟩
    · cases q2
      · go_enter Tryz.func174, Tryz.ntmps174
        go_wp2_with (first | (go_at_call 107; refine (isPrintable _ _ hs).mono ?_; rintro e w' ⟨rfl, rfl⟩; rw [HQ1.out]) | (go_at_call 108; refine (impl_in _ _ _ _).mono ?_; rintro e w' ⟨rfl, rfl⟩; try rw [HQ2.out]))
        go_ret
        exact ⟨ret_bool (by rw [HF.out]; rfl), HB0.out⟩
      · go_enter Tryz.func174, Tryz.ntmps174
        go_wp2_with (first | (go_at_call 107; refine (isPrintable _ _ hs).mono ?_; rintro e w' ⟨rfl, rfl⟩; rw [HQ1.out]) | (go_at_call 108; refine (impl_in _ _ _ _).mono ?_; rintro e w' ⟨rfl, rfl⟩; try rw [HQ2.out]))
        go_ret
        exact ⟨ret_bool (by rw [HF.out]; simp), HB0.out⟩
  · rw [decide_eq_false h0] at hf
    have HF := Lib.hid hf
    clear hf hq1 hq2
    go_enter Tryz.func174, Tryz.ntmps174
    go_wp2
    go_ret
    exact ⟨ret_bool (by rw [HF.out]; rfl), HB0.out⟩
def ApPost (r : P.St × Bool) (w : World) (e : Ending) (w' : World) : Prop := e = .returned (.tuple #[stV r.1, .bool r.2]) ∧ Below w.heap.size w w'
theorem applyAtom (s : P.St) (k : Int) (t : Str) (w : World) (hg : P.stGood s) (hl : s.text.length ≤ 2000) (ht : t.length ≤ 2 ^ 29) :
    Calls Tryz.prog 175 #[stV s, .agg #[.int .i64 k, .string (S t)]] w (ApPost (P.applyR s k t) w) := by
  have HG := Lib.hid hg
  have HSO := Lib.hid (P.stOk_iff.2 ⟨hg, hl⟩)
  have HN := Lib.hid (SAp.new w s k t)
  obtain ⟨tx, jn, gl, cp, wd⟩ := s
  simp only at hl
  clear hg
  go_enter Tryz.func175, Tryz.ntmps175
  go_wp2_with fail
  refine (isValidState ⟨tx, jn, gl, cp, wd⟩ _ (by simp only; omega)).mono ?_
  rintro e w1 ⟨rfl, hb⟩
  rw [HSO.out]
  have H1 := Lib.hid (HN.out.below hb)
  clear hb HN
  obtain ⟨⟨⟨a0, a1, a2, a3, a4⟩, ⟨f0, f1, f2, f3, f4⟩, hlt⟩, ⟨k0, k1, hlk⟩, ⟨⟨b0, b1, b2, b3, b4⟩, ⟨g0, g1, g2, g3, g4⟩, hlr⟩, _⟩ := H1.out
  simp only at a0 a1 a2 a3 a4 b0 b1 b2 b3 b4
  go_wp2_with fail
  refine (isValidAtom k t _ (by unfold maxLen; omega)).mono ?_
  rintro e w2 ⟨rfl, hb⟩
  have H2 := Lib.hid (H1.out.below hb)
  clear hb H1
  clear a0 a1 a2 a3 a4 hlt f0 f1 f2 f3 f4 k0 k1 hlk b0 b1 b2 b3 b4 hlr g0 g1 g2 g3 g4
  obtain ⟨⟨⟨a0, a1, a2, a3, a4⟩, ⟨f0, f1, f2, f3, f4⟩, hlt⟩, ⟨k0, k1, hlk⟩, ⟨⟨b0, b1, b2, b3, b4⟩, ⟨g0, g1, g2, g3, g4⟩, hlr⟩, _⟩ := H2.out
  simp only at a0 a1 a2 a3 a4 b0 b1 b2 b3 b4
  obtain ⟨q, hq⟩ : ∃ q, P.atom k t = q := ⟨_, rfl⟩
  have HQ := Lib.hid hq
  rw [hq]
  clear hq
  cases q
  · have HA := Lib.hid (show P.applyR ⟨tx, jn, gl, cp, wd⟩ k t = (⟨[], false, false, 0, 0⟩, false) by unfold P.applyR; rw [HQ.out]; rfl)
    go_wp2
    refine bodyPost_ret (v := .tuple #[stV st0, .bool false]) (by simp [results, Tryz.results175, go_sem, b0, b1, b2, b3, b4]) rfl ⟨by rw [HA.out], ?_⟩
    repeat (refine Below.setCell ?_ (by first | (simp; done) | (simp; omega)) _)
    exact H2.out.2.2.2
  · have HA := Lib.hid (show P.applyR ⟨tx, jn, gl, cp, wd⟩ k t = if 2000 < (P.apply ⟨tx, jn, gl, cp, wd⟩ k t).text.length then (⟨[], false, false, 0, 0⟩, false) else (P.apply ⟨tx, jn, gl, cp, wd⟩ k t, true) by unfold P.applyR; rw [HQ.out]; rfl)
    go_wp2_with fail
    refine (stApply w.heap.size ⟨tx, jn, gl, cp, wd⟩ k t _ H2.out.1 HG.out (by simp only; omega) HQ.out).mono ?_
    rintro e w3 ⟨rfl, hb3, hc3⟩
    have H3 := Lib.hid (H2.out.turn hc3 hb3)
    clear hb3 hc3 H2
    clear a0 a1 a2 a3 a4 hlt f0 f1 f2 f3 f4 k0 k1 hlk b0 b1 b2 b3 b4 hlr g0 g1 g2 g3 g4
    generalize P.apply ⟨tx, jn, gl, cp, wd⟩ k t = r at *
    obtain ⟨rt, rj, rg, rc, rw⟩ := r
    obtain ⟨⟨⟨a0, a1, a2, a3, a4⟩, ⟨f0, f1, f2, f3, f4⟩, hlt⟩, ⟨k0, k1, hlk⟩, ⟨⟨b0, b1, b2, b3, b4⟩, ⟨g0, g1, g2, g3, g4⟩, hlr⟩, _⟩ := H3.out
    simp only at a0 a1 a2 a3 a4 b0 b1 b2 b3 b4
    by_cases h2 : 2000 < rt.length
    · have i1 : (2000 : Int) < (rt.length : Int) := by omega
      have HE := Lib.hid (HA.out.trans (if_pos h2))
      clear h2
      go_wp2
      refine bodyPost_ret (v := .tuple #[stV st0, .bool false]) (by simp [results, Tryz.results175, go_sem, b0, b1, b2, b3, b4]) rfl ⟨by rw [HE.out], ?_⟩
      repeat (refine Below.setCell ?_ (by first | (simp; done) | (simp; omega)) _)
      exact H3.out.2.2.2
    · have i1 : ¬ (2000 : Int) < (rt.length : Int) := by omega
      have HE := Lib.hid (HA.out.trans (if_neg h2))
      clear h2
      go_wp2
      refine bodyPost_ret (v := .tuple #[stV ⟨rt, rj, rg, rc, rw⟩, .bool true]) (by simp [results, Tryz.results175, go_sem, b0, b1, b2, b3, b4]) rfl ⟨by rw [HE.out], ?_⟩
      repeat (refine Below.setCell ?_ (by first | (simp; done) | (simp; omega)) _)
      exact H3.out.2.2.2
end Go.Proofs.YtpkahblajgaemaaGreatDoor
