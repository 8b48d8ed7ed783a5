/- Walks: logs (reference). -/
import Derived.Test.YtbjfpceoamiaoaaDoorLog4
namespace Go.Proofs.YtbjfpceoamiaoaaDoor
open Go Go.RowKit
set_option maxHeartbeats 400000
set_option maxRecDepth 100000
abbrev logV (d p : Str) (n : Int) : Value := .agg #[.string (S d), .string (S p), .int .i64 n]
theorem own_len2 {B : Nat} {w : World} {v : Value} {l : List (Str × Str)} (h : OwnRecs B w v l) : ∃ a cap, v = .slice a l.length cap := own_len h
theorem l24Log (d p : Str) (n : Int) (w : World) (hd : d.length ≤ 2 ^ 20) (hp : p.length ≤ 2 ^ 20) :
    Calls Tryd.prog 39 #[logV d p n] w fun e w' => e = .returned (.bool (P.validLog d p n)) ∧ Below w.heap.size w w' := by
  by_cases h1 : (d.length : Int) + p.length ≤ 30000
  · have hd1 : decide ((d.length : Int) + p.length ≤ 30000) = true := decide_eq_true h1
    have HD1 := Lib.hid hd1; clear hd1
    cases h2 : (((P.openLog (d ++ p)).2 : Int) == (d.length : Int) + p.length) <;> cases h3 : (((P.openLog d).2 : Int) == (d.length : Int)) <;> cases h4 : (((P.openLog (d ++ p)).1.length : Int) == n)
    all_goals
      have HF := Lib.hid (show P.validLog d p n = _ by unfold P.validLog; rw [HD1.out, h2, h3, h4])
      go_enter Tryd.func39, Tryd.ntmps39
      go_wp2_with fail
      refine (l24Open _ _ (by simp; omega)).mono ?_
      rintro e w1 ⟨v, rfl, hown, hb⟩
      obtain ⟨ad, cp, rfl⟩ := own_len hown
      obtain ⟨hcc, hff⟩ := bcell hb
      have hz := grew0 hb
      have HB := Lib.hid hb
      clear hown hb
      go_wp2_with fail
      refine (l24Open _ _ (by omega)).mono ?_
      rintro e w2 ⟨v2, rfl, hown2, hb2⟩
      obtain ⟨ad2, cp2, rfl⟩ := own_len hown2
      obtain ⟨hcc2, hff2⟩ := bcell hb2
      have HB2 := Lib.hid hb2
      clear hown2 hb2
      go_wp2
      go_ret
      exact ⟨by rw [HF.out]; rfl, (((Below.refl _ _).alloc (Nat.le_refl _) _).trans (HB.out.mono (by simp))).trans (HB2.out.mono (by omega))⟩
  · have HF := Lib.hid (show P.validLog d p n = false by unfold P.validLog; rw [decide_eq_false h1]; rfl)
    go_enter Tryd.func39, Tryd.ntmps39
    go_wp2
    go_ret
    exact ⟨by rw [HF.out]; rfl, (Below.refl _ _).alloc (Nat.le_refl _) _⟩
theorem spec_syncLog (d p : Str) (n : Int) (w : World) (hd : d.length ≤ 2 ^ 20) (hp : p.length ≤ 2 ^ 20) :
    Calls Tryd.prog 14 #[logV d p n] w fun e w' => e = .returned (.tuple #[logV (P.syncLog d p n).1 [] (P.syncLog d p n).2.1, .bool (P.syncLog d p n).2.2]) ∧ Below w.heap.size w w' := by
  cases h1 : P.validLog d p n
  · have HF := Lib.hid (show P.syncLog d p n = ([], 0, false) by unfold P.syncLog; rw [h1]; rfl)
    go_enter Tryd.func14, Tryd.ntmps14
    go_wp2_with fail
    refine (l24Log _ _ _ _ hd hp).mono ?_
    rintro e w1 ⟨rfl, hb⟩
    obtain ⟨hcc, hff⟩ := bcell hb
    rw [h1]
    go_wp2
    refine bodyPost_ret (v := .tuple #[logV [] [] 0, .bool false]) (by simp [results, Tryd.results14, go_sem, hcc]) rfl ⟨by rw [HF.out], ?_⟩
    exact ((((((Below.refl _ _).alloc (Nat.le_refl _) _).alloc (by simp) _).trans (hb.mono (by simp; omega))).setCell (by simp) _).setCell (by simp) _).setCell (by simp) _
  · have HF := Lib.hid (show P.syncLog d p n = (d ++ p, n, true) by unfold P.syncLog; rw [h1]; rfl)
    go_enter Tryd.func14, Tryd.ntmps14
    go_wp2_with fail
    refine (l24Log _ _ _ _ hd hp).mono ?_
    rintro e w1 ⟨rfl, hb⟩
    obtain ⟨hcc, hff⟩ := bcell hb
    rw [h1]
    go_wp2
    refine bodyPost_ret (v := .tuple #[logV (d ++ p) [] n, .bool true]) (by simp [results, Tryd.results14, go_sem, hcc]) rfl ⟨by rw [HF.out], ?_⟩
    exact ((((((Below.refl _ _).alloc (Nat.le_refl _) _).alloc (by simp) _).trans (hb.mono (by simp; omega))).setCell (by simp) _).setCell (by simp) _).setCell (by simp) _
end Go.Proofs.YtbjfpceoamiaoaaDoor
