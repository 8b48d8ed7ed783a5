/- Walks: reading records (program). -/
import Derived.Test.YtbjfpceoamiaoaaDoorLog6
namespace Go.Proofs.YtbjfpceoamiaoaaDoor
open Go Go.RowKit
set_option maxHeartbeats 400000
set_option maxRecDepth 100000
theorem cut_c (s : Str) (c : UInt8) (w : World) (hs : s.length ≤ 2 ^ 31) (hE : Env w) :
    Calls Tryd.prog 76 #[.string (S s), .string ⟨#[c]⟩] w fun e w' => e = .returned (.tuple #[.string (S (Lib.cut s [c]).1), .string (S (Lib.cut s [c]).2.1), .bool (Lib.cut s [c]).2.2]) ∧ ∃ n, w' = w.drewN n := cut_any s [c] w hs hE
def DecPost (k : Nat) (s : Str) (w : World) (e : Ending) (w' : World) : Prop :=
  e = .returned (.tuple #[.agg #[.string (S (P.decode k s).1.1), .string (S (P.decode k s).1.2)], .int .i64 (P.decode k s).2.1, .bool (P.decode k s).2.2]) ∧ Below w.heap.size w w'
theorem decode (k : Nat) (s : Str) (w : World) (_ : k < 2 ^ 40) (hs : s.length ≤ 2 ^ 28) (hE : Env w) :
    Calls Tryd.prog 71 #[.int .i64 k, .string (S s)] w (DecPost k s w) := by
  have HE := Lib.hid hE; clear hE
  have hl1 := (P.cut_len s [10]).1
  cases h1 : (Lib.cut s [10]).2.2
  · have HF := Lib.hid (show P.decode k s = (([], []), 0, false) by unfold P.decode; rw [h1]; rfl)
    go_enter Tryd.func71, Tryd.ntmps71
    go_wp2_with fail
    refine (cut_c _ 10 _ (by omega) (HE.out.alloc _)).mono ?_
    rintro e w1 ⟨rfl, n1, rfl⟩
    rw [h1]
    go_wp2
    refine bodyPost_ret (v := .tuple #[.agg #[.string (S []), .string (S [])], .int .i64 0, .bool false]) (by simp [results, Tryd.results71, go_sem]) rfl ⟨by rw [HF.out]; rfl, ?_⟩
    exact ((below_drewN ((Below.refl _ _).alloc (Nat.le_refl _) _) _).setCell (by simp) _).setCell (by simp) _
  · obtain ⟨line, hline⟩ : ∃ line, line = (Lib.cut s [10]).1 := ⟨_, rfl⟩
    rw [← hline] at hl1
    by_cases h2 : (line.length : Int) ≤ 4000
    · obtain ⟨tt, htt⟩ : ∃ tt, tt = (Lib.cut line [35]).1 := ⟨_, rfl⟩
      obtain ⟨both, hboth⟩ : ∃ both, both = (Lib.cut tt [32]).2.1 := ⟨_, rfl⟩
      obtain ⟨c, hc⟩ : ∃ c, c = (Lib.cut both [62]).1 := ⟨_, rfl⟩
      obtain ⟨r, hr⟩ : ∃ r, r = (Lib.cut both [62]).2.1 := ⟨_, rfl⟩
      have hl2 : tt.length ≤ line.length := by rw [htt]; exact (P.cut_len _ _).1
      have hl3 : both.length ≤ tt.length := by rw [hboth]; exact (P.cut_len _ _).2
      have hl4 : c.length ≤ both.length := by rw [hc]; exact (P.cut_len _ _).1
      have hl5 : r.length ≤ both.length := by rw [hr]; exact (P.cut_len _ _).2
      have hF : P.decode k s = if ((P.encode k c r).2 && ((P.encode k c r).1 == line ++ [10])) then ((c, r), line.length + 1, true) else (([], []), 0, false) := by
        unfold P.decode
        simp only [← hline, ← htt, ← hboth, ← hc, ← hr, h1, decide_eq_true h2, Bool.true_and]
      have HF0 := Lib.hid hF; clear hF
      have HLINE := Lib.hid hline; clear hline
      have HTT := Lib.hid htt; clear htt
      have HBOTH := Lib.hid hboth; clear hboth
      have HC := Lib.hid hc; clear hc
      have HR := Lib.hid hr; clear hr
      cases h3 : (P.encode k c r).2 <;> cases h4 : ((P.encode k c r).1 == line ++ [10])
      all_goals
        have HF := Lib.hid (show P.decode k s = _ by rw [HF0.out, h3, h4])
        go_enter Tryd.func71, Tryd.ntmps71
        go_wp2_with fail
        refine (cut_c _ 10 _ (by omega) (HE.out.alloc _)).mono ?_
        rintro e w1 ⟨rfl, n1, rfl⟩
        rw [h1, ← HLINE.out]
        go_wp2_with fail
        refine (cut_c _ 35 _ (by omega) ((HE.out.alloc _).drewN _)).mono ?_
        rintro e w1 ⟨rfl, n2, rfl⟩
        rw [← HTT.out]
        go_wp2_with fail
        refine (cut_c _ 32 _ (by omega) ((HE.out.alloc _).drewN _)).mono ?_
        rintro e w1 ⟨rfl, n3, rfl⟩
        rw [← HBOTH.out]
        go_wp2_with fail
        refine (cut_c _ 62 _ (by omega) ((HE.out.alloc _).drewN _)).mono ?_
        rintro e w1 ⟨rfl, n4, rfl⟩
        rw [← HC.out, ← HR.out]
        go_wp2_with fail
        refine (encodeRecord _ _ _ _ (by omega) (by omega) (((HE.out.alloc _).drewN _).alloc _)).mono ?_
        rintro e w1 ⟨rfl, hb⟩
        rw [h3]
        obtain ⟨hcc, hff⟩ := bcell hb
        have HB := Lib.hid hb; clear hb
        have hk0 : w1.cell? ⟨w.heap.size, 0, none⟩ = some (.string (S [])) := by rw [hcc _ _ (by simp; omega)]; go_simp
        have hk1 : w1.cell? ⟨w.heap.size, 1, none⟩ = some (.string (S [])) := by rw [hcc _ _ (by simp; omega)]; go_simp
        go_wp2
        first
          | refine bodyPost_ret (v := .tuple #[.agg #[.string (S []), .string (S [])], .int .i64 0, .bool false]) (by simp [results, Tryd.results71, go_sem, hk0, hk1]) rfl ⟨by rw [HF.out]; rfl, ?_⟩
          | refine bodyPost_ret (v := .tuple #[.agg #[.string (S c), .string (S r)], .int .i64 ((line.length : Int) + 1), .bool true]) (by simp [results, Tryd.results71, go_sem, hk0, hk1]) rfl ⟨by rw [HF.out]; rfl, ?_⟩
        exact ((((below_drewN ((Below.refl _ _).alloc (Nat.le_refl _) _) _).alloc (by simp) _).trans (HB.out.mono (by simp; omega))).setCell (by simp) _).setCell (by simp) _
    · have HF := Lib.hid (show P.decode k s = (([], []), 0, false) by unfold P.decode; simp only [← hline, h1, decide_eq_false h2]; rfl)
      have h2' := Int.not_le.1 h2
      have HLINE := Lib.hid hline; clear hline h2
      go_enter Tryd.func71, Tryd.ntmps71
      go_wp2_with fail
      refine (cut_c _ 10 _ (by omega) (HE.out.alloc _)).mono ?_
      rintro e w1 ⟨rfl, n1, rfl⟩
      rw [h1, ← HLINE.out]
      go_wp2
      refine bodyPost_ret (v := .tuple #[.agg #[.string (S []), .string (S [])], .int .i64 0, .bool false]) (by simp [results, Tryd.results71, go_sem]) rfl ⟨by rw [HF.out]; rfl, ?_⟩
      exact ((below_drewN ((Below.refl _ _).alloc (Nat.le_refl _) _) _).setCell (by simp) _).setCell (by simp) _
end Go.Proofs.YtbjfpceoamiaoaaDoor
