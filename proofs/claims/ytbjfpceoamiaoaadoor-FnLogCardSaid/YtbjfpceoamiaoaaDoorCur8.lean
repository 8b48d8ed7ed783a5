/- Walks: the cursor draws any log. -/
import Derived.Test.YtbjfpceoamiaoaaDoorCur7
namespace Go.Proofs.YtbjfpceoamiaoaaDoor
open Go Go.RowKit
set_option maxHeartbeats 2000000
set_option maxRecDepth 100000
attribute [local irreducible] CL
theorem cur_anyLog (B C K : Nat) (w : World) (hK : K < 2 ^ 36) (hB : EB ≤ B) (h : IsCur B C K w) (hE : Env w) :
    Calls Tryd.prog 57 #[.pointer (some ⟨C, 0, none⟩)] w fun e w' => ∃ (d p : Str) (n : Int), d.length ≤ 70000 ∧ p.length ≤ 70000 ∧ e = .returned (logV d p n) ∧ CurPost B C (K + 100) w w' ∧ Env w' := by
  have HC := Lib.hid h
  have HE := Lib.hid hE
  clear h hE
  go_enter Tryd.func57, Tryd.ntmps57
  go_wp2_with fail
  refine (cur_log B C K _ (by omega) hB ((CurPost.refl HC.out (Nat.le_refl _)).alloc _).1 (HE.out.alloc _)).mono ?_
  rintro e w1 ⟨d, p, n, ⟨hs1, hs2, hs3⟩, rfl, hc, _⟩
  have A1 := CL.start2 (u := 27) HC.out HE.out hB hc d p n
  clear hc HC HE
  go_wp2_with fail
  refine (cur_pick B C (K + 80) 24 _ (by omega) (by omega) A1.is).mono ?_
  rintro e w2 ⟨k, hk, rfl, hc⟩
  have A2 := A1.cur hc
  clear hc A1
  obtain ⟨_, _, ⟨z0, z1, z2, z3, z4, z5, z6⟩, ⟨y1, y2, y3, y4, y5, y6, y7⟩, hB1, hB2, hB3, hB4⟩ := A2.parts
  by_cases hk0 : k = 0
  · subst hk0
    go_wp2
    refine bodyPost_ret (v := logV d p (n + 1)) (by simp [results, Tryd.results57, go_sem, z0, z1, z2]) rfl ⟨d, p, n + 1, by omega, by omega, rfl, ?_⟩
    exact ((A2.put2 _).mono (by omega)).done _ _ _
  · by_cases hk1 : k = 1
    · subst hk1
      go_wp2_with fail
      refine (cur_spoilt B C _ p [35, 62, 10, 48, 49] _ (by omega) (by omega) (by decide) (by decide) A2.is).mono ?_
      rintro e w3 ⟨s, hsl, rfl, hc⟩
      have A3 := A2.cur hc
      clear hc A2 z0 z1 z2 z3 z4 z5 z6 y1 y2 y3 y4 y5 y6 y7
      obtain ⟨_, _, ⟨z0, z1, z2, z3, z4, z5, z6⟩, ⟨y1, y2, y3, y4, y5, y6, y7⟩, _⟩ := A3.parts
      go_wp2
      refine bodyPost_ret (v := logV d s n) (by simp [results, Tryd.results57, go_sem, z0, z1, z2]) rfl ⟨d, s, n, by omega, by omega, rfl, ?_⟩
      exact ((A3.put1 _).mono (by omega)).done _ _ _
    · by_cases hk2 : k = 2
      · subst hk2
        have f1 : ¬ 9223372036854775807 < d.length + p.length := by omega
        go_wp2
        refine bodyPost_ret (v := logV (d ++ p) p n) (by simp [results, Tryd.results57, go_sem, z0, z1, z2]) rfl ⟨d ++ p, p, n, by rw [List.length_append]; omega, by omega, rfl, ?_⟩
        exact ((A2.put0 _).mono (by omega)).done _ _ _
      · have hx0 : ¬ (k : Int) = 0 := by omega
        have hx1 : ¬ (k : Int) = 1 := by omega
        have hx2 : ¬ (k : Int) = 2 := by omega
        go_wp2
        refine bodyPost_ret (v := logV d p n) (by simp [results, Tryd.results57, go_sem, z0, z1, z2]) rfl ⟨d, p, n, by omega, by omega, rfl, ?_⟩
        exact (A2.mono (by omega)).done _ _ _
end Go.Proofs.YtbjfpceoamiaoaaDoor
