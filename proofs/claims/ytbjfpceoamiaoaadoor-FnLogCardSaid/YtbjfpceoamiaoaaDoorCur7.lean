/- Walks: the cursor draws a log. -/
import Derived.Deep.DeepCutAuto
import Derived.Deep.RegionLaw
import Derived.Test.YtbjfpceoamiaoaaDoorCur6
namespace Go.Proofs.YtbjfpceoamiaoaaDoor
open Go Go.RowKit
set_option maxHeartbeats 2000000
set_option maxRecDepth 100000
attribute [local irreducible] CL
theorem cur_log (B C K : Nat) (w : World) (hK : K < 2 ^ 37) (hB : EB ≤ B) (h : IsCur B C K w) (hE : Env w) :
    Calls Tryd.prog 52 #[.pointer (some ⟨C, 0, none⟩)] w fun e w' => ∃ (d p : Str) (n : Int), Sm d p n ∧ e = .returned (logV d p n) ∧ CurPost B C (K + 80) w w' ∧ Env w' := by
  have A1 := CL.start (t := 27) (u := 27) h hE hB
  clear h hE
  go_enter Tryd.func52, Tryd.ntmps52
  go_wp2_with fail
  refine (cur_pick B C K 7 _ (by omega) (by omega) A1.is).mono ?_
  rintro e w1 ⟨m, hm, rfl, hc⟩
  have A2 := A1.cur hc
  clear hc A1
  go_wp2_with fail
  go_loopw [4] (fun i wr => ∃ j : Nat, j ≤ 6 ∧ i = .int .i64 j ∧ ∃ (d p : Str) (n : Int), Sm d p n ∧ CL B C (K + 2 + 12 * (6 - j)) w (w.heap.size + 1) d p n wr) (fun i _ => (intOf i).toNat)
  case atStart => exact ⟨m, by omega, rfl, [], [], 0, ⟨by decide, by decide, by decide⟩, A2.mono (by omega)⟩
  case round =>
    obtain ⟨j, hj, rfl, d, p, n, hs, A3⟩ := hrel
    clear A2
    obtain ⟨_, _, _, ⟨y1, y2, y3, y4, y5, y6, y7⟩, hB1, hB2, hB3, _⟩ := A3.parts
    by_cases h0 : 0 < j
    · go_upto_region 5 with fail
      go_cut [18] (fun _ wx => ∃ (x y : Str) (z : Int), Sm x y z ∧ CL B C (K + 10 + 12 * (6 - j)) w (w.heap.size + 1) x y z wx)
      case first =>
        have A4 := A3.drew
        have hd2 : d.length ≤ 2 ^ 20 := by have := hs.1; omega
        have hp2 : p.length ≤ 2 ^ 20 := by have := hs.1; omega
        have hc2 : ∀ c : Str, c.length ≤ 16 → c.length ≤ 2 ^ 20 := fun c h => by omega
        have hK2 : K + 2 + 12 * (6 - j) < 2 ^ 38 := by omega
        have hK3 : K + 2 + 12 * (6 - j) + 8 = K + 10 + 12 * (6 - j) := by omega
        go_region_law ((go_simp; (first | (go_at_call 49; refine (cur_record B C _ _ hK2 (CL.is A4)).mono ?_; rintro e v ⟨c, r, hcl, hrl, rfl, hcp⟩; have A5 := A4.cur hcp) | (go_at_call 18; refine (spec_append _ _ _ _ _ _ hd2 hp2 (hc2 _ (by assumption)) (hc2 _ (by assumption)) (CL.env A5)).mono ?_; rintro e v ⟨rfl, hb⟩; have A6 := A5.call hb; clear hb)); clear y1 y2 y3 y4 y5 y6 y7; obtain ⟨_, _, _, ⟨y1, y2, y3, y4, y5, y6, y7⟩, _⟩ := (by first | exact CL.parts A6 | exact CL.parts A5)))
        all_goals
          go_wp2_with fail
          go_meet
          rw [hK3] at A6
          exact ⟨_, _, _, hs.app _ _, A6.put _ _ _⟩
      case rest =>
        obtain ⟨x, y, z, hs2, A5⟩ := hcut
        clear A3 y1 y2 y3 y4 y5 y6 y7 hs d p n
        obtain ⟨_, _, _, ⟨y1, y2, y3, y4, y5, y6, y7⟩, _⟩ := A5.parts
        go_wp2_with fail
        refine (cur_one B C _ 4 _ (by omega) (by omega) A5.is).mono ?_
        rintro e w2 ⟨b, rfl, hc⟩
        have A6 := (A5.cur hc).mono (show K + 10 + 12 * (6 - j) + 2 ≤ K + 2 + 12 * (6 - (j - 1)) by omega)
        clear hc A5 y1 y2 y3 y4 y5 y6 y7
        obtain ⟨_, _, _, ⟨y1, y2, y3, y4, y5, y6, y7⟩, _⟩ := A6.parts
        have hj1 : ((j : Int) - 1) = ((j - 1 : Nat) : Int) := by omega
        cases b
        · go_wp2
          go_roundw
          case rel => exact ⟨j - 1, by omega, by go_num, _, _, _, hs2, A6⟩
          case measure => simp [intOf]; omega
        · go_wp2_with fail
          refine (spec_syncLog _ _ _ _ (by have := hs2.1; omega) (by have := hs2.1; omega)).mono ?_
          rintro e w3 ⟨rfl, hb⟩
          have A7 := A6.call hb
          clear hb A6 y1 y2 y3 y4 y5 y6 y7
          obtain ⟨_, _, _, ⟨y1, y2, y3, y4, y5, y6, y7⟩, _⟩ := A7.parts
          go_wp2
          go_roundw
          case rel => exact ⟨j - 1, by omega, by go_num, _, _, _, hs2.sync, A7.put _ _ _⟩
          case measure => simp [intOf]; omega
    · have h00 : ¬ (0 : Int) < (j : Int) := by omega
      obtain ⟨z0, z1, z2, z3, z4, z5, z6⟩ := A3.parts.2.2.1
      go_wp2
      refine bodyPost_ret (v := logV d p n) (by simp [results, Tryd.results52, go_sem, z0, z1, z2]) rfl ⟨d, p, n, hs, rfl, ?_⟩
      exact (A3.mono (by omega)).done _ _ _
end Go.Proofs.YtbjfpceoamiaoaaDoor
