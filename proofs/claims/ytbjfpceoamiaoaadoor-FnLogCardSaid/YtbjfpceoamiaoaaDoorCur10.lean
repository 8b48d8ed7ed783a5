/- Walks: a log and a record drawn from bytes. -/
import Derived.Test.YtbjfpceoamiaoaaDoorCur9
namespace Go.Proofs.YtbjfpceoamiaoaaDoor
open Go Go.RowKit
set_option maxHeartbeats 2000000
set_option maxRecDepth 100000
attribute [local irreducible] DL
theorem vBig (v : Value) (n : Nat) (ad : Option Addr) (cap : Nat) (hv : v = .slice ad n cap) (hn : n ≤ maxLen) (w : World) :
    Calls Tryd.prog 26 #[v] w fun e w' => e = .returned (.bool (decide (65536 < n))) ∧ w = w' := by
  subst hv
  unfold maxLen at hn
  go_enter Tryd.func26, Tryd.ntmps26
  by_cases h : 65536 < n
  · have h1 : (65536 : Int) < (n : Int) := by omega
    go_wp2
    go_ret
    exact ⟨by simp [h], rfl⟩
  · have h1 : ¬ (65536 : Int) < (n : Int) := by omega
    go_wp2
    go_ret
    exact ⟨by simp [h], rfl⟩
theorem drawCrashLog (cv : Value) (w : World) (hc : CodeIs w cv) (hE : Env w) :
    Calls Tryd.prog 38 #[cv] w fun e w' => ∃ (d p : Str) (n k : Int) (b : Bool), d.length ≤ 70000 ∧ p.length ≤ 70000 ∧ -1 ≤ k ∧ k ≤ 70010 ∧ e = .returned (.tuple #[logV d p n, .int .i64 k, .bool b]) ∧ Below w.heap.size w w' := by
  have H1 := Lib.hid (IsCur.fresh (t := 70) hc ((Below.refl w.heap.size w).alloc (Nat.le_refl _) (.cells #[.string (S []), .string (S []), .int .i64 0] 27)))
  have HE := Lib.hid hE
  obtain ⟨ad, n, cap, rfl, _, _⟩ := hc
  clear hE
  go_enter Tryd.func38, Tryd.ntmps38
  go_wp2_with fail
  refine (cur_anyLog w.heap.size (w.heap.size + 1) 0 _ (by decide) HE.out.size (by simpa using H1.out) ((HE.out.alloc _).alloc _)).mono ?_
  rintro e w1 ⟨d, p, m, hd, hp, rfl, hcp, _⟩
  have A1 := DL.start (q := false) (Q := 0) (R := w.heap.size) (by simp) ((Below.refl w.heap.size w).alloc (Nat.le_refl _) _) (Box3.fresh _ _ _ _ _) (Nat.le_refl _) (by intro e; cases e) HE.out hcp d p m 27
  clear hcp H1 HE
  obtain ⟨⟨z0, z1, z2, z3, z4, z5, z6⟩, ⟨y1, y2, y3, y4, y5, y6, y7⟩, _, hn1, hn2, hn3⟩ := A1.parts
  go_wp2_with fail
  refine (cur_pick _ _ _ ((p.length : Int) + 3) _ (by omega) (by omega) A1.is).mono ?_
  rintro e w2 ⟨k, hk, rfl, hcp⟩
  have hk2 : (k : Int) ≤ 70010 := by omega
  have A2 := A1.cur hcp
  clear hcp A1 z0 z1 z2 z3 z4 z5 z6 y1 y2 y3 y4 y5 y6 y7 hk
  obtain ⟨⟨z0, z1, z2, z3, z4, z5, z6⟩, ⟨y1, y2, y3, y4, y5, y6, y7⟩, _⟩ := A2.parts
  go_upto_region 4 with fail
  have A3 := A2.drew
  go_region_law ((go_simp; go_at_call 55; refine (cur_one _ _ _ 2 _ (by decide) (by decide) (DL.is A3)).mono ?_; rintro e v ⟨b, rfl, hcp⟩; have A4 := A3.cur hcp; clear hcp z0 z1 z2 z3 z4 z5 z6 y1 y2 y3 y4 y5 y6 y7; obtain ⟨⟨z0, z1, z2, z3, z4, z5, z6⟩, ⟨y1, y2, y3, y4, y5, y6, y7⟩, _⟩ := DL.parts A4))
  all_goals
    go_wp2
    refine bodyPost_ret (v := .tuple #[logV d p m, .int .i64 ((k : Int) - 1), .bool b]) (by simp [results, Tryd.results38, go_sem, z0, z1, z2]) rfl ⟨d, p, m, _, b, hd, hp, by omega, by omega, rfl, ?_⟩
    exact ((A4.below.setCell A4.res _).setCell A4.res _).setCell A4.res _
end Go.Proofs.YtbjfpceoamiaoaaDoor
