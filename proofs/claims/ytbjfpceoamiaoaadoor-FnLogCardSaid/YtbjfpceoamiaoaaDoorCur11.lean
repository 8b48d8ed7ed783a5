/- Walks: a log and a record drawn from bytes. -/
import Derived.Test.YtbjfpceoamiaoaaDoorCur10
namespace Go.Proofs.YtbjfpceoamiaoaaDoor
open Go Go.RowKit
set_option maxHeartbeats 2000000
set_option maxRecDepth 100000
theorem DL.box {w v : World} {C K R Q G : Nat} {x y : Str} {z : Int} (h : DL w C K R true Q G x y z v) : Box2 v Q [] [] ∧ w.heap.size ≤ Q ∧ Q ≠ C ∧ Q ≠ G ∧ Q ≠ R := h.parts.2.2.1 rfl
attribute [local irreducible] DL
def DrawnApp (w : World) (e : Ending) (w' : World) : Prop := ∃ (d p : Str) (n : Int) (c r : Str), d.length ≤ 70000 ∧ p.length ≤ 70000 ∧ c.length ≤ 16 ∧ r.length ≤ 16 ∧ e = .returned (.tuple #[logV d p n, .agg #[.string (S c), .string (S r)]]) ∧ Below w.heap.size w w'
theorem drawAppendRecord (cv : Value) (w : World) (hc : CodeIs w cv) (hE : Env w) :
    Calls Tryd.prog 34 #[cv] w (DrawnApp w) := by
  have H1 := Lib.hid (IsCur.fresh (t := 70) hc (((Below.refl w.heap.size w).alloc (Nat.le_refl _) (.cells #[.string (S []), .string (S []), .int .i64 0] 27)).alloc (by simp) (.cells #[.string (S []), .string (S [])] 39)))
  have HE := Lib.hid hE
  obtain ⟨ad, n, cap, rfl, _, _⟩ := hc
  clear hE
  go_enter Tryd.func34, Tryd.ntmps34
  go_wp2_with fail
  refine (cur_anyLog w.heap.size (w.heap.size + 1 + 1) 0 _ (by decide) HE.out.size (by simpa using H1.out) (((HE.out.alloc _).alloc _).alloc _)).mono ?_
  rintro e w1 ⟨d, p, m, hd, hp, rfl, hcp, _⟩
  have A1 := DL.start (q := true) (Q := w.heap.size + 1) (R := w.heap.size) (by simp) (((Below.refl w.heap.size w).alloc (Nat.le_refl _) _).alloc (by simp) _) ((Box3.fresh w [] [] 0 27).below ((Below.refl _ _).alloc (Nat.le_refl _) _)) (Nat.le_refl _) (fun _ => ⟨by have := Box2.fresh (w.alloc (.cells #[.string (S []), .string (S []), .int .i64 0] 27)) [] [] 39; simpa using this, by omega, by omega⟩) HE.out hcp d p m 27
  clear hcp H1 HE
  obtain ⟨⟨z0, z1, z2, z3, z4, z5, z6⟩, ⟨y1, y2, y3, y4, y5, y6, y7⟩, _, hn1, hn2, hn3⟩ := A1.parts
  go_wp2_with fail
  refine (cur_one _ _ _ 40 _ (by omega) (by omega) A1.is).mono ?_
  rintro e w2 ⟨b, rfl, hcp⟩
  have A2 := A1.cur hcp
  clear hcp A1 z0 z1 z2 z3 z4 z5 z6 y1 y2 y3 y4 y5 y6 y7
  obtain ⟨⟨z0, z1, z2, z3, z4, z5, z6⟩, ⟨y1, y2, y3, y4, y5, y6, y7⟩, _⟩ := A2.parts
  cases b
  · obtain ⟨⟨q0, q1, q2, q3, q4⟩, _, hn4, hn5, hn6⟩ := A2.box
    go_upto_region 9 with fail
    have A3 := A2.drew
    go_region_law ((go_simp; go_at_call 49; refine (cur_record _ _ _ _ (by decide) (DL.is A3)).mono ?_; rintro e v ⟨c, r, hcl, hrl, rfl, hcp⟩; have A4 := A3.cur hcp; clear hcp z0 z1 z2 z3 z4 z5 z6 y1 y2 y3 y4 y5 y6 y7 q0 q1 q2 q3 q4; obtain ⟨⟨z0, z1, z2, z3, z4, z5, z6⟩, ⟨y1, y2, y3, y4, y5, y6, y7⟩, _⟩ := DL.parts A4; obtain ⟨⟨q0, q1, q2, q3, q4⟩, _⟩ := DL.box A4))
    all_goals
      go_wp2
      refine bodyPost_ret (v := .tuple #[logV d p m, .agg #[.string (S c), .string (S r)]]) (by simp [results, Tryd.results34, go_sem, z0, z1, z2, q0, q1]) rfl ⟨d, p, m, c, r, hd, hp, hcl, hrl, rfl, ?_⟩
      exact ((((A4.below.setCell A4.res _).setCell A4.res _).setCell A4.res _).setCell A4.box.2.1 _).setCell A4.box.2.1 _
  · go_wp2_with fail
    have A3 := A2.put [] [] 0
    clear A2 z0 z1 z2 z3 z4 z5 z6 y1 y2 y3 y4 y5 y6 y7
    refine (cur_pick _ _ _ 2 _ (by decide) (by decide) A3.is).mono ?_
    rintro e w3 ⟨k, hk, rfl, hcp⟩
    have A4 := A3.cur hcp
    clear hcp A3
    go_wp2_with fail
    go_loopw [6] (fun i wr => ∃ j : Nat, j ≤ 60 ∧ i = .int .i64 j ∧ ∃ (x y : Str) (z : Int), Sm x y z ∧ DL w (w.heap.size + 1 + 1) 300 w.heap.size true (w.heap.size + 1) w1.heap.size x y z wr) (fun i _ => (intOf i).toNat)
    case atStart => exact ⟨59 + k, by omega, by go_num, [], [], 0, ⟨by decide, by decide, by decide⟩, A4.mono (by omega)⟩
    case round =>
      obtain ⟨j, hj, rfl, x, y, z, hs, A5⟩ := hrel
      clear A4
      obtain ⟨⟨z0, z1, z2, z3, z4, z5, z6⟩, ⟨y1, y2, y3, y4, y5, y6, y7⟩, _, hn1, hn2, hn3⟩ := A5.parts
      by_cases h0 : 0 < j
      · go_wp2_with fail
        refine (spec_append _ _ _ [120] [] _ (by have := hs.1; omega) (by have := hs.1; omega) (by decide) (by decide) A5.env).mono ?_
        rintro e w4 ⟨rfl, hb⟩
        have A6 := A5.call hb
        have hj1 : ((j : Int) - 1) = ((j - 1 : Nat) : Int) := by omega
        clear hb A5 z0 z1 z2 z3 z4 z5 z6 y1 y2 y3 y4 y5 y6 y7
        obtain ⟨⟨z0, z1, z2, z3, z4, z5, z6⟩, ⟨y1, y2, y3, y4, y5, y6, y7⟩, _⟩ := A6.parts
        go_wp2
        go_roundw
        case rel => exact ⟨j - 1, by omega, by go_num, _, _, _, hs.app _ _, A6.put _ _ _⟩
        case measure => simp [intOf]; omega
      · have h00 : ¬ (0 : Int) < (j : Int) := by omega
        obtain ⟨⟨q0, q1, q2, q3, q4⟩, _, hn4, hn5, hn6⟩ := A5.box
        go_upto_region 9 with fail
        have A6 := A5.drew
        go_region_law ((go_simp; go_at_call 49; refine (cur_record _ _ _ _ (by decide) (DL.is A6)).mono ?_; rintro e v ⟨c, r, hcl, hrl, rfl, hcp⟩; have A4 := A6.cur hcp; clear hcp z0 z1 z2 z3 z4 z5 z6 y1 y2 y3 y4 y5 y6 y7 q0 q1 q2 q3 q4; obtain ⟨⟨z0, z1, z2, z3, z4, z5, z6⟩, ⟨y1, y2, y3, y4, y5, y6, y7⟩, _⟩ := DL.parts A4; obtain ⟨⟨q0, q1, q2, q3, q4⟩, _⟩ := DL.box A4))
        all_goals
          go_wp2
          refine bodyPost_ret (v := .tuple #[logV x y z, .agg #[.string (S c), .string (S r)]]) (by simp [results, Tryd.results34, go_sem, z0, z1, z2, q0, q1]) rfl ⟨x, y, z, c, r, by have := hs.1; omega, by have := hs.1; omega, hcl, hrl, rfl, ?_⟩
          exact ((((A4.below.setCell A4.res _).setCell A4.res _).setCell A4.res _).setCell A4.box.2.1 _).setCell A4.box.2.1 _
end Go.Proofs.YtbjfpceoamiaoaaDoor
