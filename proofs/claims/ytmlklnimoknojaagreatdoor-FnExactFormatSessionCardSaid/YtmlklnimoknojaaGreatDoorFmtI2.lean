/- Walks: atoms applied to a state in its box (program). -/
import Derived.Deep.DeepCutAuto
import Derived.Deep.RegionHeld
import Derived.RegionTactic
import Derived.BigRegion
import Derived.BigQuiet
import Derived.Deep.QuietTactic
import Derived.Test.YtmlklnimoknojaaGreatDoorFmtI
namespace Go.Proofs.YtmlklnimoknojaaGreatDoor
open Go Go.RowKit
set_option maxHeartbeats 4000000
set_option maxRecDepth 100000
/-- a state in its box; nothing else has changed -/
def StC (b : Nat) (s : P.St) (w v : World) : Prop := StBox b s v ∧ Chg (fun x => x = b) w v
theorem StC.text {b : Nat} {s : P.St} {w v : World} (h : StC b s w v) (t : Str) : StC b { s with text := t } w (v.setCell ⟨b, 0, none⟩ (.string (S t))) := ⟨h.1.text t, h.2.put _⟩
theorem StC.joined {b : Nat} {s : P.St} {w v : World} (h : StC b s w v) (x : Bool) : StC b { s with joined := x } w (v.setCell ⟨b, 1, none⟩ (.bool x)) := ⟨h.1.joined x, h.2.put _⟩
theorem StC.glued {b : Nat} {s : P.St} {w v : World} (h : StC b s w v) (x : Bool) : StC b { s with glued := x } w (v.setCell ⟨b, 2, none⟩ (.bool x)) := ⟨h.1.glued x, h.2.put _⟩
theorem StC.cap {b : Nat} {s : P.St} {w v : World} (h : StC b s w v) (x : Int) : StC b { s with cap := x } w (v.setCell ⟨b, 3, none⟩ (.int .i64 x)) := ⟨h.1.cap x, h.2.put _⟩
theorem StC.word {b : Nat} {s : P.St} {w v : World} (h : StC b s w v) (x : Nat) : StC b { s with word := x } w (v.setCell ⟨b, 4, none⟩ (.int .i64 (x : Int))) := ⟨h.1.word x, h.2.put _⟩
theorem StC.below {b : Nat} {s : P.St} {w v v' : World} (h : StC b s w v) (hb : Below v.heap.size v v') : StC b s w v' := ⟨h.1.below hb, h.2.trans (Below.chg hb _)⟩
theorem StC.drewN {b : Nat} {s : P.St} {w v : World} (h : StC b s w v) (n : Nat) : StC b s w (v.drewN n) := h.below (below_drewN (Below.refl _ _) n)
theorem stPut (b : Nat) (s : P.St) (t : Str) (w : World) (hb : StBox b s w) (hc : 0 ≤ s.cap ∧ s.cap ≤ 2) (hl : s.text.length ≤ 2 ^ 30) (ht : t.length ≤ 2 ^ 30) :
    Calls Tryz.prog 260 #[.pointer (some ⟨b, 0, none⟩), .string (S t)] w (StPost b (P.put s t) w) := by
  obtain ⟨tx, jn, gl, cp, wd⟩ := s
  simp only at hc hl
  have H0 := Lib.hid (show StC b ⟨tx, jn, gl, cp, wd⟩ w w from ⟨hb, Chg.refl _ _⟩)
  have h3 : cp = 0 ∨ cp = 1 ∨ cp = 2 := by omega
  have hul := P.upper_len t
  have hll := P.lowered_len t
  have j1 : ¬ 9223372036854775807 < tx.length + 1 + t.length := by omega
  have j2 : ¬ 9223372036854775807 < tx.length + t.length := by omega
  have j3 : ¬ 9223372036854775807 < tx.length + 1 + (P.upper t).length := by omega
  have j4 : ¬ 9223372036854775807 < tx.length + (P.upper t).length := by omega
  have j5 : ¬ 9223372036854775807 < tx.length + 1 + (P.lowered t).length := by omega
  have j6 : ¬ 9223372036854775807 < tx.length + (P.lowered t).length := by omega
  have j7 : ¬ 9223372036854775807 < tx.length + 1 := by omega
  have HTL := Lib.hid (show t.length ≤ 2 ^ 40 by omega)
  clear hul hll hc hb
  cases jn
  · skip
    obtain ⟨⟨a0, a1, a2, a3, a4⟩, ⟨f0, f1, f2, f3, f4⟩, hlt⟩ := H0.out.1
    simp only at a0 a1 a2 a3 a4
    go_enter Tryz.func260, Tryz.ntmps260
    go_upto_region 2 with fail
    have H1 := Lib.hid (show StC b ⟨tx ++ [32], false, gl, cp, wd⟩ w (w.setCell ⟨b, 0, none⟩ (.string (S (tx ++ [32])))) from H0.out.text (tx ++ [32]))
    clear H0
    clear a0 a1 a2 a3 a4 f0 f1 f2 f3 f4 hlt
    generalize (World.setCell _ _ _) = v1 at *
    obtain ⟨⟨a0, a1, a2, a3, a4⟩, ⟨f0, f1, f2, f3, f4⟩, hlt⟩ := H1.out.1
    simp only at a0 a1 a2 a3 a4
    go_upto_region 3 with fail
    have H2 := Lib.hid (show StC b ⟨tx ++ [32], false, gl, cp, tx.length + 1⟩ w (v1.setCell ⟨b, 4, none⟩ (.int .i64 ((tx.length : Int) + 1))) from H1.out.word (tx.length + 1))
    clear H1
    clear a0 a1 a2 a3 a4 f0 f1 f2 f3 f4 hlt
    generalize (World.setCell _ _ _) = v2 at *
    obtain ⟨⟨a0, a1, a2, a3, a4⟩, ⟨f0, f1, f2, f3, f4⟩, hlt⟩ := H2.out.1
    simp only at a0 a1 a2 a3 a4
    rcases h3 with rfl | rfl | rfl
    · skip
      go_upto_region 9 with fail
      have H4 := Lib.hid (show StC b ⟨tx ++ 32 :: t, false, gl, 0, tx.length + 1⟩ w (v2.setCell ⟨b, 0, none⟩ (.string (S (tx ++ 32 :: t)))) from H2.out.text (tx ++ 32 :: t))
      clear H2
      clear a0 a1 a2 a3 a4 f0 f1 f2 f3 f4 hlt
      generalize (World.setCell _ _ _) = v4 at *
      obtain ⟨⟨a0, a1, a2, a3, a4⟩, ⟨f0, f1, f2, f3, f4⟩, hlt⟩ := H4.out.1
      simp only at a0 a1 a2 a3 a4
      go_wp2
      first | go_end0 | (refine bodyPost_ret (results_none rfl _ _ _) rfl ?_)
      have H5 := H4.out.cap 0
      refine ⟨rfl, ?_, H5.2⟩
      have he : P.put ⟨tx, false, gl, 0, wd⟩ t = ⟨(tx ++ [32]) ++ t, false, gl, 0, (tx ++ [32]).length⟩ := rfl
      rw [he]
      have h6 := H5.1
      simpa using h6
    · skip
      go_upto_region 8 with (go_at_call 263; refine (upperW _ _ HTL.out).mono ?_; rintro e w' ⟨rfl, n, rfl⟩)
      have H3 := Lib.hid (show StC b ⟨tx ++ [32], false, gl, 1, tx.length + 1⟩ w (v2.drewN n) from H2.out.drewN n)
      clear H2
      clear a0 a1 a2 a3 a4 f0 f1 f2 f3 f4 hlt
      generalize (World.drewN _ _) = v3 at *
      obtain ⟨⟨a0, a1, a2, a3, a4⟩, ⟨f0, f1, f2, f3, f4⟩, hlt⟩ := H3.out.1
      simp only at a0 a1 a2 a3 a4
      go_upto_region 9 with fail
      have H4 := Lib.hid (show StC b ⟨tx ++ 32 :: P.upper t, false, gl, 1, tx.length + 1⟩ w (v3.setCell ⟨b, 0, none⟩ (.string (S (tx ++ 32 :: P.upper t)))) from H3.out.text (tx ++ 32 :: P.upper t))
      clear H3
      clear a0 a1 a2 a3 a4 f0 f1 f2 f3 f4 hlt
      generalize (World.setCell _ _ _) = v4 at *
      obtain ⟨⟨a0, a1, a2, a3, a4⟩, ⟨f0, f1, f2, f3, f4⟩, hlt⟩ := H4.out.1
      simp only at a0 a1 a2 a3 a4
      go_wp2
      first | go_end0 | (refine bodyPost_ret (results_none rfl _ _ _) rfl ?_)
      have H5 := H4.out.cap 0
      refine ⟨rfl, ?_, H5.2⟩
      have he : P.put ⟨tx, false, gl, 1, wd⟩ t = ⟨(tx ++ [32]) ++ P.upper t, false, gl, 0, (tx ++ [32]).length⟩ := rfl
      rw [he]
      have h6 := H5.1
      simpa using h6
    · skip
      go_upto_region 8 with (go_at_call 281; refine (lowerW _ _ HTL.out).mono ?_; rintro e w' ⟨rfl, n, rfl⟩)
      have H3 := Lib.hid (show StC b ⟨tx ++ [32], false, gl, 2, tx.length + 1⟩ w (v2.drewN n) from H2.out.drewN n)
      clear H2
      clear a0 a1 a2 a3 a4 f0 f1 f2 f3 f4 hlt
      generalize (World.drewN _ _) = v3 at *
      obtain ⟨⟨a0, a1, a2, a3, a4⟩, ⟨f0, f1, f2, f3, f4⟩, hlt⟩ := H3.out.1
      simp only at a0 a1 a2 a3 a4
      go_upto_region 9 with fail
      have H4 := Lib.hid (show StC b ⟨tx ++ 32 :: P.lowered t, false, gl, 2, tx.length + 1⟩ w (v3.setCell ⟨b, 0, none⟩ (.string (S (tx ++ 32 :: P.lowered t)))) from H3.out.text (tx ++ 32 :: P.lowered t))
      clear H3
      clear a0 a1 a2 a3 a4 f0 f1 f2 f3 f4 hlt
      generalize (World.setCell _ _ _) = v4 at *
      obtain ⟨⟨a0, a1, a2, a3, a4⟩, ⟨f0, f1, f2, f3, f4⟩, hlt⟩ := H4.out.1
      simp only at a0 a1 a2 a3 a4
      go_wp2
      first | go_end0 | (refine bodyPost_ret (results_none rfl _ _ _) rfl ?_)
      have H5 := H4.out.cap 0
      refine ⟨rfl, ?_, H5.2⟩
      have he : P.put ⟨tx, false, gl, 2, wd⟩ t = ⟨(tx ++ [32]) ++ P.lowered t, false, gl, 0, (tx ++ [32]).length⟩ := rfl
      rw [he]
      have h6 := H5.1
      simpa using h6
  · skip
    obtain ⟨⟨a0, a1, a2, a3, a4⟩, ⟨f0, f1, f2, f3, f4⟩, hlt⟩ := H0.out.1
    simp only at a0 a1 a2 a3 a4
    go_enter Tryz.func260, Tryz.ntmps260
    go_upto_region 3 with fail
    have H2 := Lib.hid (show StC b ⟨tx, true, gl, cp, tx.length⟩ w (w.setCell ⟨b, 4, none⟩ (.int .i64 (tx.length : Int))) from H0.out.word (tx.length))
    clear H0
    clear a0 a1 a2 a3 a4 f0 f1 f2 f3 f4 hlt
    generalize (World.setCell _ _ _) = v2 at *
    obtain ⟨⟨a0, a1, a2, a3, a4⟩, ⟨f0, f1, f2, f3, f4⟩, hlt⟩ := H2.out.1
    simp only at a0 a1 a2 a3 a4
    rcases h3 with rfl | rfl | rfl
    · skip
      go_upto_region 9 with fail
      have H4 := Lib.hid (show StC b ⟨(tx) ++ t, true, gl, 0, tx.length⟩ w (v2.setCell ⟨b, 0, none⟩ (.string (S ((tx) ++ t)))) from H2.out.text ((tx) ++ t))
      clear H2
      clear a0 a1 a2 a3 a4 f0 f1 f2 f3 f4 hlt
      generalize (World.setCell _ _ _) = v4 at *
      obtain ⟨⟨a0, a1, a2, a3, a4⟩, ⟨f0, f1, f2, f3, f4⟩, hlt⟩ := H4.out.1
      simp only at a0 a1 a2 a3 a4
      go_wp2
      first | go_end0 | (refine bodyPost_ret (results_none rfl _ _ _) rfl ?_)
      have H5 := H4.out.cap 0
      refine ⟨rfl, ?_, H5.2⟩
      have he : P.put ⟨tx, true, gl, 0, wd⟩ t = ⟨(tx) ++ t, true, gl, 0, (tx).length⟩ := rfl
      rw [he]
      have h6 := H5.1
      simpa using h6
    · skip
      go_upto_region 8 with (go_at_call 263; refine (upperW _ _ HTL.out).mono ?_; rintro e w' ⟨rfl, n, rfl⟩)
      have H3 := Lib.hid (show StC b ⟨tx, true, gl, 1, tx.length⟩ w (v2.drewN n) from H2.out.drewN n)
      clear H2
      clear a0 a1 a2 a3 a4 f0 f1 f2 f3 f4 hlt
      generalize (World.drewN _ _) = v3 at *
      obtain ⟨⟨a0, a1, a2, a3, a4⟩, ⟨f0, f1, f2, f3, f4⟩, hlt⟩ := H3.out.1
      simp only at a0 a1 a2 a3 a4
      go_upto_region 9 with fail
      have H4 := Lib.hid (show StC b ⟨(tx) ++ P.upper t, true, gl, 1, tx.length⟩ w (v3.setCell ⟨b, 0, none⟩ (.string (S ((tx) ++ P.upper t)))) from H3.out.text ((tx) ++ P.upper t))
      clear H3
      clear a0 a1 a2 a3 a4 f0 f1 f2 f3 f4 hlt
      generalize (World.setCell _ _ _) = v4 at *
      obtain ⟨⟨a0, a1, a2, a3, a4⟩, ⟨f0, f1, f2, f3, f4⟩, hlt⟩ := H4.out.1
      simp only at a0 a1 a2 a3 a4
      go_wp2
      first | go_end0 | (refine bodyPost_ret (results_none rfl _ _ _) rfl ?_)
      have H5 := H4.out.cap 0
      refine ⟨rfl, ?_, H5.2⟩
      have he : P.put ⟨tx, true, gl, 1, wd⟩ t = ⟨(tx) ++ P.upper t, true, gl, 0, (tx).length⟩ := rfl
      rw [he]
      have h6 := H5.1
      simpa using h6
    · skip
      go_upto_region 8 with (go_at_call 281; refine (lowerW _ _ HTL.out).mono ?_; rintro e w' ⟨rfl, n, rfl⟩)
      have H3 := Lib.hid (show StC b ⟨tx, true, gl, 2, tx.length⟩ w (v2.drewN n) from H2.out.drewN n)
      clear H2
      clear a0 a1 a2 a3 a4 f0 f1 f2 f3 f4 hlt
      generalize (World.drewN _ _) = v3 at *
      obtain ⟨⟨a0, a1, a2, a3, a4⟩, ⟨f0, f1, f2, f3, f4⟩, hlt⟩ := H3.out.1
      simp only at a0 a1 a2 a3 a4
      go_upto_region 9 with fail
      have H4 := Lib.hid (show StC b ⟨(tx) ++ P.lowered t, true, gl, 2, tx.length⟩ w (v3.setCell ⟨b, 0, none⟩ (.string (S ((tx) ++ P.lowered t)))) from H3.out.text ((tx) ++ P.lowered t))
      clear H3
      clear a0 a1 a2 a3 a4 f0 f1 f2 f3 f4 hlt
      generalize (World.setCell _ _ _) = v4 at *
      obtain ⟨⟨a0, a1, a2, a3, a4⟩, ⟨f0, f1, f2, f3, f4⟩, hlt⟩ := H4.out.1
      simp only at a0 a1 a2 a3 a4
      go_wp2
      first | go_end0 | (refine bodyPost_ret (results_none rfl _ _ _) rfl ?_)
      have H5 := H4.out.cap 0
      refine ⟨rfl, ?_, H5.2⟩
      have he : P.put ⟨tx, true, gl, 2, wd⟩ t = ⟨(tx) ++ P.lowered t, true, gl, 0, (tx).length⟩ := rfl
      rw [he]
      have h6 := H5.1
      simpa using h6
theorem stGlue (b : Nat) (s : P.St) (t : Str) (w : World) (hb : StBox b s w) (hc : 0 ≤ s.cap ∧ s.cap ≤ 2) (hl : s.text.length ≤ 2 ^ 30) (ht : t.length ≤ 2 ^ 30) :
    Calls Tryz.prog 261 #[.pointer (some ⟨b, 0, none⟩), .string (S t)] w (StPost b (P.gluedPut s t) w) := by
  obtain ⟨tx, jn, gl, cp, wd⟩ := s
  simp only at hc hl
  have HB := Lib.hid hb
  obtain ⟨⟨a0, a1, a2, a3, a4⟩, ⟨f0, f1, f2, f3, f4⟩, hlt⟩ := hb
  simp only at a0 a1 a2 a3 a4
  cases gl
  · go_enter Tryz.func261, Tryz.ntmps261
    go_wp2_with fail
    refine (stPut b ⟨tx, jn, false, cp, wd⟩ t _ HB.out hc hl ht).mono ?_
    rintro e w1 ⟨rfl, hb1, hc1⟩
    have HB1 := Lib.hid hb1; have HC1 := Lib.hid hc1
    obtain ⟨⟨_, _, c2, _, _⟩, _, hl1⟩ := hb1
    clear hc1 a0 a1 a2 a3 a4 f0 f1 f2 f3 f4
    have c2' : w1.cell? ⟨b, 2, none⟩ = some (.bool false) := c2
    clear c2
    go_wp2
    first | go_end0 | (refine bodyPost_ret (results_none rfl _ _ _) rfl ?_)
    exact ⟨rfl, HB1.out, HC1.out⟩
  · have HB0 := Lib.hid (HB.out.joined true)
    go_enter Tryz.func261, Tryz.ntmps261
    go_wp2_with fail
    refine (stPut b ⟨tx, true, true, cp, wd⟩ t _ HB0.out hc hl ht).mono ?_
    rintro e w1 ⟨rfl, hb1, hc1⟩
    have HB1 := Lib.hid hb1; have HC1 := Lib.hid ((Chg.put (Chg.refl _ w) (.bool true)).trans hc1)
    obtain ⟨⟨_, _, c2, _, c4⟩, ⟨_, _, _, _, g4⟩, hl1⟩ := hb1
    clear hc1 a0 a1 a2 a3 a4 f0 f1 f2 f3 f4
    have c2' : w1.cell? ⟨b, 2, none⟩ = some (.bool true) := c2
    clear c2
    go_wp2
    first | go_end0 | (refine bodyPost_ret (results_none rfl _ _ _) rfl ?_)
    exact ⟨rfl, HB1.out.word wd, HC1.out.put _⟩
end Go.Proofs.YtmlklnimoknojaaGreatDoor
