/- Walk: one record more (reference). -/
import Derived.Deep.DeepCutAuto
import Derived.Deep.RegionLaw
import Derived.Test.YtbjfpceoamiaoaaDoorApp
namespace Go.Proofs.YtbjfpceoamiaoaaDoor
open Go Go.RowKit
set_option maxHeartbeats 400000
set_option maxRecDepth 100000
theorem spec_append (d p : Str) (n : Int) (c r : Str) (w : World) (hd : d.length ≤ 2 ^ 20) (hp : p.length ≤ 2 ^ 20) (hc : c.length ≤ 2 ^ 20) (hr : r.length ≤ 2 ^ 20) (hE : Env w) :
    Calls Tryd.prog 18 #[logV d p n, .agg #[.string (S c), .string (S r)]] w fun e w' => e = .returned (.tuple #[logV d (P.appS d p n c r).1 (P.appS d p n c r).2.1, .int .i64 (P.appS d p n c r).2.2]) ∧ Below w.heap.size w w' := by
  have A1 := Lib.hid (AB.start (w := w) (d := d) (p := p) (n := n) (c := c) (r := r) (t := 27) (u := 39) hE)
  clear hE
  cases h1 : P.validLog d p n
  · have HF := Lib.hid (show P.appS d p n c r = (p, n, 1) by unfold P.appS; rw [h1]; rfl)
    go_enter Tryd.func18, Tryd.ntmps18
    go_wp2_with fail
    refine (l24Log _ _ _ _ hd hp).mono ?_
    rintro e w1 ⟨rfl, hb⟩
    have A2 := Lib.hid (A1.out.carry hb); clear hb A1
    obtain ⟨⟨a1, a2, a3⟩, ⟨b1, b2⟩, ⟨c1, c2, c3⟩, ⟨d1, d2, d3⟩, ⟨e1, e2, e3⟩, hz, _⟩ := A2.out
    rw [h1]
    go_wp2
    refine bodyPost_ret (v := .tuple #[logV d p n, .int .i64 1]) (by simp [results, Tryd.results18, go_sem, c1, c2, c3]) rfl ⟨by rw [HF.out], ?_⟩
    exact ((A2.out.below.setCell (by simp; omega) _).setCell (by simp; omega) _).setCell (by simp; omega) _
  · cases h2 : P.good c r
    · have HF := Lib.hid (show P.appS d p n c r = (p, n, 1) by unfold P.appS; rw [h1, h2]; rfl)
      go_enter Tryd.func18, Tryd.ntmps18
      go_wp2_with fail
      refine (l24Log _ _ _ _ hd hp).mono ?_
      rintro e w1 ⟨rfl, hb⟩
      have A2 := Lib.hid (A1.out.carry hb); clear hb A1
      obtain ⟨⟨a1, a2, a3⟩, ⟨b1, b2⟩, ⟨c1, c2, c3⟩, ⟨d1, d2, d3⟩, ⟨e1, e2, e3⟩, hz, _⟩ := A2.out
      rw [h1]
      go_wp2_with fail
      refine (l24Good _ _ _ (by unfold maxLen; omega) (by unfold maxLen; omega)).mono ?_
      rintro e w2 ⟨rfl, hb⟩
      have A3 := Lib.hid (A2.out.carry hb); clear hb A2
      clear a1 a2 a3 b1 b2 c1 c2 c3 d1 d2 d3 e1 e2 e3 hz
      obtain ⟨⟨a1, a2, a3⟩, ⟨b1, b2⟩, ⟨c1, c2, c3⟩, ⟨d1, d2, d3⟩, ⟨e1, e2, e3⟩, hz, _⟩ := A3.out
      rw [h2]
      go_wp2
      refine bodyPost_ret (v := .tuple #[logV d p n, .int .i64 1]) (by simp [results, Tryd.results18, go_sem, c1, c2, c3]) rfl ⟨by rw [HF.out], ?_⟩
      exact ((A3.out.below.setCell (by simp; omega) _).setCell (by simp; omega) _).setCell (by simp; omega) _
    · cases h3 : (n == 60)
      · obtain ⟨hn0, hn1, _⟩ := P.valid_n h1
        obtain ⟨x, hx⟩ : ∃ x, P.line n.toNat c r = x := ⟨_, rfl⟩
        have HX := Lib.hid hx
        have HF := Lib.hid (show P.appS d p n c r = (p ++ x, n + 1, 0) by unfold P.appS; rw [h1, h2, h3, hx]; rfl)
        have hxl : x.length ≤ 10000 := by
          rw [← hx]
          have h6 : n ≠ 60 := by simpa using h3
          have := (P.line_len (k := n.toNat) (by omega) h2).1
          omega
        clear hx
        have f1 : ¬ 9223372036854775807 < p.length + x.length := by omega
        go_enter Tryd.func18, Tryd.ntmps18
        go_wp2_with fail
        refine (l24Log _ _ _ _ hd hp).mono ?_
        rintro e w1 ⟨rfl, hb⟩
        have A2 := Lib.hid (A1.out.carry hb); clear hb A1
        obtain ⟨⟨a1, a2, a3⟩, ⟨b1, b2⟩, ⟨c1, c2, c3⟩, ⟨d1, d2, d3⟩, ⟨e1, e2, e3⟩, hz, _⟩ := A2.out
        rw [h1]
        go_wp2_with fail
        refine (l24Good _ _ _ (by unfold maxLen; omega) (by unfold maxLen; omega)).mono ?_
        rintro e w2 ⟨rfl, hb⟩
        have A3 := Lib.hid (A2.out.carry hb); clear hb A2
        clear a1 a2 a3 b1 b2 c1 c2 c3 d1 d2 d3 e1 e2 e3 hz
        obtain ⟨⟨a1, a2, a3⟩, ⟨b1, b2⟩, ⟨c1, c2, c3⟩, ⟨d1, d2, d3⟩, ⟨e1, e2, e3⟩, hz, _⟩ := A3.out
        rw [h2]
        go_upto_region 5 with fail
        have A4 : AB w d p n c r w2.drew := A3.out.carry ((Below.refl _ _).drew)
        clear a1 a2 a3 b1 b2 c1 c2 c3 d1 d2 d3 e1 e2 e3 hz A3
        have A5 := Lib.hid A4
        obtain ⟨⟨a1, a2, a3⟩, ⟨b1, b2⟩, ⟨c1, c2, c3⟩, ⟨d1, d2, d3⟩, ⟨e1, e2, e3⟩, hz, _⟩ := A4
        go_region_law ((go_simp; go_at_call 43; refine (l24Line _ _ _ _ hn0 (by omega) (by omega) (by omega)).mono ?_; rintro e v ⟨rfl, hb⟩; rw [HX.out]; have A6 := Lib.hid (A5.out.carry hb); obtain ⟨⟨a1, a2, a3⟩, ⟨b1, b2⟩, ⟨c1, c2, c3⟩, ⟨d1, d2, d3⟩, ⟨e1, e2, e3⟩, hz, _⟩ := A6.out; clear hb))
        all_goals
          go_wp2
          refine bodyPost_ret (v := .tuple #[logV d (p ++ x) (n + 1), .int .i64 0]) (by simp [results, Tryd.results18, go_sem, c1, c2, c3]) rfl ⟨by rw [HF.out], ?_⟩
          exact (((((A6.out.below.setCell (by simp) _).setCell (by simp) _).setCell (by simp; omega) _).setCell (by simp; omega) _).setCell (by simp; omega) _)
      · have HF := Lib.hid (show P.appS d p n c r = (p, n, 2) by unfold P.appS; rw [h1, h2, h3]; rfl)
        go_enter Tryd.func18, Tryd.ntmps18
        go_wp2_with fail
        refine (l24Log _ _ _ _ hd hp).mono ?_
        rintro e w1 ⟨rfl, hb⟩
        have A2 := Lib.hid (A1.out.carry hb); clear hb A1
        obtain ⟨⟨a1, a2, a3⟩, ⟨b1, b2⟩, ⟨c1, c2, c3⟩, ⟨d1, d2, d3⟩, ⟨e1, e2, e3⟩, hz, _⟩ := A2.out
        rw [h1]
        go_wp2_with fail
        refine (l24Good _ _ _ (by unfold maxLen; omega) (by unfold maxLen; omega)).mono ?_
        rintro e w2 ⟨rfl, hb⟩
        have A3 := Lib.hid (A2.out.carry hb); clear hb A2
        clear a1 a2 a3 b1 b2 c1 c2 c3 d1 d2 d3 e1 e2 e3 hz
        obtain ⟨⟨a1, a2, a3⟩, ⟨b1, b2⟩, ⟨c1, c2, c3⟩, ⟨d1, d2, d3⟩, ⟨e1, e2, e3⟩, hz, _⟩ := A3.out
        rw [h2]
        go_wp2
        refine bodyPost_ret (v := .tuple #[logV d p n, .int .i64 2]) (by simp [results, Tryd.results18, go_sem, c1, c2, c3]) rfl ⟨by rw [HF.out], ?_⟩
        exact ((A3.out.below.setCell (by simp; omega) _).setCell (by simp; omega) _).setCell (by simp; omega) _
end Go.Proofs.YtbjfpceoamiaoaaDoor
