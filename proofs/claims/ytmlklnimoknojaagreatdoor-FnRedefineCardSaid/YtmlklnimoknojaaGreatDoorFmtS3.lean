/- Walks: an atom applied (reference). -/
import Derived.Deep.DeepCutAuto
import Derived.Deep.RegionHeld
import Derived.RegionTactic
import Derived.BigRegion
import Derived.BigQuiet
import Derived.Test.YtmlklnimoknojaaGreatDoorFmtS2
namespace Go.Proofs.YtmlklnimoknojaaGreatDoor
open Go Go.RowKit
set_option maxHeartbeats 4000000
set_option maxRecDepth 100000
def Box2I (b : Nat) (k : Int) (t : Str) (v : World) : Prop := v.cell? ⟨b, 0, none⟩ = some (.int .i64 k) ∧ v.cell? ⟨b, 1, none⟩ = some (.string (S t)) ∧ b < v.heap.size
theorem Box2I.below {b : Nat} {k : Int} {t : Str} {v v' : World} (h : Box2I b k t v) (hb : Below v.heap.size v v') : Box2I b k t v' :=
  ⟨(hb.cell (p := ⟨b, 0, none⟩) h.2.2).trans h.1, (hb.cell (p := ⟨b, 1, none⟩) h.2.2).trans h.2.1, Nat.lt_of_lt_of_le h.2.2 hb.size⟩
theorem Box2I.new (k : Int) (t : Str) (T : TypeId) (v : World) : Box2I v.heap.size k t (v.alloc (.cells #[.int .i64 k, .string (S t)] T)) := ⟨by go_simp, by go_simp, by simp⟩
def SAp (w : World) (s : P.St) (k : Int) (t : Str) (v : World) : Prop := StBox w.heap.size s v ∧ Box2I (w.heap.size + 1) k t v ∧ StBox (w.heap.size + 1 + 1) st0 v ∧ Below w.heap.size w v
theorem SAp.below {w v v' : World} {s : P.St} {k : Int} {t : Str} (h : SAp w s k t v) (hb : Below v.heap.size v v') : SAp w s k t v' := ⟨h.1.below hb, h.2.1.below hb, h.2.2.1.below hb, h.2.2.2.trans (hb.mono h.2.2.2.size)⟩
theorem SAp.new (w : World) (s : P.St) (k : Int) (t : Str) : SAp w s k t (((w.alloc (stCells s)).alloc (.cells #[.int .i64 k, .string (S t)] 153)).alloc (stCells st0)) := by
  have b1 : Below w.heap.size w (w.alloc (stCells s)) := (Below.refl _ _).alloc (Nat.le_refl _) _
  have b2 := (Below.refl (w.alloc (stCells s)).heap.size (w.alloc (stCells s))).alloc (Nat.le_refl _) (.cells #[.int .i64 k, .string (S t)] 153)
  have b3 := (Below.refl ((w.alloc (stCells s)).alloc (.cells #[.int .i64 k, .string (S t)] 153)).heap.size ((w.alloc (stCells s)).alloc (.cells #[.int .i64 k, .string (S t)] 153))).alloc (Nat.le_refl _) (stCells st0)
  refine ⟨((StBox.new s w).below b2).below b3, ?_, ?_, ?_⟩
  · have h := (Box2I.new k t 153 (w.alloc (stCells s))).below b3; simpa using h
  · have h := StBox.new st0 ((w.alloc (stCells s)).alloc (.cells #[.int .i64 k, .string (S t)] 153)); simpa using h
  · exact ((b1.trans (b2.mono (by simp))).trans (b3.mono (by simp; omega)))
theorem Box2I.stand {b : Nat} {k : Int} {t : Str} {v v' : World} {X : Blk} (h : Box2I b k t v) (hc : Chg X v v') (hX : ¬ X b) : Box2I b k t v' :=
  ⟨(hc.cell (p := ⟨b, 0, none⟩) h.2.2 hX).trans h.1, (hc.cell (p := ⟨b, 1, none⟩) h.2.2 hX).trans h.2.1, Nat.lt_of_lt_of_le h.2.2 hc.size⟩
theorem SAp.turn {w v v' : World} {s s' : P.St} {k : Int} {t : Str} (h : SAp w s k t v) (hc : Chg (fun b => b = w.heap.size) v v') (h1 : StBox w.heap.size s' v') : SAp w s' k t v' :=
  ⟨h1, h.2.1.stand hc (by omega), h.2.2.1.stand hc (by omega), h.2.2.2.trans (hc.below (Nat.le_of_lt h.1.2.2) (fun b e => by omega))⟩
theorem Chg.put {b i : Nat} {w v : World} (h : Chg (fun x => x = b) w v) (x : Value) : Chg (fun x => x = b) w (v.setCell ⟨b, i, none⟩ x) := h.setCell (p := ⟨b, i, none⟩) rfl x
theorem SAp.state {w v : World} {s : P.St} {k : Int} {t : Str} (h : SAp w s k t v) (tx : Str) (jn gl : Bool) (cp : Int) (wd : Nat) :
    SAp w ⟨tx, jn, gl, cp, wd⟩ k t (((((v.setCell ⟨w.heap.size, 0, none⟩ (.string (S tx))).setCell ⟨w.heap.size, 1, none⟩ (.bool jn)).setCell ⟨w.heap.size, 2, none⟩ (.bool gl)).setCell ⟨w.heap.size, 3, none⟩ (.int .i64 cp)).setCell ⟨w.heap.size, 4, none⟩ (.int .i64 (wd : Int))) :=
  h.turn (((((Chg.put (Chg.refl _ _) _).put _).put _).put _).put _) (((((h.1.text tx).joined jn).glued gl).cap cp).word wd)
theorem SAp.jg {w v : World} {s : P.St} {k : Int} {t : Str} (h : SAp w s k t v) (jn gl : Bool) :
    SAp w { s with joined := jn, glued := gl } k t ((v.setCell ⟨w.heap.size, 1, none⟩ (.bool jn)).setCell ⟨w.heap.size, 2, none⟩ (.bool gl)) :=
  h.turn ((Chg.put (Chg.refl _ _) _).put _) ((h.1.joined jn).glued gl)
theorem SAp.wd {w v : World} {s : P.St} {k : Int} {t : Str} (h : SAp w s k t v) (n : Nat) : SAp w { s with word := n } k t (v.setCell ⟨w.heap.size, 4, none⟩ (.int .i64 (n : Int))) :=
  h.turn (Chg.put (Chg.refl _ _) _) (h.1.word n)
theorem SAp.tx {w v : World} {s : P.St} {k : Int} {t : Str} (h : SAp w s k t v) (x : Str) : SAp w { s with text := x } k t (v.setCell ⟨w.heap.size, 0, none⟩ (.string (S x))) :=
  h.turn (Chg.put (Chg.refl _ _) _) (h.1.text x)
theorem l12Apply4 (tx : Str) (jn gl : Bool) (cp : Int) (wd : Nat) (t : Str) (w : World) (_hc : 0 ≤ cp ∧ cp ≤ 2) (_hw : wd ≤ tx.length) (hl : tx.length ≤ 2 ^ 29) (ht : t.length ≤ 2 ^ 29) :
    Calls Tryz.prog 159 #[stV ⟨tx, jn, gl, cp, wd⟩, .agg #[.int .i64 4, .string (S t)]] w fun e w' => e = .returned (stV (P.apply ⟨tx, jn, gl, cp, wd⟩ 4 t)) ∧ Below w.heap.size w w' := by
  have HN := Lib.hid (SAp.new w ⟨tx, jn, gl, cp, wd⟩ 4 t)
  have j1 : ¬ 9223372036854775807 < tx.length + t.length := by omega
  have j2 : tx.length + t.length ≤ 9223372036854775807 := by omega
  go_enter Tryz.func159, Tryz.ntmps159
  go_wp2
  refine bodyPost_ret (v := stV (P.apply ⟨tx, jn, gl, cp, wd⟩ 4 t)) (by simp [results, Tryz.results159, go_sem, P.apply]) rfl ⟨rfl, ?_⟩
  repeat (refine Below.setCell ?_ (by first | (simp; done) | (simp; omega)) _)
  exact (((Below.refl w.heap.size w).alloc (Nat.le_refl _) _).alloc (by simp) _).alloc (by simp; omega) _
theorem l12Apply6 (tx : Str) (jn gl : Bool) (cp : Int) (wd : Nat) (t : Str) (w : World) (_hc : 0 ≤ cp ∧ cp ≤ 2) (_hw : wd ≤ tx.length) (hl : tx.length ≤ 2 ^ 29) (ht : t.length ≤ 2 ^ 29) :
    Calls Tryz.prog 159 #[stV ⟨tx, jn, gl, cp, wd⟩, .agg #[.int .i64 6, .string (S t)]] w fun e w' => e = .returned (stV (P.apply ⟨tx, jn, gl, cp, wd⟩ 6 t)) ∧ Below w.heap.size w w' := by
  have HN := Lib.hid (SAp.new w ⟨tx, jn, gl, cp, wd⟩ 6 t)
  have j1 : ¬ 9223372036854775807 < tx.length + t.length := by omega
  have j2 : tx.length + t.length ≤ 9223372036854775807 := by omega
  go_enter Tryz.func159, Tryz.ntmps159
  go_wp2
  refine bodyPost_ret (v := stV (P.apply ⟨tx, jn, gl, cp, wd⟩ 6 t)) (by simp [results, Tryz.results159, go_sem, P.apply]) rfl ⟨rfl, ?_⟩
  repeat (refine Below.setCell ?_ (by first | (simp; done) | (simp; omega)) _)
  exact (((Below.refl w.heap.size w).alloc (Nat.le_refl _) _).alloc (by simp) _).alloc (by simp; omega) _
theorem l12Apply7 (tx : Str) (jn gl : Bool) (cp : Int) (wd : Nat) (t : Str) (w : World) (_hc : 0 ≤ cp ∧ cp ≤ 2) (_hw : wd ≤ tx.length) (hl : tx.length ≤ 2 ^ 29) (ht : t.length ≤ 2 ^ 29) :
    Calls Tryz.prog 159 #[stV ⟨tx, jn, gl, cp, wd⟩, .agg #[.int .i64 7, .string (S t)]] w fun e w' => e = .returned (stV (P.apply ⟨tx, jn, gl, cp, wd⟩ 7 t)) ∧ Below w.heap.size w w' := by
  have HN := Lib.hid (SAp.new w ⟨tx, jn, gl, cp, wd⟩ 7 t)
  have j1 : ¬ 9223372036854775807 < tx.length + t.length := by omega
  have j2 : tx.length + t.length ≤ 9223372036854775807 := by omega
  go_enter Tryz.func159, Tryz.ntmps159
  go_wp2
  refine bodyPost_ret (v := stV (P.apply ⟨tx, jn, gl, cp, wd⟩ 7 t)) (by simp [results, Tryz.results159, go_sem, P.apply]) rfl ⟨rfl, ?_⟩
  repeat (refine Below.setCell ?_ (by first | (simp; done) | (simp; omega)) _)
  exact (((Below.refl w.heap.size w).alloc (Nat.le_refl _) _).alloc (by simp) _).alloc (by simp; omega) _
theorem l12Apply8 (tx : Str) (jn gl : Bool) (cp : Int) (wd : Nat) (t : Str) (w : World) (_hc : 0 ≤ cp ∧ cp ≤ 2) (_hw : wd ≤ tx.length) (hl : tx.length ≤ 2 ^ 29) (ht : t.length ≤ 2 ^ 29) :
    Calls Tryz.prog 159 #[stV ⟨tx, jn, gl, cp, wd⟩, .agg #[.int .i64 8, .string (S t)]] w fun e w' => e = .returned (stV (P.apply ⟨tx, jn, gl, cp, wd⟩ 8 t)) ∧ Below w.heap.size w w' := by
  have HN := Lib.hid (SAp.new w ⟨tx, jn, gl, cp, wd⟩ 8 t)
  have j1 : ¬ 9223372036854775807 < tx.length + t.length := by omega
  have j2 : tx.length + t.length ≤ 9223372036854775807 := by omega
  go_enter Tryz.func159, Tryz.ntmps159
  go_wp2
  refine bodyPost_ret (v := stV (P.apply ⟨tx, jn, gl, cp, wd⟩ 8 t)) (by simp [results, Tryz.results159, go_sem, P.apply]) rfl ⟨rfl, ?_⟩
  repeat (refine Below.setCell ?_ (by first | (simp; done) | (simp; omega)) _)
  exact (((Below.refl w.heap.size w).alloc (Nat.le_refl _) _).alloc (by simp) _).alloc (by simp; omega) _
theorem l12Apply9 (tx : Str) (jn gl : Bool) (cp : Int) (wd : Nat) (t : Str) (w : World) (_hc : 0 ≤ cp ∧ cp ≤ 2) (_hw : wd ≤ tx.length) (hl : tx.length ≤ 2 ^ 29) (ht : t.length ≤ 2 ^ 29) :
    Calls Tryz.prog 159 #[stV ⟨tx, jn, gl, cp, wd⟩, .agg #[.int .i64 9, .string (S t)]] w fun e w' => e = .returned (stV (P.apply ⟨tx, jn, gl, cp, wd⟩ 9 t)) ∧ Below w.heap.size w w' := by
  have HN := Lib.hid (SAp.new w ⟨tx, jn, gl, cp, wd⟩ 9 t)
  have j1 : ¬ 9223372036854775807 < tx.length + t.length := by omega
  have j2 : tx.length + t.length ≤ 9223372036854775807 := by omega
  go_enter Tryz.func159, Tryz.ntmps159
  go_wp2
  refine bodyPost_ret (v := stV (P.apply ⟨tx, jn, gl, cp, wd⟩ 9 t)) (by simp [results, Tryz.results159, go_sem, P.apply]) rfl ⟨rfl, ?_⟩
  repeat (refine Below.setCell ?_ (by first | (simp; done) | (simp; omega)) _)
  exact (((Below.refl w.heap.size w).alloc (Nat.le_refl _) _).alloc (by simp) _).alloc (by simp; omega) _
theorem l12Apply1 (tx : Str) (jn gl : Bool) (cp : Int) (wd : Nat) (t : Str) (w : World) (hc : 0 ≤ cp ∧ cp ≤ 2) (_hw : wd ≤ tx.length) (hl : tx.length ≤ 2 ^ 29) (ht : t.length ≤ 2 ^ 29) :
    Calls Tryz.prog 159 #[stV ⟨tx, jn, gl, cp, wd⟩, .agg #[.int .i64 1, .string (S t)]] w fun e w' => e = .returned (stV (P.apply ⟨tx, jn, gl, cp, wd⟩ 1 t)) ∧ Below w.heap.size w w' := by
  have HN := Lib.hid (SAp.new w ⟨tx, jn, gl, cp, wd⟩ 1 t)
  go_enter Tryz.func159, Tryz.ntmps159
  go_wp2_with fail
  refine (l12Put ⟨tx, jn, gl, cp, wd⟩ t _ hc (by simp only; omega) (by omega)).mono ?_
  rintro e v1 ⟨rfl, hb⟩
  have HS := Lib.hid (HN.out.below hb)
  clear hb HN
  have HA := Lib.hid (show P.apply ⟨tx, jn, gl, cp, wd⟩ 1 t = ⟨(P.put ⟨tx, jn, gl, cp, wd⟩ t).text, false, false, (P.put ⟨tx, jn, gl, cp, wd⟩ t).cap, (P.put ⟨tx, jn, gl, cp, wd⟩ t).word⟩ from rfl)
  generalize P.put ⟨tx, jn, gl, cp, wd⟩ t = r at *
  obtain ⟨rt, rj, rg, rc, rw⟩ := r
  obtain ⟨⟨⟨a0, a1, a2, a3, a4⟩, ⟨f0, f1, f2, f3, f4⟩, hlt⟩, ⟨k0, k1, hlk⟩, ⟨⟨b0, b1, b2, b3, b4⟩, ⟨g0, g1, g2, g3, g4⟩, hlr⟩, _⟩ := HS.out
  simp only at a0 a1 a2 a3 a4 b0 b1 b2 b3 b4
  go_upto_region 5 with fail
  have HS2 := Lib.hid (HS.out.state rt rj rg rc rw)
  clear HS
  generalize (World.setCell _ _ _) = v2 at *
  clear a0 a1 a2 a3 a4 hlt f0 f1 f2 f3 f4 k0 k1 hlk b0 b1 b2 b3 b4 hlr g0 g1 g2 g3 g4
  obtain ⟨⟨⟨a0, a1, a2, a3, a4⟩, ⟨f0, f1, f2, f3, f4⟩, hlt⟩, ⟨k0, k1, hlk⟩, ⟨⟨b0, b1, b2, b3, b4⟩, ⟨g0, g1, g2, g3, g4⟩, hlr⟩, _⟩ := HS2.out
  have HT := Lib.hid (HS2.out.jg false false)
  go_upto_region 41 with fail
  generalize (World.setCell _ _ _) = v9 at *
  clear a0 a1 a2 a3 a4 hlt f0 f1 f2 f3 f4 k0 k1 hlk b0 b1 b2 b3 b4 hlr g0 g1 g2 g3 g4
  obtain ⟨⟨⟨a0, a1, a2, a3, a4⟩, ⟨f0, f1, f2, f3, f4⟩, hlt⟩, ⟨k0, k1, hlk⟩, ⟨⟨b0, b1, b2, b3, b4⟩, ⟨g0, g1, g2, g3, g4⟩, hlr⟩, _⟩ := HT.out
  simp only at a0 a1 a2 a3 a4 b0 b1 b2 b3 b4
  go_wp2
  refine bodyPost_ret (v := stV ⟨rt, false, false, rc, rw⟩) (by simp [results, Tryz.results159, go_sem, b0, b1, b2, b3, b4]) rfl ⟨by rw [HA.out], ?_⟩
  repeat (refine Below.setCell ?_ (by first | (simp; done) | (simp; omega)) _)
  exact HT.out.2.2.2
theorem l12Apply3 (tx : Str) (jn gl : Bool) (cp : Int) (wd : Nat) (t : Str) (w : World) (hc : 0 ≤ cp ∧ cp ≤ 2) (_hw : wd ≤ tx.length) (hl : tx.length ≤ 2 ^ 29) (ht : t.length ≤ 2 ^ 29) :
    Calls Tryz.prog 159 #[stV ⟨tx, jn, gl, cp, wd⟩, .agg #[.int .i64 3, .string (S t)]] w fun e w' => e = .returned (stV (P.apply ⟨tx, jn, gl, cp, wd⟩ 3 t)) ∧ Below w.heap.size w w' := by
  have HN := Lib.hid (SAp.new w ⟨tx, jn, gl, cp, wd⟩ 3 t)
  go_enter Tryz.func159, Tryz.ntmps159
  go_wp2_with fail
  refine (l12Put ⟨tx, jn, gl, cp, wd⟩ t _ hc (by simp only; omega) (by omega)).mono ?_
  rintro e v1 ⟨rfl, hb⟩
  have HS := Lib.hid (HN.out.below hb)
  clear hb HN
  have HA := Lib.hid (show P.apply ⟨tx, jn, gl, cp, wd⟩ 3 t = ⟨(P.put ⟨tx, jn, gl, cp, wd⟩ t).text, true, false, (P.put ⟨tx, jn, gl, cp, wd⟩ t).cap, (P.put ⟨tx, jn, gl, cp, wd⟩ t).word⟩ from rfl)
  generalize P.put ⟨tx, jn, gl, cp, wd⟩ t = r at *
  obtain ⟨rt, rj, rg, rc, rw⟩ := r
  obtain ⟨⟨⟨a0, a1, a2, a3, a4⟩, ⟨f0, f1, f2, f3, f4⟩, hlt⟩, ⟨k0, k1, hlk⟩, ⟨⟨b0, b1, b2, b3, b4⟩, ⟨g0, g1, g2, g3, g4⟩, hlr⟩, _⟩ := HS.out
  simp only at a0 a1 a2 a3 a4 b0 b1 b2 b3 b4
  go_upto_region 5 with fail
  have HS2 := Lib.hid (HS.out.state rt rj rg rc rw)
  clear HS
  generalize (World.setCell _ _ _) = v2 at *
  clear a0 a1 a2 a3 a4 hlt f0 f1 f2 f3 f4 k0 k1 hlk b0 b1 b2 b3 b4 hlr g0 g1 g2 g3 g4
  obtain ⟨⟨⟨a0, a1, a2, a3, a4⟩, ⟨f0, f1, f2, f3, f4⟩, hlt⟩, ⟨k0, k1, hlk⟩, ⟨⟨b0, b1, b2, b3, b4⟩, ⟨g0, g1, g2, g3, g4⟩, hlr⟩, _⟩ := HS2.out
  have HT := Lib.hid (HS2.out.jg true false)
  go_upto_region 41 with fail
  generalize (World.setCell _ _ _) = v9 at *
  clear a0 a1 a2 a3 a4 hlt f0 f1 f2 f3 f4 k0 k1 hlk b0 b1 b2 b3 b4 hlr g0 g1 g2 g3 g4
  obtain ⟨⟨⟨a0, a1, a2, a3, a4⟩, ⟨f0, f1, f2, f3, f4⟩, hlt⟩, ⟨k0, k1, hlk⟩, ⟨⟨b0, b1, b2, b3, b4⟩, ⟨g0, g1, g2, g3, g4⟩, hlr⟩, _⟩ := HT.out
  simp only at a0 a1 a2 a3 a4 b0 b1 b2 b3 b4
  go_wp2
  refine bodyPost_ret (v := stV ⟨rt, true, false, rc, rw⟩) (by simp [results, Tryz.results159, go_sem, b0, b1, b2, b3, b4]) rfl ⟨by rw [HA.out], ?_⟩
  repeat (refine Below.setCell ?_ (by first | (simp; done) | (simp; omega)) _)
  exact HT.out.2.2.2
theorem l12Apply5 (tx : Str) (jn gl : Bool) (cp : Int) (wd : Nat) (t : Str) (w : World) (hc : 0 ≤ cp ∧ cp ≤ 2) (_hw : wd ≤ tx.length) (hl : tx.length ≤ 2 ^ 29) (ht : t.length ≤ 2 ^ 29) :
    Calls Tryz.prog 159 #[stV ⟨tx, jn, gl, cp, wd⟩, .agg #[.int .i64 5, .string (S t)]] w fun e w' => e = .returned (stV (P.apply ⟨tx, jn, gl, cp, wd⟩ 5 t)) ∧ Below w.heap.size w w' := by
  cases gl
  · skip
    have HN := Lib.hid (SAp.new w ⟨tx, jn, false, cp, wd⟩ 5 t)
    go_enter Tryz.func159, Tryz.ntmps159
    go_wp2_with fail
    refine (l12Put ⟨tx, jn, false, cp, wd⟩ t _ hc (by simp only; omega) (by omega)).mono ?_
    rintro e v1 ⟨rfl, hb⟩
    have HS := Lib.hid (HN.out.below hb)
    clear hb HN
    have HA := Lib.hid (show P.apply ⟨tx, jn, false, cp, wd⟩ 5 t = ⟨(P.put ⟨tx, jn, false, cp, wd⟩ t).text, false, true, (P.put ⟨tx, jn, false, cp, wd⟩ t).cap, (P.put ⟨tx, jn, false, cp, wd⟩ t).word⟩ from rfl)
    generalize P.put ⟨tx, jn, false, cp, wd⟩ t = r at *
    obtain ⟨rt, rj, rg, rc, rw⟩ := r
    obtain ⟨⟨⟨a0, a1, a2, a3, a4⟩, ⟨f0, f1, f2, f3, f4⟩, hlt⟩, ⟨k0, k1, hlk⟩, ⟨⟨b0, b1, b2, b3, b4⟩, ⟨g0, g1, g2, g3, g4⟩, hlr⟩, _⟩ := HS.out
    simp only at a0 a1 a2 a3 a4 b0 b1 b2 b3 b4
    go_upto_region 13 with fail
    have HS2 := Lib.hid (HS.out.state rt rj rg rc rw)
    clear HS
    generalize (World.setCell _ _ _) = v2 at *
    clear a0 a1 a2 a3 a4 hlt f0 f1 f2 f3 f4 k0 k1 hlk b0 b1 b2 b3 b4 hlr g0 g1 g2 g3 g4
    obtain ⟨⟨⟨a0, a1, a2, a3, a4⟩, ⟨f0, f1, f2, f3, f4⟩, hlt⟩, ⟨k0, k1, hlk⟩, ⟨⟨b0, b1, b2, b3, b4⟩, ⟨g0, g1, g2, g3, g4⟩, hlr⟩, _⟩ := HS2.out
    have HT := Lib.hid (HS2.out.jg false true)
    go_upto_region 41 with fail
    generalize (World.setCell _ _ _) = v9 at *
    clear a0 a1 a2 a3 a4 hlt f0 f1 f2 f3 f4 k0 k1 hlk b0 b1 b2 b3 b4 hlr g0 g1 g2 g3 g4
    obtain ⟨⟨⟨a0, a1, a2, a3, a4⟩, ⟨f0, f1, f2, f3, f4⟩, hlt⟩, ⟨k0, k1, hlk⟩, ⟨⟨b0, b1, b2, b3, b4⟩, ⟨g0, g1, g2, g3, g4⟩, hlr⟩, _⟩ := HT.out
    simp only at a0 a1 a2 a3 a4 b0 b1 b2 b3 b4
    go_wp2
    refine bodyPost_ret (v := stV ⟨rt, false, true, rc, rw⟩) (by simp [results, Tryz.results159, go_sem, b0, b1, b2, b3, b4]) rfl ⟨by rw [HA.out], ?_⟩
    repeat (refine Below.setCell ?_ (by first | (simp; done) | (simp; omega)) _)
    exact HT.out.2.2.2
  · skip
    have HN := Lib.hid (SAp.new w ⟨tx, true, true, cp, wd⟩ 5 t)
    go_enter Tryz.func159, Tryz.ntmps159
    go_wp2_with fail
    refine (l12Put ⟨tx, true, true, cp, wd⟩ t _ hc (by simp only; omega) (by omega)).mono ?_
    rintro e v1 ⟨rfl, hb⟩
    have HS := Lib.hid (HN.out.below hb)
    clear hb HN
    have HA := Lib.hid (show P.apply ⟨tx, jn, true, cp, wd⟩ 5 t = ⟨(P.put ⟨tx, true, true, cp, wd⟩ t).text, false, true, (P.put ⟨tx, true, true, cp, wd⟩ t).cap, wd⟩ from rfl)
    generalize P.put ⟨tx, true, true, cp, wd⟩ t = r at *
    obtain ⟨rt, rj, rg, rc, rw⟩ := r
    obtain ⟨⟨⟨a0, a1, a2, a3, a4⟩, ⟨f0, f1, f2, f3, f4⟩, hlt⟩, ⟨k0, k1, hlk⟩, ⟨⟨b0, b1, b2, b3, b4⟩, ⟨g0, g1, g2, g3, g4⟩, hlr⟩, _⟩ := HS.out
    simp only at a0 a1 a2 a3 a4 b0 b1 b2 b3 b4
    go_upto_region 13 with fail
    have HS2 := Lib.hid (HS.out.state rt rj rg rc rw)
    clear HS
    generalize (World.setCell _ _ _) = v2 at *
    clear a0 a1 a2 a3 a4 hlt f0 f1 f2 f3 f4 k0 k1 hlk b0 b1 b2 b3 b4 hlr g0 g1 g2 g3 g4
    obtain ⟨⟨⟨a0, a1, a2, a3, a4⟩, ⟨f0, f1, f2, f3, f4⟩, hlt⟩, ⟨k0, k1, hlk⟩, ⟨⟨b0, b1, b2, b3, b4⟩, ⟨g0, g1, g2, g3, g4⟩, hlr⟩, _⟩ := HS2.out
    have HT := Lib.hid ((HS2.out.wd wd).jg false true)
    go_upto_region 41 with fail
    generalize (World.setCell _ _ _) = v9 at *
    clear a0 a1 a2 a3 a4 hlt f0 f1 f2 f3 f4 k0 k1 hlk b0 b1 b2 b3 b4 hlr g0 g1 g2 g3 g4
    obtain ⟨⟨⟨a0, a1, a2, a3, a4⟩, ⟨f0, f1, f2, f3, f4⟩, hlt⟩, ⟨k0, k1, hlk⟩, ⟨⟨b0, b1, b2, b3, b4⟩, ⟨g0, g1, g2, g3, g4⟩, hlr⟩, _⟩ := HT.out
    simp only at a0 a1 a2 a3 a4 b0 b1 b2 b3 b4
    go_wp2
    refine bodyPost_ret (v := stV ⟨rt, false, true, rc, wd⟩) (by simp [results, Tryz.results159, go_sem, b0, b1, b2, b3, b4]) rfl ⟨by rw [HA.out], ?_⟩
    repeat (refine Below.setCell ?_ (by first | (simp; done) | (simp; omega)) _)
    exact HT.out.2.2.2
theorem l12Apply2 (tx : Str) (jn gl : Bool) (cp : Int) (wd : Nat) (t : Str) (w : World) (_hc : 0 ≤ cp ∧ cp ≤ 2) (hw : wd ≤ tx.length) (hl : tx.length ≤ 2 ^ 29) (ht : t.length ≤ 2 ^ 29) :
    Calls Tryz.prog 159 #[stV ⟨tx, jn, gl, cp, wd⟩, .agg #[.int .i64 2, .string (S t)]] w fun e w' => e = .returned (stV (P.apply ⟨tx, jn, gl, cp, wd⟩ 2 t)) ∧ Below w.heap.size w w' := by
  have HN := Lib.hid (SAp.new w ⟨tx, jn, gl, cp, wd⟩ 2 t)
  have j1 : ¬ 9223372036854775807 < tx.length + t.length := by omega
  have j2 : tx.length + t.length ≤ 9223372036854775807 := by omega
  have i1 : (wd : Int) ≤ (tx.length : Int) := by omega
  have i0 : (0 : Int) ≤ (wd : Int) := by omega
  have HJL := Lib.hid (show (P.joinS (tx.drop wd) t).2 = true → (P.joinS (tx.drop wd) t).1.length ≤ 24 from fun h => (P.joinS_parts h).1)
  obtain ⟨js, hjs⟩ : ∃ js, P.joinS (tx.drop wd) t = js := ⟨_, rfl⟩
  obtain ⟨jt, jo⟩ := js
  have HJ := Lib.hid hjs
  rw [hjs] at HJL
  have HA := Lib.hid (show P.apply ⟨tx, jn, gl, cp, wd⟩ 2 t = ⟨if jo then tx.take wd ++ jt else tx ++ t, false, false, cp, wd⟩ by
    have h : P.apply ⟨tx, jn, gl, cp, wd⟩ 2 t = ⟨if (P.joinS (tx.drop wd) t).2 then tx.take wd ++ (P.joinS (tx.drop wd) t).1 else tx ++ t, false, false, cp, wd⟩ := rfl
    rw [h, hjs])
  have HC := Lib.hid (fun v => (spec_joinSuffix (tx.drop wd) t v (by rw [List.length_drop]; omega) (by omega)).mono (R' := fun e v' => e = .returned (.tuple #[.string (S jt), .bool jo]) ∧ v' = v) (by rintro e v' ⟨rfl, rfl⟩; rw [HJ.out]; exact ⟨rfl, rfl⟩))
  clear hjs
  go_enter Tryz.func159, Tryz.ntmps159
  go_upto_region 22 with fail
  go_cut [7, 8] (fun x y wx => x = .string (S jt) ∧ y = .bool jo ∧ SAp w ⟨tx, jn, gl, cp, wd⟩ 2 t wx)
  case first =>
    go_quiet ((go_at_call 193; exact Calls.quiet_of_same (HC.out _)))
    go_wp2
    go_meet
    exact ⟨rfl, rfl, HN.out.below (below_drewN (Below.refl _ _) _)⟩
  case rest =>
  obtain ⟨rfl, rfl, hs⟩ := hcut
  have HS2 := Lib.hid hs
  clear hs HN HC
  generalize hww : wc = v2 at *
  clear hww
  obtain ⟨⟨⟨a0, a1, a2, a3, a4⟩, ⟨f0, f1, f2, f3, f4⟩, hlt⟩, ⟨k0, k1, hlk⟩, ⟨⟨b0, b1, b2, b3, b4⟩, ⟨g0, g1, g2, g3, g4⟩, hlr⟩, _⟩ := HS2.out
  cases jo
  · have HT := Lib.hid ((HS2.out.tx (tx ++ t)).jg false false)
    go_upto_region 41 with fail
    generalize (World.setCell _ _ _) = v9 at *
    clear a0 a1 a2 a3 a4 hlt f0 f1 f2 f3 f4 k0 k1 hlk b0 b1 b2 b3 b4 hlr g0 g1 g2 g3 g4
    obtain ⟨⟨⟨a0, a1, a2, a3, a4⟩, ⟨f0, f1, f2, f3, f4⟩, hlt⟩, ⟨k0, k1, hlk⟩, ⟨⟨b0, b1, b2, b3, b4⟩, ⟨g0, g1, g2, g3, g4⟩, hlr⟩, _⟩ := HT.out
    simp only at a0 a1 a2 a3 a4 b0 b1 b2 b3 b4
    go_wp2
    refine bodyPost_ret (v := stV ⟨tx ++ t, false, false, cp, wd⟩) (by simp [results, Tryz.results159, go_sem, b0, b1, b2, b3, b4]) rfl ⟨by rw [HA.out]; rfl, ?_⟩
    repeat (refine Below.setCell ?_ (by first | (simp; done) | (simp; omega)) _)
    exact HT.out.2.2.2
  · have hj24 := HJL.out rfl
    have j3 : ¬ 9223372036854775807 < wd + jt.length := by simp only at hj24; omega
    have j4 : wd + jt.length ≤ 9223372036854775807 := by simp only at hj24; omega
    have j5 : min wd tx.length = wd := by omega
    have HT := Lib.hid ((HS2.out.tx (tx.take wd ++ jt)).jg false false)
    go_upto_region 41 with fail
    generalize (World.setCell _ _ _) = v9 at *
    clear a0 a1 a2 a3 a4 hlt f0 f1 f2 f3 f4 k0 k1 hlk b0 b1 b2 b3 b4 hlr g0 g1 g2 g3 g4
    obtain ⟨⟨⟨a0, a1, a2, a3, a4⟩, ⟨f0, f1, f2, f3, f4⟩, hlt⟩, ⟨k0, k1, hlk⟩, ⟨⟨b0, b1, b2, b3, b4⟩, ⟨g0, g1, g2, g3, g4⟩, hlr⟩, _⟩ := HT.out
    simp only at a0 a1 a2 a3 a4 b0 b1 b2 b3 b4
    go_wp2
    refine bodyPost_ret (v := stV ⟨tx.take wd ++ jt, false, false, cp, wd⟩) (by simp [results, Tryz.results159, go_sem, b0, b1, b2, b3, b4]) rfl ⟨by rw [HA.out]; rfl, ?_⟩
    repeat (refine Below.setCell ?_ (by first | (simp; done) | (simp; omega)) _)
    exact HT.out.2.2.2
theorem l12Apply10 (tx : Str) (jn gl : Bool) (cp : Int) (wd : Nat) (t : Str) (w : World) (_hc : 0 ≤ cp ∧ cp ≤ 2) (hw : wd ≤ tx.length) (hl : tx.length ≤ 2 ^ 29) (_ht : t.length ≤ 2 ^ 29) :
    Calls Tryz.prog 159 #[stV ⟨tx, jn, gl, cp, wd⟩, .agg #[.int .i64 10, .string (S t)]] w fun e w' => e = .returned (stV (P.apply ⟨tx, jn, gl, cp, wd⟩ 10 t)) ∧ Below w.heap.size w w' := by
  have i1 : (wd : Int) ≤ (tx.length : Int) := by omega
  have i0 : (0 : Int) ≤ (wd : Int) := by omega
  have HN := Lib.hid (SAp.new w ⟨tx, jn, gl, cp, wd⟩ 10 t)
  have hcl : (P.caseW (tx.drop wd) 1).length = tx.length - wd := by rw [P.caseW_len, List.length_drop]
  have j3 : ¬ 9223372036854775807 < wd + (P.caseW (tx.drop wd) 1).length := by omega
  have j4 : wd + (P.caseW (tx.drop wd) 1).length ≤ 9223372036854775807 := by omega
  have j5 : min wd tx.length = wd := by omega
  have HDL := Lib.hid (show (tx.drop wd).length ≤ 2 ^ 40 by rw [List.length_drop]; omega)
  have HA := Lib.hid (show P.apply ⟨tx, jn, gl, cp, wd⟩ 10 t = ⟨tx.take wd ++ P.caseW (tx.drop wd) 1, jn, gl, cp, wd⟩ from rfl)
  clear hcl
  go_enter Tryz.func159, Tryz.ntmps159
  go_upto_region 40 with fail
  refine Left.region [13] (S := SAp w ⟨tx, jn, gl, cp, wd⟩ 10 t) (by kernel_rfl) (HN.out.below (Below.refl _ _).drew) (fun hS0 => ?_)
  clear HN
  generalize (World.drew _) = v0 at *
  have HS0 := Lib.hid hS0
  refine Left.take (i := 0) (v := .pointer (some ⟨w.heap.size, 0, none⟩)) rfl (by kernel_rfl) (by kernel_rfl) (by kernel_rfl) (by kernel_rfl) (fun _ _ _ h => h) (Or.inl ⟨by rfl, fun z hz => ?_⟩) hS0 ?_
  · obtain ⟨⟨⟨z0, z1, z2, z3, z4⟩, ⟨y0, y1, y2, y3, y4⟩, yl⟩, ⟨x0, x1, xl⟩, ⟨⟨u0, u1, u2, u3, u4⟩, ⟨t0, t1, t2, t3, t4⟩, tl⟩, _⟩ := hz
    go_simp
  try simp only [qA, qB, Act.put, qD, qE, qF]
  refine Left.take (i := 1) (v := .string (S tx)) rfl (by kernel_rfl) (by kernel_rfl) (by kernel_rfl) (by kernel_rfl) (fun _ _ _ h => h) (Or.inl ⟨by rfl, fun z hz => ?_⟩) hS0 ?_
  · obtain ⟨⟨⟨z0, z1, z2, z3, z4⟩, ⟨y0, y1, y2, y3, y4⟩, yl⟩, ⟨x0, x1, xl⟩, ⟨⟨u0, u1, u2, u3, u4⟩, ⟨t0, t1, t2, t3, t4⟩, tl⟩, _⟩ := hz
    go_simp
  try simp only [qA, qB, qC, Act.put, qD, qE, qF]
  refine Left.take (i := 2) (v := .pointer (some ⟨w.heap.size, 4, none⟩)) rfl (by kernel_rfl) (by kernel_rfl) (by kernel_rfl) (by kernel_rfl) (fun _ _ _ h => h) (Or.inl ⟨by rfl, fun z hz => ?_⟩) hS0 ?_
  · obtain ⟨⟨⟨z0, z1, z2, z3, z4⟩, ⟨y0, y1, y2, y3, y4⟩, yl⟩, ⟨x0, x1, xl⟩, ⟨⟨u0, u1, u2, u3, u4⟩, ⟨t0, t1, t2, t3, t4⟩, tl⟩, _⟩ := hz
    go_simp
  try simp only [qA, qB, qC, Act.put, qD, qE, qF]
  refine Left.take (i := 3) (v := .int .i64 (wd : Int)) rfl (by kernel_rfl) (by kernel_rfl) (by kernel_rfl) (by kernel_rfl) (fun _ _ _ h => h) (Or.inl ⟨by rfl, fun z hz => ?_⟩) hS0 ?_
  · obtain ⟨⟨⟨z0, z1, z2, z3, z4⟩, ⟨y0, y1, y2, y3, y4⟩, yl⟩, ⟨x0, x1, xl⟩, ⟨⟨u0, u1, u2, u3, u4⟩, ⟨t0, t1, t2, t3, t4⟩, tl⟩, _⟩ := hz
    go_simp
  try simp only [qA, qB, qC, Act.put, qD, qE, qF]
  refine Left.take (i := 4) (v := .string (S (tx.take wd))) rfl (by kernel_rfl) (by kernel_rfl) (by kernel_rfl) (by kernel_rfl) (fun _ _ _ h => h) (Or.inl ⟨by rfl, fun z hz => ?_⟩) hS0 ?_
  · obtain ⟨⟨⟨z0, z1, z2, z3, z4⟩, ⟨y0, y1, y2, y3, y4⟩, yl⟩, ⟨x0, x1, xl⟩, ⟨⟨u0, u1, u2, u3, u4⟩, ⟨t0, t1, t2, t3, t4⟩, tl⟩, _⟩ := hz
    go_simp
  try simp only [qA, qB, qC, Act.put, qD, qE, qF]
  refine Left.take (i := 5) (v := .pointer (some ⟨w.heap.size, 0, none⟩)) rfl (by kernel_rfl) (by kernel_rfl) (by kernel_rfl) (by kernel_rfl) (fun _ _ _ h => h) (Or.inl ⟨by rfl, fun z hz => ?_⟩) hS0 ?_
  · obtain ⟨⟨⟨z0, z1, z2, z3, z4⟩, ⟨y0, y1, y2, y3, y4⟩, yl⟩, ⟨x0, x1, xl⟩, ⟨⟨u0, u1, u2, u3, u4⟩, ⟨t0, t1, t2, t3, t4⟩, tl⟩, _⟩ := hz
    go_simp
  try simp only [qA, qB, qC, Act.put, qD, qE, qF]
  refine Left.take (i := 6) (v := .string (S tx)) rfl (by kernel_rfl) (by kernel_rfl) (by kernel_rfl) (by kernel_rfl) (fun _ _ _ h => h) (Or.inl ⟨by rfl, fun z hz => ?_⟩) hS0 ?_
  · obtain ⟨⟨⟨z0, z1, z2, z3, z4⟩, ⟨y0, y1, y2, y3, y4⟩, yl⟩, ⟨x0, x1, xl⟩, ⟨⟨u0, u1, u2, u3, u4⟩, ⟨t0, t1, t2, t3, t4⟩, tl⟩, _⟩ := hz
    go_simp
  try simp only [qA, qB, qC, Act.put, qD, qE, qF]
  refine Left.take (i := 7) (v := .pointer (some ⟨w.heap.size, 4, none⟩)) rfl (by kernel_rfl) (by kernel_rfl) (by kernel_rfl) (by kernel_rfl) (fun _ _ _ h => h) (Or.inl ⟨by rfl, fun z hz => ?_⟩) hS0 ?_
  · obtain ⟨⟨⟨z0, z1, z2, z3, z4⟩, ⟨y0, y1, y2, y3, y4⟩, yl⟩, ⟨x0, x1, xl⟩, ⟨⟨u0, u1, u2, u3, u4⟩, ⟨t0, t1, t2, t3, t4⟩, tl⟩, _⟩ := hz
    go_simp
  try simp only [qA, qB, qC, Act.put, qD, qE, qF]
  refine Left.take (i := 8) (v := .int .i64 (wd : Int)) rfl (by kernel_rfl) (by kernel_rfl) (by kernel_rfl) (by kernel_rfl) (fun _ _ _ h => h) (Or.inl ⟨by rfl, fun z hz => ?_⟩) hS0 ?_
  · obtain ⟨⟨⟨z0, z1, z2, z3, z4⟩, ⟨y0, y1, y2, y3, y4⟩, yl⟩, ⟨x0, x1, xl⟩, ⟨⟨u0, u1, u2, u3, u4⟩, ⟨t0, t1, t2, t3, t4⟩, tl⟩, _⟩ := hz
    go_simp
  try simp only [qA, qB, qC, Act.put, qD, qE, qF]
  refine Left.take (i := 9) (v := .string (S (tx.drop wd))) rfl (by kernel_rfl) (by kernel_rfl) (by kernel_rfl) (by kernel_rfl) (fun _ _ _ h => h) (Or.inl ⟨by rfl, fun z hz => ?_⟩) hS0 ?_
  · obtain ⟨⟨⟨z0, z1, z2, z3, z4⟩, ⟨y0, y1, y2, y3, y4⟩, yl⟩, ⟨x0, x1, xl⟩, ⟨⟨u0, u1, u2, u3, u4⟩, ⟨t0, t1, t2, t3, t4⟩, tl⟩, _⟩ := hz
    go_simp
  try simp only [qA, qB, qC, Act.put, qD, qE, qF]
  refine Left.ready (rs := [10]) (by kernel_rfl) (by simp) ?_
  refine Nexts.cons rfl (fun K hK => ?_) Nexts.nil
  go_simp
  refine (l12Case (tx.drop wd) 1 _ (by omega) HDL.out).mono ?_
  rintro e v1 ⟨rfl, hb⟩
  have HS1 := Lib.hid (HS0.out.below hb)
  refine on_held hK (by decide) HS1.out (fun hS1 => ?_)
  clear hK K hb HS0 hS0
  try simp only [qA, qB, qC, Act.put, qD, qE, qF]
  refine Left.take (i := 11) (v := .string (S (tx.take wd ++ P.caseW (tx.drop wd) 1))) rfl (by kernel_rfl) (by kernel_rfl) (by kernel_rfl) (by kernel_rfl) (fun _ _ _ h => h) (Or.inl ⟨by rfl, fun z hz => ?_⟩) hS1 ?_
  · obtain ⟨⟨⟨z0, z1, z2, z3, z4⟩, ⟨y0, y1, y2, y3, y4⟩, yl⟩, ⟨x0, x1, xl⟩, ⟨⟨u0, u1, u2, u3, u4⟩, ⟨t0, t1, t2, t3, t4⟩, tl⟩, _⟩ := hz
    go_simp
  try simp only [qA, qB, qC, Act.put, qD, qE, qF]
  refine Left.take (i := 12) (v := .pointer (some ⟨w.heap.size, 0, none⟩)) rfl (by kernel_rfl) (by kernel_rfl) (by kernel_rfl) (by kernel_rfl) (fun _ _ _ h => h) (Or.inl ⟨by rfl, fun z hz => ?_⟩) hS1 ?_
  · obtain ⟨⟨⟨z0, z1, z2, z3, z4⟩, ⟨y0, y1, y2, y3, y4⟩, yl⟩, ⟨x0, x1, xl⟩, ⟨⟨u0, u1, u2, u3, u4⟩, ⟨t0, t1, t2, t3, t4⟩, tl⟩, _⟩ := hz
    go_simp
  try simp only [qA, qB, qC, Act.put, qD, qE, qF]
  refine Left.ready (rs := [13]) (by kernel_rfl) (by simp) ?_
  refine Nexts.cons rfl (fun K hK => ?_) Nexts.nil
  obtain ⟨⟨⟨a0, a1, a2, a3, a4⟩, ⟨f0, f1, f2, f3, f4⟩, hlt⟩, ⟨k0, k1, hlk⟩, ⟨⟨b0, b1, b2, b3, b4⟩, ⟨g0, g1, g2, g3, g4⟩, hlr⟩, _⟩ := HS1.out
  go_simp
  refine on_last hK (by decide) ?_
  clear hK K hS1
  try simp only [qA, qB, qC, Act.put, qD, qE, qF]
  refine Left.done (by kernel_rfl) ?_ _
  have HT := Lib.hid (HS1.out.tx (tx.take wd ++ P.caseW (tx.drop wd) 1))
  go_upto_region 41 with fail
  generalize (World.setCell _ _ _) = v9 at *
  clear a0 a1 a2 a3 a4 hlt f0 f1 f2 f3 f4 k0 k1 hlk b0 b1 b2 b3 b4 hlr g0 g1 g2 g3 g4
  obtain ⟨⟨⟨a0, a1, a2, a3, a4⟩, ⟨f0, f1, f2, f3, f4⟩, hlt⟩, ⟨k0, k1, hlk⟩, ⟨⟨b0, b1, b2, b3, b4⟩, ⟨g0, g1, g2, g3, g4⟩, hlr⟩, _⟩ := HT.out
  simp only at a0 a1 a2 a3 a4 b0 b1 b2 b3 b4
  go_wp2
  refine bodyPost_ret (v := stV ⟨tx.take wd ++ P.caseW (tx.drop wd) 1, jn, gl, cp, wd⟩) (by simp [results, Tryz.results159, go_sem, b0, b1, b2, b3, b4]) rfl ⟨by rw [HA.out], ?_⟩
  repeat (refine Below.setCell ?_ (by first | (simp; done) | (simp; omega)) _)
  exact HT.out.2.2.2
end Go.Proofs.YtmlklnimoknojaaGreatDoor
