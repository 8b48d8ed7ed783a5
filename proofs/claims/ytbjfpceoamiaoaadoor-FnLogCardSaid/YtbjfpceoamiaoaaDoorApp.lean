/- Walks: one record more. -/
import Derived.Test.YtbjfpceoamiaoaaDoorLog11
import Derived.Test.YtbjfpceoamiaoaaDoorPlainLog
namespace Go.Proofs.YtbjfpceoamiaoaaDoor
namespace P
/-- one record more, as the reference has it: what is pending, the number, the code -/
def appS (d p : Bs) (n : Int) (c r : Bs) : Bs × Int × Int :=
  if !validLog d p n || !good c r then (p, n, 1) else if n == 60 then (p, n, 2) else (p ++ line n.toNat c r, n + 1, 0)
def appI (d p : Bs) (n : Int) (c r : Bs) : Bs × Int × Int :=
  if !recordsOk d p n || !vrec c r then (p, n, 1) else if n == 60 then (p, n, 2) else (p ++ (encode n c r).1, n + 1, 0)
theorem valid_n {d p : Bs} {n : Int} (h : validLog d p n = true) : 0 ≤ n ∧ n ≤ 60 ∧ d.length + p.length ≤ 30000 := by
  unfold validLog at h
  simp only [Bool.and_eq_true, decide_eq_true_eq, beq_iff_eq] at h
  have := (readAll_len (d ++ p)).1
  rw [openLog_eq] at h
  simp only at h
  omega
theorem app_eq (d p : Bs) (n : Int) (c r : Bs) : appI d p n c r = appS d p n c r := by
  unfold appI appS
  rw [records_valid, vrec_good]
  cases h1 : validLog d p n <;> cases h2 : good c r <;> try rfl
  cases h3 : (n == 60)
  · obtain ⟨h4, h5, _⟩ := valid_n h1
    obtain ⟨m, rfl⟩ := Int.eq_ofNat_of_zero_le h4
    have h6 : ((m : Nat) : Int) ≠ 60 := by simpa using h3
    have := encode_good (k := m) (by omega) h2
    simp only [Bool.not_true, Bool.or_self, Bool.false_eq_true, if_false, Int.toNat_natCast]
    rw [this]
  · rfl
end P
open Go Go.RowKit
set_option maxHeartbeats 400000
set_option maxRecDepth 100000
theorem szLogRecord (c r : Str) (left : Int) (w : World) (hd : c.length ≤ maxLen) (hp : r.length ≤ maxLen) (hl0 : 0 ≤ left) (hl : left ≤ 1048576) :
    Calls Tryd.prog 17 #[.agg #[.string (S c), .string (S r)], .int .i64 left] w fun e w' => e = .returned (.int .i64 (P.sz2 c.length r.length left)) ∧ Below w.heap.size w w' := by
  unfold maxLen at hd hp
  rcases Int.lt_or_le (left - (c.length : Int)) 0 with h1 | h1
  · have HF := Lib.hid (show P.sz2 c.length r.length left = -1 by unfold P.sz2; rw [if_pos h1])
    go_enter Tryd.func17, Tryd.ntmps17
    go_wp2
    go_ret
    exact ⟨by rw [HF.out]; rfl, (Below.refl _ _).alloc (Nat.le_refl _) _⟩
  · rcases Int.lt_or_le (left - (c.length : Int) - (r.length : Int)) 0 with h2 | h2
    · have HF := Lib.hid (show P.sz2 c.length r.length left = -1 by unfold P.sz2; rw [if_neg (by omega), if_pos h2])
      go_enter Tryd.func17, Tryd.ntmps17
      go_wp2
      go_ret
      exact ⟨by rw [HF.out]; rfl, (Below.refl _ _).alloc (Nat.le_refl _) _⟩
    · have HF := Lib.hid (show P.sz2 c.length r.length left = left - (c.length : Int) - (r.length : Int) by unfold P.sz2; rw [if_neg (by omega), if_neg (by omega)])
      go_enter Tryd.func17, Tryd.ntmps17
      go_wp2
      go_ret
      exact ⟨by rw [HF.out]; rfl, (Below.refl _ _).alloc (Nat.le_refl _) _⟩
theorem toLogRecord (c r : Str) (w : World) :
    Calls Tryd.prog 19 #[.agg #[.string (S c), .string (S r)]] w fun e w' => e = .returned (.agg #[.string (S c), .string (S r)]) ∧ Below w.heap.size w w' := by
  go_enter Tryd.func19, Tryd.ntmps19
  go_wp2
  refine bodyPost_ret (v := .agg #[.string (S c), .string (S r)]) (by simp [results, Tryd.results19, go_sem]) rfl ⟨rfl, ?_⟩
  exact (((Below.refl _ _).alloc (Nat.le_refl _) _).alloc (by simp) _).alloc (by simp; omega) _
/-- the boxes of a log and of a record, and the result's, carried over a call -/
def AB (w : World) (d p : Str) (n : Int) (c r : Str) (v : World) : Prop :=
  (v.cell? ⟨w.heap.size, 0, none⟩ = some (.string (S d)) ∧ v.cell? ⟨w.heap.size, 1, none⟩ = some (.string (S p)) ∧ v.cell? ⟨w.heap.size, 2, none⟩ = some (.int .i64 n)) ∧
  (v.cell? ⟨w.heap.size + 1, 0, none⟩ = some (.string (S c)) ∧ v.cell? ⟨w.heap.size + 1, 1, none⟩ = some (.string (S r))) ∧
  (v.cell? ⟨w.heap.size + 1 + 1, 0, none⟩ = some (.string (S [])) ∧ v.cell? ⟨w.heap.size + 1 + 1, 1, none⟩ = some (.string (S [])) ∧ v.cell? ⟨w.heap.size + 1 + 1, 2, none⟩ = some (.int .i64 0)) ∧
  (v.frozen? ⟨w.heap.size, 0, none⟩ = false ∧ v.frozen? ⟨w.heap.size, 1, none⟩ = false ∧ v.frozen? ⟨w.heap.size, 2, none⟩ = false) ∧
  (v.frozen? ⟨w.heap.size + 1 + 1, 0, none⟩ = false ∧ v.frozen? ⟨w.heap.size + 1 + 1, 1, none⟩ = false ∧ v.frozen? ⟨w.heap.size + 1 + 1, 2, none⟩ = false) ∧
  w.heap.size + 1 + 1 < v.heap.size ∧ Env v ∧ Below w.heap.size w v
theorem AB.start {w : World} {d p : Str} {n : Int} {c r : Str} {t u : TypeId} (hE : Env w) :
    AB w d p n c r (((w.alloc (.cells #[.string (S d), .string (S p), .int .i64 n] t)).alloc (.cells #[.string (S c), .string (S r)] u)).alloc (.cells #[.string (S []), .string (S []), .int .i64 0] t)) := by
  refine ⟨⟨?_, ?_, ?_⟩, ⟨?_, ?_⟩, ⟨?_, ?_, ?_⟩, ⟨?_, ?_, ?_⟩, ⟨?_, ?_, ?_⟩, by simp, ((hE.alloc _).alloc _).alloc _, (((Below.refl _ _).alloc (Nat.le_refl _) _).alloc (by simp) _).alloc (by simp; omega) _⟩ <;> go_simp
theorem AB.carry {w v v' : World} {d p : Str} {n : Int} {c r : Str} (h : AB w d p n c r v) (hb : Below v.heap.size v v') : AB w d p n c r v' := by
  obtain ⟨⟨a1, a2, a3⟩, ⟨b1, b2⟩, ⟨c1, c2, c3⟩, ⟨d1, d2, d3⟩, ⟨e1, e2, e3⟩, f, g, i⟩ := h
  have hz0 : w.heap.size < v.heap.size := by omega
  have hz1 : w.heap.size + 1 < v.heap.size := by omega
  refine ⟨⟨?_, ?_, ?_⟩, ⟨?_, ?_⟩, ⟨?_, ?_, ?_⟩, ⟨?_, ?_, ?_⟩, ⟨?_, ?_, ?_⟩, Nat.lt_of_lt_of_le f hb.size, g.below hb g.size, i.trans (hb.mono (by omega))⟩
  · exact (hb.cell (p := ⟨_, 0, none⟩) hz0).trans a1
  · exact (hb.cell (p := ⟨_, 1, none⟩) hz0).trans a2
  · exact (hb.cell (p := ⟨_, 2, none⟩) hz0).trans a3
  · exact (hb.cell (p := ⟨_, 0, none⟩) hz1).trans b1
  · exact (hb.cell (p := ⟨_, 1, none⟩) hz1).trans b2
  · exact (hb.cell (p := ⟨_, 0, none⟩) f).trans c1
  · exact (hb.cell (p := ⟨_, 1, none⟩) f).trans c2
  · exact (hb.cell (p := ⟨_, 2, none⟩) f).trans c3
  · exact (hb.frozen (p := ⟨_, 0, none⟩) hz0).trans d1
  · exact (hb.frozen (p := ⟨_, 1, none⟩) hz0).trans d2
  · exact (hb.frozen (p := ⟨_, 2, none⟩) hz0).trans d3
  · exact (hb.frozen (p := ⟨_, 0, none⟩) f).trans e1
  · exact (hb.frozen (p := ⟨_, 1, none⟩) f).trans e2
  · exact (hb.frozen (p := ⟨_, 2, none⟩) f).trans e3
theorem AB.env {w v : World} {d p : Str} {n : Int} {c r : Str} (h : AB w d p n c r v) : Env v := h.2.2.2.2.2.2.1
theorem AB.below {w v : World} {d p : Str} {n : Int} {c r : Str} (h : AB w d p n c r v) : Below w.heap.size w v := h.2.2.2.2.2.2.2
theorem impl_append (d p : Str) (n : Int) (c r : Str) (w : World) (hd : d.length ≤ 2 ^ 20) (hp : p.length ≤ 2 ^ 20) (hc : c.length ≤ 2 ^ 20) (hr : r.length ≤ 2 ^ 20) (hE : Env w) :
    Calls Tryd.prog 20 #[logV d p n, .agg #[.string (S c), .string (S r)]] w fun e w' => e = .returned (.tuple #[logV d (P.appI d p n c r).1 (P.appI d p n c r).2.1, .int .i64 (P.appI d p n c r).2.2]) ∧ Below w.heap.size w w' := by
  have A1 := Lib.hid (AB.start (w := w) (d := d) (p := p) (n := n) (c := c) (r := r) (t := 27) (u := 39) hE)
  clear hE
  cases h1 : P.recordsOk d p n
  · have HF := Lib.hid (show P.appI d p n c r = (p, n, 1) by unfold P.appI; rw [h1]; rfl)
    go_enter Tryd.func20, Tryd.ntmps20
    go_wp2_with fail
    refine (isValidLog _ _ _ _ hd hp A1.out.env).mono ?_
    rintro e w1 ⟨rfl, hb⟩
    have A2 := Lib.hid (A1.out.carry hb); clear hb A1
    obtain ⟨⟨a1, a2, a3⟩, ⟨b1, b2⟩, ⟨c1, c2, c3⟩, ⟨d1, d2, d3⟩, ⟨e1, e2, e3⟩, hz, _⟩ := A2.out
    rw [h1]
    go_wp2
    refine bodyPost_ret (v := .tuple #[logV d p n, .int .i64 1]) (by simp [results, Tryd.results20, go_sem, c1, c2, c3]) rfl ⟨by rw [HF.out], ?_⟩
    exact ((A2.out.below.setCell (by simp; omega) _).setCell (by simp; omega) _).setCell (by simp; omega) _
  · cases h2 : P.vrec c r
    · have HF := Lib.hid (show P.appI d p n c r = (p, n, 1) by unfold P.appI; rw [h1, h2]; rfl)
      go_enter Tryd.func20, Tryd.ntmps20
      go_wp2_with fail
      refine (isValidLog _ _ _ _ hd hp A1.out.env).mono ?_
      rintro e w1 ⟨rfl, hb⟩
      have A2 := Lib.hid (A1.out.carry hb); clear hb A1
      obtain ⟨⟨a1, a2, a3⟩, ⟨b1, b2⟩, ⟨c1, c2, c3⟩, ⟨d1, d2, d3⟩, ⟨e1, e2, e3⟩, hz, _⟩ := A2.out
      rw [h1]
      go_wp2_with fail
      refine (isValidRecord _ _ _ (by omega) (by omega)).mono ?_
      rintro e w2 ⟨rfl, hb⟩
      have A3 := Lib.hid (A2.out.carry hb); clear hb A2
      clear a1 a2 a3 b1 b2 c1 c2 c3 d1 d2 d3 e1 e2 e3 hz
      obtain ⟨⟨a1, a2, a3⟩, ⟨b1, b2⟩, ⟨c1, c2, c3⟩, ⟨d1, d2, d3⟩, ⟨e1, e2, e3⟩, hz, _⟩ := A3.out
      rw [h2]
      go_wp2
      refine bodyPost_ret (v := .tuple #[logV d p n, .int .i64 1]) (by simp [results, Tryd.results20, go_sem, c1, c2, c3]) rfl ⟨by rw [HF.out], ?_⟩
      exact ((A3.out.below.setCell (by simp; omega) _).setCell (by simp; omega) _).setCell (by simp; omega) _
    · cases h3 : (n == 60)
      · have HF := Lib.hid (show P.appI d p n c r = (p ++ (P.encode n c r).1, n + 1, 0) by unfold P.appI; rw [h1, h2, h3]; rfl)
        have hn := P.valid_n (P.records_valid d p n ▸ h1)
        obtain ⟨hn0, hn1, _⟩ := hn
        obtain ⟨x, hx⟩ : ∃ x, (P.encode n c r).1 = x := ⟨_, rfl⟩
        have HX := Lib.hid hx
        have hxl : x.length ≤ 10000 := by
          rw [← hx]
          obtain ⟨m, rfl⟩ := Int.eq_ofNat_of_zero_le hn0
          have h6 : ((m : Nat) : Int) ≠ 60 := by simpa using h3
          rw [P.encode_good (k := m) (by omega) (P.vrec_good c r ▸ h2)]
          have := (P.line_len (k := m) (by omega) (P.vrec_good c r ▸ h2)).1
          show (P.line m c r).length ≤ 10000
          omega
        clear hx
        go_enter Tryd.func20, Tryd.ntmps20
        go_wp2_with fail
        refine (isValidLog _ _ _ _ hd hp A1.out.env).mono ?_
        rintro e w1 ⟨rfl, hb⟩
        have A2 := Lib.hid (A1.out.carry hb); clear hb A1
        obtain ⟨⟨a1, a2, a3⟩, ⟨b1, b2⟩, ⟨c1, c2, c3⟩, ⟨d1, d2, d3⟩, ⟨e1, e2, e3⟩, hz, _⟩ := A2.out
        rw [h1]
        go_wp2_with fail
        refine (isValidRecord _ _ _ (by omega) (by omega)).mono ?_
        rintro e w2 ⟨rfl, hb⟩
        have A3 := Lib.hid (A2.out.carry hb); clear hb A2
        clear a1 a2 a3 b1 b2 c1 c2 c3 d1 d2 d3 e1 e2 e3 hz
        obtain ⟨⟨a1, a2, a3⟩, ⟨b1, b2⟩, ⟨c1, c2, c3⟩, ⟨d1, d2, d3⟩, ⟨e1, e2, e3⟩, hz, _⟩ := A3.out
        rw [h2]
        go_wp2_with fail
        refine (encodeRecord _ _ _ _ (by omega) (by omega) A3.out.env).mono ?_
        rintro e w3 ⟨rfl, hb⟩
        rw [HX.out]
        have A4 := Lib.hid (A3.out.carry hb); clear hb A3
        clear a1 a2 a3 b1 b2 c1 c2 c3 d1 d2 d3 e1 e2 e3 hz
        obtain ⟨⟨a1, a2, a3⟩, ⟨b1, b2⟩, ⟨c1, c2, c3⟩, ⟨d1, d2, d3⟩, ⟨e1, e2, e3⟩, hz, _⟩ := A4.out
        have f1 : ¬ 9223372036854775807 < p.length + x.length := by omega
        go_wp2
        refine bodyPost_ret (v := .tuple #[logV d (p ++ x) (n + 1), .int .i64 0]) (by simp [results, Tryd.results20, go_sem, c1, c2, c3]) rfl ⟨by rw [HF.out, HX.out], ?_⟩
        exact ((A4.out.below.setCell (by simp; omega) _).setCell (by simp; omega) _).setCell (by simp; omega) _
      · have HF := Lib.hid (show P.appI d p n c r = (p, n, 2) by unfold P.appI; rw [h1, h2, h3]; rfl)
        go_enter Tryd.func20, Tryd.ntmps20
        go_wp2_with fail
        refine (isValidLog _ _ _ _ hd hp A1.out.env).mono ?_
        rintro e w1 ⟨rfl, hb⟩
        have A2 := Lib.hid (A1.out.carry hb); clear hb A1
        obtain ⟨⟨a1, a2, a3⟩, ⟨b1, b2⟩, ⟨c1, c2, c3⟩, ⟨d1, d2, d3⟩, ⟨e1, e2, e3⟩, hz, _⟩ := A2.out
        rw [h1]
        go_wp2_with fail
        refine (isValidRecord _ _ _ (by omega) (by omega)).mono ?_
        rintro e w2 ⟨rfl, hb⟩
        have A3 := Lib.hid (A2.out.carry hb); clear hb A2
        clear a1 a2 a3 b1 b2 c1 c2 c3 d1 d2 d3 e1 e2 e3 hz
        obtain ⟨⟨a1, a2, a3⟩, ⟨b1, b2⟩, ⟨c1, c2, c3⟩, ⟨d1, d2, d3⟩, ⟨e1, e2, e3⟩, hz, _⟩ := A3.out
        rw [h2]
        go_wp2
        refine bodyPost_ret (v := .tuple #[logV d p n, .int .i64 2]) (by simp [results, Tryd.results20, go_sem, c1, c2, c3]) rfl ⟨by rw [HF.out], ?_⟩
        exact ((A3.out.below.setCell (by simp; omega) _).setCell (by simp; omega) _).setCell (by simp; omega) _
end Go.Proofs.YtbjfpceoamiaoaaDoor
