/- Walk: the law of AppendRecord. -/
import Derived.Test.YtbjfpceoamiaoaaDoorAppS
import Derived.Test.YtbjfpceoamiaoaaDoorSync
namespace Go.Proofs.YtbjfpceoamiaoaaDoor
open Go Go.RowKit
set_option maxHeartbeats 400000
set_option maxRecDepth 100000
/-- the law's boxes of a log and of a record -/
def LB (w : World) (d p : Str) (n : Int) (c r : Str) (v : World) : Prop :=
  v.cell? ⟨w.heap.size, 0, none⟩ = some (.string (S d)) ∧ v.cell? ⟨w.heap.size, 1, none⟩ = some (.string (S p)) ∧ v.cell? ⟨w.heap.size, 2, none⟩ = some (.int .i64 n) ∧
  v.cell? ⟨w.heap.size + 1, 0, none⟩ = some (.string (S c)) ∧ v.cell? ⟨w.heap.size + 1, 1, none⟩ = some (.string (S r)) ∧
  w.heap.size + 1 < v.heap.size ∧ Env v ∧ Below w.heap.size w v
/-- a log in a block of the law's own -/
def LC (B : Nat) (x y : Str) (z : Int) (C : Nat) (v : World) : Prop :=
  v.cell? ⟨C, 0, none⟩ = some (.string (S x)) ∧ v.cell? ⟨C, 1, none⟩ = some (.string (S y)) ∧ v.cell? ⟨C, 2, none⟩ = some (.int .i64 z) ∧ B ≤ C ∧ C < v.heap.size
theorem LB.start {w : World} {d p : Str} {n : Int} {c r : Str} {t u : TypeId} (hE : Env w) :
    LB w d p n c r ((w.alloc (.cells #[.string (S d), .string (S p), .int .i64 n] t)).alloc (.cells #[.string (S c), .string (S r)] u)) := by
  refine ⟨?_, ?_, ?_, ?_, ?_, by simp, (hE.alloc _).alloc _, ((Below.refl _ _).alloc (Nat.le_refl _) _).alloc (by simp) _⟩ <;> go_simp
theorem LB.carry {w v v' : World} {d p : Str} {n : Int} {c r : Str} (h : LB w d p n c r v) (hb : Below v.heap.size v v') : LB w d p n c r v' := by
  obtain ⟨a1, a2, a3, b1, b2, f, g, i⟩ := h
  have hz0 : w.heap.size < v.heap.size := by omega
  refine ⟨?_, ?_, ?_, ?_, ?_, Nat.lt_of_lt_of_le f hb.size, g.below hb g.size, i.trans (hb.mono (by omega))⟩
  · exact (hb.cell (p := ⟨_, 0, none⟩) hz0).trans a1
  · exact (hb.cell (p := ⟨_, 1, none⟩) hz0).trans a2
  · exact (hb.cell (p := ⟨_, 2, none⟩) hz0).trans a3
  · exact (hb.cell (p := ⟨_, 0, none⟩) f).trans b1
  · exact (hb.cell (p := ⟨_, 1, none⟩) f).trans b2
theorem LB.alloc {w v : World} {d p : Str} {n : Int} {c r : Str} (h : LB w d p n c r v) (o : Obj) : LB w d p n c r (v.alloc o) :=
  h.carry ((Below.refl _ _).alloc (Nat.le_refl _) o)
theorem LB.drew {w v : World} {d p : Str} {n : Int} {c r : Str} (h : LB w d p n c r v) : LB w d p n c r v.drew :=
  h.carry ((Below.refl _ _).drew)
theorem LB.env {w v : World} {d p : Str} {n : Int} {c r : Str} (h : LB w d p n c r v) : Env v := h.2.2.2.2.2.2.1
theorem LB.lt {w v : World} {d p : Str} {n : Int} {c r : Str} (h : LB w d p n c r v) : w.heap.size + 1 < v.heap.size := h.2.2.2.2.2.1
theorem LB.below {w v : World} {d p : Str} {n : Int} {c r : Str} (h : LB w d p n c r v) : Below w.heap.size w v := h.2.2.2.2.2.2.2
theorem Env.set {w : World} (h : Env w) {a : Addr} (ha : EB ≤ a.block) (u : Value) : Env (w.setCell a u) :=
  h.below ((Below.refl EB _).setCell ha _) (Nat.le_refl _)
theorem LB.set {w v : World} {d p : Str} {n : Int} {c r : Str} (h : LB w d p n c r v) {C o : Nat} (hC : w.heap.size + 1 < C) (hw : EB ≤ w.heap.size) (u : Value) : LB w d p n c r (v.setCell ⟨C, o, none⟩ u) := by
  obtain ⟨a1, a2, a3, b1, b2, f, g, i⟩ := h
  refine ⟨?_, ?_, ?_, ?_, ?_, by simpa using f, g.set (by show EB ≤ C; omega) _, i.setCell (by show w.heap.size ≤ C; omega) _⟩
  · rw [World.cell?_setCell_other _ _ _ _ (by intro e; injection e; omega)]; exact a1
  · rw [World.cell?_setCell_other _ _ _ _ (by intro e; injection e; omega)]; exact a2
  · rw [World.cell?_setCell_other _ _ _ _ (by intro e; injection e; omega)]; exact a3
  · rw [World.cell?_setCell_other _ _ _ _ (by intro e; injection e; omega)]; exact b1
  · rw [World.cell?_setCell_other _ _ _ _ (by intro e; injection e; omega)]; exact b2
theorem LC.carry {B C : Nat} {x y : Str} {z : Int} {v v' : World} (h : LC B x y z C v) (hb : Below v.heap.size v v') : LC B x y z C v' := by
  obtain ⟨a1, a2, a3, f, g⟩ := h
  exact ⟨(hb.cell (p := ⟨_, 0, none⟩) g).trans a1, (hb.cell (p := ⟨_, 1, none⟩) g).trans a2, (hb.cell (p := ⟨_, 2, none⟩) g).trans a3, f, Nat.lt_of_lt_of_le g hb.size⟩
theorem LB.parts {w v : World} {d p : Str} {n : Int} {c r : Str} (h : LB w d p n c r v) : v.cell? ⟨w.heap.size, 0, none⟩ = some (.string (S d)) ∧ v.cell? ⟨w.heap.size, 1, none⟩ = some (.string (S p)) ∧ v.cell? ⟨w.heap.size, 2, none⟩ = some (.int .i64 n) ∧
  v.cell? ⟨w.heap.size + 1, 0, none⟩ = some (.string (S c)) ∧ v.cell? ⟨w.heap.size + 1, 1, none⟩ = some (.string (S r)) ∧
  w.heap.size + 1 < v.heap.size ∧ Env v ∧ Below w.heap.size w v := h
theorem LC.parts {B C : Nat} {x y : Str} {z : Int} {v : World} (h : LC B x y z C v) : v.cell? ⟨C, 0, none⟩ = some (.string (S x)) ∧ v.cell? ⟨C, 1, none⟩ = some (.string (S y)) ∧ v.cell? ⟨C, 2, none⟩ = some (.int .i64 z) ∧ B ≤ C ∧ C < v.heap.size := h
theorem LC.alloc {B C : Nat} {x y : Str} {z : Int} {v : World} (h : LC B x y z C v) (o : Obj) : LC B x y z C (v.alloc o) := h.carry ((Below.refl _ _).alloc (Nat.le_refl _) o)
theorem LC.drew {B C : Nat} {x y : Str} {z : Int} {v : World} (h : LC B x y z C v) : LC B x y z C v.drew := h.carry (Below.refl _ _).drew
theorem LC.set {B C : Nat} {x y : Str} {z : Int} {v : World} (h : LC B x y z C v) {C' o : Nat} (hC : C < C') (u : Value) : LC B x y z C (v.setCell ⟨C', o, none⟩ u) := by
  obtain ⟨a1, a2, a3, f, g⟩ := h
  refine ⟨?_, ?_, ?_, f, by simpa using g⟩
  · rw [World.cell?_setCell_other _ _ _ _ (by intro e; injection e; omega)]; exact a1
  · rw [World.cell?_setCell_other _ _ _ _ (by intro e; injection e; omega)]; exact a2
  · rw [World.cell?_setCell_other _ _ _ _ (by intro e; injection e; omega)]; exact a3
attribute [local irreducible] LB LC
theorem grew1 {w w1 : World} {o : Obj} {B : Nat} (hb : Below B (w.alloc o).drew w1) : w.heap.size < w1.heap.size := by
  have h := hb.size
  have e : ((w.alloc o).drew).heap.size = w.heap.size + 1 := by show (w.heap.push o).size = _; simp
  omega
set_option maxHeartbeats 4000000 in
theorem law_append (d p : Str) (n : Int) (c r : Str) (w : World) (hd : d.length ≤ maxLen) (hp : p.length ≤ maxLen) (hc : c.length ≤ maxLen) (hr : r.length ≤ maxLen) (hE : Env w) :
    Calls Tryd.prog 5 #[logV d p n, .agg #[.string (S c), .string (S r)]] w fun e w' => e = .returned (.bool true) ∧ Below w.heap.size w w' := by
  have A1 := LB.start (w := w) (d := d) (p := p) (n := n) (c := c) (r := r) (t := 23) (u := 35) hE
  have HW := Lib.hid hE.size
  clear hE
  rcases Int.lt_or_le (P.sz2 d.length p.length 1048576) 0 with h1 | h1
  · go_enter Tryd.func5, Tryd.ntmps5
    go_wp2_with fail
    refine (szLog _ _ _ _ _ hd hp (by omega) (by omega)).mono ?_
    rintro e w1 ⟨rfl, hb⟩
    have A2 := A1.carry hb
    clear hb
    go_wp2
    go_ret
    exact ⟨rfl, A2.below⟩
  · have hle := sz2_le h1
    have hd2 : d.length ≤ 2 ^ 20 := by omega
    have hp2 : p.length ≤ 2 ^ 20 := by omega
    obtain ⟨L, hL⟩ : ∃ L, L = P.sz2 d.length p.length 1048576 := ⟨_, rfl⟩
    have hL2 : L ≤ 1048576 := by rw [hL]; unfold P.sz2; split <;> (try split) <;> omega
    rw [← hL] at h1
    have HL := Lib.hid hL; clear hL
    rcases Int.lt_or_le (P.sz2 c.length r.length L) 0 with h2 | h2
    · go_enter Tryd.func5, Tryd.ntmps5
      go_wp2_with fail
      refine (szLog _ _ _ _ _ hd hp (by omega) (by omega)).mono ?_
      rintro e w1 ⟨rfl, hb⟩
      rw [← HL.out]
      have A2 := A1.carry hb
      obtain ⟨a1, a2, a3, b1, b2, hz, _⟩ := (A1.carry hb).parts
      clear hb
      go_wp2_with fail
      refine (szLogRecord _ _ _ _ hc hr h1 hL2).mono ?_
      rintro e w2 ⟨rfl, hb⟩
      have A3 := A2.carry hb
      clear hb
      go_wp2
      go_ret
      exact ⟨rfl, A3.below⟩
    · have hle2 := sz2_le h2
      have hc2 : c.length ≤ 2 ^ 20 := by omega
      have hr2 : r.length ≤ 2 ^ 20 := by omega
      have HS := Lib.hid (P.app_eq d p n c r)
      clear hle hle2
      go_enter Tryd.func5, Tryd.ntmps5
      go_wp2_with fail
      refine (szLog _ _ _ _ _ hd hp (by omega) (by omega)).mono ?_
      rintro e w1 ⟨rfl, hb⟩
      rw [← HL.out]
      have A2 := A1.carry hb
      obtain ⟨a1, a2, a3, b1, b2, hz, _⟩ := (A1.carry hb).parts
      clear hb A1
      go_wp2_with fail
      refine (szLogRecord _ _ _ _ hc hr h1 hL2).mono ?_
      rintro e w2 ⟨rfl, hb⟩
      have A3 := A2.carry hb
      clear a1 a2 a3 b1 b2 hz
      obtain ⟨a1, a2, a3, b1, b2, hz, _⟩ := (A2.carry hb).parts
      clear hb A2
      go_upto_region 8 with fail
      go_cut [6, 7] (fun a k wx => LB w d p n c r wx ∧ ∃ C, a = .pointer (some ⟨C, 0, none⟩) ∧ k = .int .i64 (P.appS d p n c r).2.2 ∧ LC w.heap.size d (P.appS d p n c r).1 (P.appS d p n c r).2.1 C wx)
      case first =>
        have A4 := A3.drew
        have hz4 : w.heap.size + 1 < w2.drew.heap.size := hz
        have hz0 := Nat.lt_of_succ_lt hz
        go_region_law ((go_simp; (first | (go_at_call 12; refine (toLog _ _ _ _).mono ?_) | (go_at_call 19; refine (toLogRecord _ _ _).mono ?_) | (go_at_call 18; refine (spec_append _ _ _ _ _ _ hd2 hp2 hc2 hr2 (by first | exact LB.env (by assumption) | exact LB.env (LB.alloc (by assumption) _) | exact LB.env (LB.drew (LB.alloc (by assumption) _)))).mono ?_)); rintro e v ⟨rfl, hb⟩; (first | have A5 := LB.carry (by assumption) hb | have A5 := LB.carry (LB.alloc (by assumption) _) hb | have A5 := LB.carry (LB.drew (LB.alloc (by assumption) _)) hb); have A6 := A5; obtain ⟨a1, a2, a3, b1, b2, hz, _⟩ := A6.parts; have hz0 := Nat.lt_of_succ_lt hz; obtain ⟨hcc, hff⟩ := bcell hb; (first | have hg := grew0 hb | have hg := grew1 hb | have hg := Nat.lt_of_lt_of_le (by assumption) hb.size); clear hb))
        all_goals
          have hE := HW.out
          go_wp2_with fail
          go_meet
          refine ⟨?_, _, rfl, rfl, ?_⟩
          · first | (with_reducible refine LB.alloc ?_ _; assumption) | (with_reducible refine LB.set (LB.set (LB.set ?_ ?_ hE _) ?_ hE _) ?_ hE _ <;> assumption)
          · unfold LC; refine ⟨by go_simp, by go_simp, by go_simp, by omega, by (try simp); try omega⟩
      case rest =>
        obtain ⟨B1, C, rfl, rfl, D1⟩ := hcut
        clear A3 a1 a2 a3 b1 b2 hz
        obtain ⟨a1, a2, a3, b1, b2, hz, _⟩ := B1.parts
        go_upto_region 9 with fail
        go_cut [8, 9] (fun a k wx => LB w d p n c r wx ∧ LC w.heap.size d (P.appS d p n c r).1 (P.appS d p n c r).2.1 C wx ∧ ∃ C', a = .pointer (some ⟨C', 0, none⟩) ∧ k = .int .i64 (P.appS d p n c r).2.2 ∧ LC w.heap.size d (P.appS d p n c r).1 (P.appS d p n c r).2.1 C' wx)
        case first =>
          have A4 := B1.drew
          have D4 := D1.drew
          have hCl : C < wc.heap.size := D1.parts.2.2.2.2
          have hz4 : w.heap.size + 1 < wc.drew.heap.size := hz
          have hz0 := Nat.lt_of_succ_lt hz
          go_region_law ((go_simp; (first | (go_at_call 12; refine (toLog _ _ _ _).mono ?_; rintro e v ⟨rfl, hb⟩) | (go_at_call 19; refine (toLogRecord _ _ _).mono ?_; rintro e v ⟨rfl, hb⟩) | (go_at_call 20; refine (impl_append _ _ _ _ _ _ hd2 hp2 hc2 hr2 (by first | exact LB.env (by assumption) | exact LB.env (LB.alloc (by assumption) _) | exact LB.env (LB.drew (LB.alloc (by assumption) _)))).mono ?_; rintro e v ⟨rfl, hb⟩; rw [HS.out])); (first | (have A5 := LB.carry (by assumption) hb; have D5 := LC.carry (by assumption) hb) | (have A5 := LB.carry (LB.alloc (by assumption) _) hb; have D5 := LC.carry (LC.alloc (by assumption) _) hb) | (have A5 := LB.carry (LB.drew (LB.alloc (by assumption) _)) hb; have D5 := LC.carry (LC.drew (LC.alloc (by assumption) _)) hb)); have A6 := A5; obtain ⟨a1, a2, a3, b1, b2, hz, _⟩ := A6.parts; have hz0 := Nat.lt_of_succ_lt hz; have hCl := D5.parts.2.2.2.2; obtain ⟨hcc, hff⟩ := bcell hb; (first | have hg := grew0 hb | have hg := grew1 hb | have hg := Nat.lt_of_lt_of_le (by assumption) hb.size); clear hb))
          all_goals
            have hE := HW.out
            go_wp2_with fail
            go_meet
            refine ⟨?_, ?_, _, rfl, rfl, ?_⟩
            · first | (with_reducible refine LB.alloc ?_ _; assumption) | (with_reducible refine LB.set (LB.set (LB.set ?_ ?_ hE _) ?_ hE _) ?_ hE _ <;> assumption)
            · first | (with_reducible refine LC.alloc ?_ _; assumption) | (with_reducible refine LC.set (LC.set (LC.set ?_ ?_ _) ?_ _) ?_ _ <;> assumption)
            · unfold LC; refine ⟨by go_simp, by go_simp, by go_simp, by omega, by (try simp); try omega⟩
        case rest =>
          obtain ⟨B2, D2, C', rfl, rfl, E2⟩ := hcut
          clear a1 a2 a3 b1 b2 hz B1 D1
          obtain ⟨x1, x2, x3, x4, x5⟩ := D2.parts
          obtain ⟨y1, y2, y3, y4, y5⟩ := E2.parts
          go_wp2_with fail
          refine (eqLog _ _ _ _ _ _ _).mono ?_
          rintro e w6 ⟨rfl, hb⟩
          have B3 := B2.carry hb
          clear hb x1 x2 x3 x4 x5 y1 y2 y3 y4 y5
          go_wp2
          go_ret
          exact ⟨rfl, B3.below⟩
end Go.Proofs.YtbjfpceoamiaoaaDoor
