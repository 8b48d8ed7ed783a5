/- Walks: a text drawn from bytes. -/
import Derived.Test.YtbjfpceoamiaoaaDoorCur12
namespace Go.Proofs.YtbjfpceoamiaoaaDoor
open Go Go.RowKit
set_option maxHeartbeats 2000000
set_option maxRecDepth 100000
theorem run_mkN (k : Nat) (w : World) (hk : k ≤ 2 ^ 20) : (Instr.makeSlice 47 (.int .i64 k) (.int .i64 k)).run Tryd.prog w = .ok (.slice (some ⟨w.heap.size, 0, none⟩) k k) (w.alloc (.cells (madeCells #[.int .u8 0] k) 5)) := by
  obtain ⟨i, hi, he⟩ := Option.map_eq_some_iff.mp info_u8c
  simp only [Prod.mk.injEq] at he
  obtain ⟨hz, hs, hb⟩ := he
  have h := run_make (P := Tryd.prog) w 47 5 i (.int .u8 0) Tryd.underlying47 hi hz .i64 .i64 k k (by omega) (by omega) (by rw [hb]; omega) (by omega)
  rw [hs, Nat.mul_one, Int.toNat_natCast] at h
  exact h
theorem made_cell (k j : Nat) (w : World) (hj : j < k) (t : TypeId) : (w.alloc (.cells (madeCells #[.int .u8 0] k) t)).cell? ⟨w.heap.size, j, none⟩ = some (.int .u8 0) := by
  have : (madeCells #[.int .u8 0] k)[j]? = some (.int .u8 0) := by
    rw [Array.getElem?_eq_getElem (by rw [size_madeCells]; exact hj)]
    simp [madeCells, Nat.mod_one]
  exact (World.cell?_alloc_new w _ t j).trans this
def DrawnText (w : World) (e : Ending) (w' : World) : Prop := ∃ s : Str, s.length ≤ 40000 ∧ e = .returned (.string (S s)) ∧ Below w.heap.size w w'
theorem drawRecoverLog (cv : Value) (w : World) (hc : CodeIs w cv) (hE : Env w) :
    Calls Tryd.prog 30 #[cv] w (DrawnText w) := by
  have hb1 := Lib.hid ((Below.refl w.heap.size w).alloc (Nat.le_refl _) (.cells #[cv, .int .i64 0, .int .u64 0] 70))
  have P0 := Lib.hid (CurPost.refl (IsCur.fresh (t := 70) hc (Below.refl w.heap.size w)) (Nat.le_refl _))
  obtain ⟨ad, n, cap, rfl, _, _⟩ := hc
  have HE := Lib.hid hE
  clear hE
  go_enter Tryd.func30, Tryd.ntmps30
  go_wp2_with fail
  refine (cur_log _ _ 0 _ (by decide) HE.out.size P0.out.1 (HE.out.alloc _)).mono ?_
  rintro e w1 ⟨d, p, m, ⟨hs1, hs2, hs3⟩, rfl, hcp, _⟩
  have P1 := Lib.hid ((P0.out.trans hcp).alloc (.cells #[.string (S d), .string (S p), .int .i64 m] 27))
  clear hcp P0
  have f1 : ¬ 9223372036854775807 < d.length + p.length := by omega
  have hlen : (d ++ p).length ≤ 31000 := by rw [List.length_append]; omega
  go_wp2_with fail
  generalize hdp : d ++ p = t at *
  have HDP := Lib.hid hdp; clear hdp
  refine (cur_pick _ _ _ 4 _ (by decide) (by decide) P1.out.1).mono ?_
  rintro e w2 ⟨k, hk, rfl, hcp⟩
  have P2 := Lib.hid (P1.out.trans hcp)
  clear hcp P1
  have fin : ∀ (s : Str) (v : World), s.length ≤ 40000 → CurPost w.heap.size w.heap.size 500 (w.alloc (.cells #[.slice ad n cap, .int .i64 0, .int .u64 0] 70)) v → DrawnText w (.returned (.string (S s))) v := fun s v hs hp => ⟨s, hs, rfl, hb1.out.trans hp.2.2⟩
  have FIN := Lib.hid fin; clear fin
  by_cases hk0 : k = 0
  case' pos =>
    subst hk0
    go_wp2_with fail
    refine (cur_spoilt _ _ _ t [35, 62, 10, 48, 49] _ (by omega) (by omega) (by decide) (by decide) P2.out.1).mono ?_
    rintro e wt ⟨s, hsl, rfl, hcp⟩
    have PT := Lib.hid ((P2.out.trans hcp).mono (show 0 + 80 + 2 + 6 ≤ 300 by omega))
    have hsl2 : s.length ≤ 36000 := by omega
    clear hcp P2
    go_wp2_with fail
  case' neg => by_cases hk1 : k = 1
  case' pos =>
    subst hk1
    go_wp2_with fail
    refine (cur_pick _ _ _ ((t.length : Int) + 1) _ (by decide) (by omega) P2.out.1).mono ?_
    rintro e wt ⟨j, hj, rfl, hcp⟩
    have PT := Lib.hid ((P2.out.trans hcp).mono (show 0 + 80 + 2 + 2 ≤ 300 by omega))
    have hj2 : j ≤ t.length := by omega
    clear hcp P2
    go_wp2_with fail
    obtain ⟨s, hs⟩ : ∃ s, s = t.take j := ⟨_, rfl⟩
    have hsl2 : s.length ≤ 36000 := by rw [hs, List.length_take]; omega
    rw [← hs]
    clear hs
  case' neg => by_cases hk2 : k = 2
  case' pos =>
    subst hk2
    go_wp2_with fail
    refine (cur_pick _ _ _ 4 _ (by decide) (by decide) P2.out.1).mono ?_
    rintro e w3 ⟨j, hj, rfl, hcp⟩
    have P3 := Lib.hid (P2.out.trans hcp)
    have hj2 : j ≤ 3 := by omega
    clear hcp P2 hj
    go_wp2_with fail
    refine (cur_record _ _ _ _ (by decide) P3.out.1).mono ?_
    rintro e w4 ⟨c, r, hcl, hrl, rfl, hcp⟩
    have P4 := Lib.hid (P3.out.trans hcp)
    clear hcp P3
    go_wp2_with fail
    refine (l24Line _ _ _ _ (by omega) (by omega) (by omega) (by omega)).mono ?_
    rintro e wt ⟨rfl, hb⟩
    have PT := Lib.hid ((P4.out.below hb).mono (show 0 + 80 + 2 + 2 + 8 ≤ 300 by omega))
    clear hb P4
    obtain ⟨l, hl⟩ : ∃ l, l = P.line (Int.toNat (j : Int)) c r := ⟨_, rfl⟩
    have hll : l.length ≤ 200 := by
      rw [hl, Int.toNat_natCast]
      have h1 := P.num_len j (by omega)
      have h2 := P.num_len (P.sum (P.body j c r)) (by have := P.sum_lt' (P.body j c r); omega)
      rw [P.line_body, List.length_append, List.length_append, List.length_cons]
      have h3 : (P.body j c r).length ≤ 60 := by unfold P.body; simp; omega
      have h4 : ([10] : Str).length = 1 := rfl
      omega
    rw [← hl]
    clear hl
    have f2 : ¬ 9223372036854775807 < t.length + l.length := by omega
    go_wp2_with fail
    obtain ⟨s, hs⟩ : ∃ s, s = t ++ l := ⟨_, rfl⟩
    have hsl2 : s.length ≤ 36000 := by rw [hs, List.length_append]; omega
    rw [← hs]
    clear hs
  case' neg =>
    have hx0 : ¬ (k : Int) = 0 := by omega
    have hx1 : ¬ (k : Int) = 1 := by omega
    have hx2 : ¬ (k : Int) = 2 := by omega
    go_wp2_with fail
    obtain ⟨s, hs⟩ : ∃ s, s = t := ⟨_, rfl⟩
    have hsl2 : s.length ≤ 36000 := by rw [hs]; omega
    rw [← hs]
    obtain ⟨wt, hwt⟩ : ∃ wt, wt = w2 := ⟨_, rfl⟩
    rw [← hwt] at P2 ⊢
    have PT := Lib.hid (P2.out.mono (show 0 + 80 + 2 ≤ 300 by omega))
    clear P2 hwt hs
  all_goals
    refine (cur_one _ _ _ 40 _ (by decide) (by decide) PT.out.1).mono ?_
    rintro e w5 ⟨b, rfl, hcp⟩
    have P5 := Lib.hid (PT.out.trans hcp)
    clear hcp PT
    cases b
    · go_wp2
      go_ret
      exact FIN.out s w5 (by omega) (P5.out.mono (by omega))
    · go_wp2_with fail
      refine (cur_pick _ _ _ 2 _ (by decide) (by decide) P5.out.1).mono ?_
      rintro e w6 ⟨y, hy, rfl, hcp⟩
      have P6 := Lib.hid (P5.out.trans hcp)
      clear hcp P5
      have hmk := run_mkN (30000 + y) w6 (by omega)
      have hback := run_convert_bytes_back (P := Tryd.prog) (w6.alloc (.cells (madeCells #[.int .u8 0] (30000 + y)) 5)) 47 9 5 ⟨w6.heap.size, 0, none⟩ (30000 + y) (List.replicate (30000 + y) 0) Tryd.underlying47 Tryd.underlying5 Tryd.underlying9 (by
        intro j hj
        rw [List.length_replicate] at hj
        rw [add0, made_cell _ _ _ hj, List.getElem_replicate]
        rfl)
      rw [List.length_replicate] at hback
      rw [show ((30000 + y : Nat) : Int) = 30000 + (y : Int) by omega] at hmk
      generalize hrep : List.replicate (30000 + y) (0 : UInt8) = rep at *
      have hrl : rep.length = 30000 + y := by rw [← hrep, List.length_replicate]
      clear hrep
      generalize hmc : madeCells #[.int .u8 0] (30000 + y) = mc at *
      clear hmc
      go_wp2_with fail
      go_ret
      exact FIN.out rep _ (by omega) ((P6.out.alloc _).mono (by omega))
end Go.Proofs.YtbjfpceoamiaoaaDoor
