/- Walks: the cursor draws a record (unfinished). -/
import Derived.Test.YtbjfpceoamiaoaaDoorCur4
namespace Go.Proofs.YtbjfpceoamiaoaaDoor
open Go Go.RowKit
set_option maxHeartbeats 1000000
set_option maxRecDepth 100000
theorem info_u8c : (Tryd.prog.info? 5).map (fun i => (i.zero, i.size, i.bytes)) = some (some (.int .u8 0), 1, 1) := by kernel_rfl
theorem run_mk3 (w : World) : (Instr.makeSlice 47 (.int .i64 3) (.int .i64 3)).run Tryd.prog w = .ok (.slice (some ⟨w.heap.size, 0, none⟩) 3 3) (w.alloc (.cells #[.int .u8 0, .int .u8 0, .int .u8 0] 5)) := by
  obtain ⟨i, hi, he⟩ := Option.map_eq_some_iff.mp info_u8c
  simp only [Prod.mk.injEq] at he
  obtain ⟨hz, hs, hb⟩ := he
  have h := run_make (P := Tryd.prog) w 47 5 i (.int .u8 0) Tryd.underlying47 hi hz .i64 .i64 3 3 (by omega) (by omega) (by rw [hb]; decide) (by decide)
  rw [hs, show madeCells (Value.int .u8 0).cells (Int.toNat 3 * 1) = #[.int .u8 0, .int .u8 0, .int .u8 0] by simp [madeCells, Value.cells, ← Array.toList_inj, List.range_succ]] at h
  exact h
theorem cur_record (B C K : Nat) (w : World) (hK : K < 2 ^ 38) (h : IsCur B C K w) :
    Calls Tryd.prog 49 #[.pointer (some ⟨C, 0, none⟩)] w fun e w' => ∃ c r : Str, c.length ≤ 16 ∧ r.length ≤ 16 ∧ e = .returned (.agg #[.string (S c), .string (S r)]) ∧ CurPost B C (K + 8) w w' := by
  have P0 := Lib.hid (CurPost.refl h (Nat.le_refl _))
  obtain ⟨hBC, hC⟩ := h.lt
  clear h
  go_enter Tryd.func49, Tryd.ntmps49
  go_wp2_with fail
  refine (cur_of B C K _ _ [[99, 111, 117, 110, 116], [112, 114, 101, 115, 115, 32, 75, 65, 84], [120], [108, 111, 111, 107, 117, 112, 32, 75, 65, 84], [48, 32, 49]] _ (by omega) (by decide) (by decide) (by simp) (by omega) ?_ ((P0.out.alloc _).alloc _).1).mono ?_
  · intro j hj
    match j, hj with | 0, _ => go_simp | 1, _ => go_simp | 2, _ => go_simp | 3, _ => go_simp | 4, _ => go_simp
  rintro e w1 ⟨s, hs, rfl, hc⟩
  have P1 := Lib.hid (((P0.out.alloc _).alloc _).trans hc)
  have hsl : s.length ≤ 16 := by
    simp only [List.mem_cons, List.not_mem_nil, or_false] at hs
    rcases hs with rfl | rfl | rfl | rfl | rfl <;> decide
  have hz1 : w.heap.size + 1 < w1.heap.size := by have := hc.2.1.2.2; simp at this; omega
  have k0 : w1.cell? ⟨w.heap.size, 0, none⟩ = some (.string (S [])) := (hc.2.1.1 _ _ (by simp; omega) (by omega)).trans (by go_simp)
  have k1 : w1.cell? ⟨w.heap.size, 1, none⟩ = some (.string (S [])) := (hc.2.1.1 _ _ (by simp; omega) (by omega)).trans (by go_simp)
  have g0 : w1.frozen? ⟨w.heap.size, 0, none⟩ = false := (hc.2.1.2.1 _ _ (by simp; omega) (by omega)).trans (by go_simp)
  have g1 : w1.frozen? ⟨w.heap.size, 1, none⟩ = false := (hc.2.1.2.1 _ _ (by simp; omega) (by omega)).trans (by go_simp)
  clear hc hs
  go_wp2_with fail
  refine (cur_of B C (K + 2) _ _ [[], [51], [63], [97, 62, 98], [45, 49, 43, 105, 110, 103]] _ (by omega) (by decide) (by decide) (by simp) (by omega) ?_ (P1.out.alloc _).1).mono ?_
  · intro j hj
    match j, hj with | 0, _ => go_simp | 1, _ => go_simp | 2, _ => go_simp | 3, _ => go_simp | 4, _ => go_simp
  rintro e w2 ⟨r, hs, rfl, hc⟩
  have P2 := Lib.hid ((P1.out.alloc _).trans hc)
  have hrl : r.length ≤ 16 := by
    simp only [List.mem_cons, List.not_mem_nil, or_false] at hs
    rcases hs with rfl | rfl | rfl | rfl | rfl <;> decide
  have hz2 : w.heap.size + 1 < w2.heap.size := by have := hc.2.1.2.2; simp at this; omega
  have hz0 := Nat.lt_of_succ_lt hz1
  have k0' : w2.cell? ⟨w.heap.size, 0, none⟩ = some (.string (S [])) := (hc.2.1.1 _ _ (by simp; omega) (by omega)).trans (by go_simp)
  have k1' : w2.cell? ⟨w.heap.size, 1, none⟩ = some (.string (S [])) := (hc.2.1.1 _ _ (by simp; omega) (by omega)).trans (by go_simp)
  have g0' : w2.frozen? ⟨w.heap.size, 0, none⟩ = false := (hc.2.1.2.1 _ _ (by simp; omega) (by omega)).trans (by go_simp)
  have g1' : w2.frozen? ⟨w.heap.size, 1, none⟩ = false := (hc.2.1.2.1 _ _ (by simp; omega) (by omega)).trans (by go_simp)
  clear hc hs k0 k1 g0 g1 P1 hz1 hz0
  go_wp2_with fail
  refine (cur_pick B C (K + 4) 24 _ (by omega) (by omega) (P2.out.alloc _).1).mono ?_
  rintro e w3 ⟨k, _, rfl, hc⟩
  have P3 := Lib.hid ((P2.out.alloc _).trans hc)
  have hz3 : w2.heap.size < w3.heap.size := by have := hc.2.1.2.2; simp at this; omega
  have hCr : w2.heap.size ≠ C := by omega
  have hz0 := Nat.lt_of_succ_lt hz2
  have k0 : w3.cell? ⟨w.heap.size, 0, none⟩ = some (.string (S [])) := (hc.2.1.1 _ _ (by simp; omega) (by omega)).trans (by go_simp)
  have k1 : w3.cell? ⟨w.heap.size, 1, none⟩ = some (.string (S [])) := (hc.2.1.1 _ _ (by simp; omega) (by omega)).trans (by go_simp)
  have g0 : w3.frozen? ⟨w.heap.size, 0, none⟩ = false := (hc.2.1.2.1 _ _ (by simp; omega) (by omega)).trans (by go_simp)
  have g1 : w3.frozen? ⟨w.heap.size, 1, none⟩ = false := (hc.2.1.2.1 _ _ (by simp; omega) (by omega)).trans (by go_simp)
  have e0 : w3.cell? ⟨w2.heap.size, 0, none⟩ = some (.string (S s)) := (hc.2.1.1 _ _ (by simp) hCr).trans (by go_simp)
  have e1 : w3.cell? ⟨w2.heap.size, 1, none⟩ = some (.string (S r)) := (hc.2.1.1 _ _ (by simp) hCr).trans (by go_simp)
  have m0 : w3.frozen? ⟨w2.heap.size, 0, none⟩ = false := (hc.2.1.2.1 _ _ (by simp) hCr).trans (by go_simp)
  have m1 : w3.frozen? ⟨w2.heap.size, 1, none⟩ = false := (hc.2.1.2.1 _ _ (by simp) hCr).trans (by go_simp)
  clear hc k0' k1' g0' g1' P2
  by_cases hk0 : k = 0
  · subst hk0
    have hz03 : w.heap.size < w3.heap.size := by omega
    have hback := run_convert_bytes_back (P := Tryd.prog) (w3.alloc (.cells #[.int .u8 0, .int .u8 0, .int .u8 0] 5)) 47 9 5 ⟨w3.heap.size, 0, none⟩ 3 [0, 0, 0] Tryd.underlying47 Tryd.underlying5 Tryd.underlying9 (by
      intro j hj
      rw [add0]
      match j, hj with | 0, _ => go_simp | 1, _ => go_simp | 2, _ => go_simp)
    rw [show ([0, 0, 0] : List UInt8).length = 3 from rfl] at hback
    have hmk : (Instr.makeSlice 47 (.int .i64 3) (.int .i64 3)).run Tryd.prog w3 = .ok (.slice (some ⟨w3.heap.size, 0, none⟩) 3 3) (w3.alloc (.cells #[.int .u8 0, .int .u8 0, .int .u8 0] 5)) := run_mk3 w3
    go_wp2_with fail
    refine (cur_of B C (K + 6) _ _ [[], [97, 62, 98], [97, 35], [10], [0, 0, 0]] _ (by omega) (by decide) (by decide) (by simp) (by omega) ?_ ((P3.out.alloc _).alloc _).1).mono ?_
    · intro j hj
      match j, hj with | 0, _ => go_simp | 1, _ => go_simp | 2, _ => go_simp | 3, _ => go_simp | 4, _ => go_simp
    rintro e w4 ⟨x, hs, rfl, hc⟩
    have P4 := Lib.hid (((P3.out.alloc _).alloc _).trans hc)
    have hxl : x.length ≤ 16 := by
      simp only [List.mem_cons, List.not_mem_nil, or_false] at hs
      rcases hs with rfl | rfl | rfl | rfl | rfl <;> decide
    have k0' : w4.cell? ⟨w.heap.size, 0, none⟩ = some (.string (S [])) := (hc.2.1.1 _ _ (by simp; omega) (by omega)).trans (by go_simp)
    have k1' : w4.cell? ⟨w.heap.size, 1, none⟩ = some (.string (S [])) := (hc.2.1.1 _ _ (by simp; omega) (by omega)).trans (by go_simp)
    have g0' : w4.frozen? ⟨w.heap.size, 0, none⟩ = false := (hc.2.1.2.1 _ _ (by simp; omega) (by omega)).trans (by go_simp)
    have g1' : w4.frozen? ⟨w.heap.size, 1, none⟩ = false := (hc.2.1.2.1 _ _ (by simp; omega) (by omega)).trans (by go_simp)
    have e0' : w4.cell? ⟨w2.heap.size, 0, none⟩ = some (.string (S s)) := (hc.2.1.1 _ _ (by simp; omega) hCr).trans (by go_simp)
    have e1' : w4.cell? ⟨w2.heap.size, 1, none⟩ = some (.string (S r)) := (hc.2.1.1 _ _ (by simp; omega) hCr).trans (by go_simp)
    have m0' : w4.frozen? ⟨w2.heap.size, 0, none⟩ = false := (hc.2.1.2.1 _ _ (by simp; omega) hCr).trans (by go_simp)
    clear hc hs k0 k1 g0 g1 e0 e1 m0 m1 P3
    go_wp2
    refine bodyPost_ret (v := .agg #[.string (S x), .string (S r)]) (by simp [results, Tryd.results49, go_sem, k0', k1']) rfl ⟨x, r, by omega, by omega, rfl, ?_⟩
    exact ((P4.out.set (by omega) (by omega) (by omega) _).set (by omega) (by omega) (by omega) _).set (by omega) (by omega) (by omega) _
  · by_cases hk1 : k = 1
    · subst hk1
      have hz03 : w.heap.size < w3.heap.size := by omega
      go_wp2_with fail
      refine (cur_of B C (K + 6) _ _ [[35], [10], [127]] _ (by omega) (by decide) (by decide) (by simp) (by omega) ?_ (P3.out.alloc _).1).mono ?_
      · intro j hj
        match j, hj with | 0, _ => go_simp | 1, _ => go_simp | 2, _ => go_simp
      rintro e w4 ⟨x, hs, rfl, hc⟩
      have P4 := Lib.hid ((P3.out.alloc _).trans hc)
      have hxl : x.length ≤ 16 := by
        simp only [List.mem_cons, List.not_mem_nil, or_false] at hs
        rcases hs with rfl | rfl | rfl <;> decide
      have k0' : w4.cell? ⟨w.heap.size, 0, none⟩ = some (.string (S [])) := (hc.2.1.1 _ _ (by simp; omega) (by omega)).trans (by go_simp)
      have k1' : w4.cell? ⟨w.heap.size, 1, none⟩ = some (.string (S [])) := (hc.2.1.1 _ _ (by simp; omega) (by omega)).trans (by go_simp)
      have g0' : w4.frozen? ⟨w.heap.size, 0, none⟩ = false := (hc.2.1.2.1 _ _ (by simp; omega) (by omega)).trans (by go_simp)
      have g1' : w4.frozen? ⟨w.heap.size, 1, none⟩ = false := (hc.2.1.2.1 _ _ (by simp; omega) (by omega)).trans (by go_simp)
      have e0' : w4.cell? ⟨w2.heap.size, 0, none⟩ = some (.string (S s)) := (hc.2.1.1 _ _ (by simp; omega) hCr).trans (by go_simp)
      have e1' : w4.cell? ⟨w2.heap.size, 1, none⟩ = some (.string (S r)) := (hc.2.1.1 _ _ (by simp; omega) hCr).trans (by go_simp)
      have m1' : w4.frozen? ⟨w2.heap.size, 1, none⟩ = false := (hc.2.1.2.1 _ _ (by simp; omega) hCr).trans (by go_simp)
      clear hc hs k0 k1 g0 g1 e0 e1 m0 m1 P3
      go_wp2
      refine bodyPost_ret (v := .agg #[.string (S s), .string (S x)]) (by simp [results, Tryd.results49, go_sem, k0', k1']) rfl ⟨s, x, by omega, by omega, rfl, ?_⟩
      exact ((P4.out.set (by omega) (by omega) (by omega) _).set (by omega) (by omega) (by omega) _).set (by omega) (by omega) (by omega) _
    · have hx0 : ¬ (k : Int) = 0 := by omega
      have hx1 : ¬ (k : Int) = 1 := by omega
      go_wp2
      refine bodyPost_ret (v := .agg #[.string (S s), .string (S r)]) (by simp [results, Tryd.results49, go_sem, k0, k1]) rfl ⟨s, r, by omega, by omega, rfl, ?_⟩
      exact ((P3.out.set (by omega) (by omega) (by omega) _).set (by omega) (by omega) (by omega) _).mono (by omega)
end Go.Proofs.YtbjfpceoamiaoaaDoor
