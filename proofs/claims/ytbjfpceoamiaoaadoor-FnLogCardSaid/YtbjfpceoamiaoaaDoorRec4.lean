/- Walks: rows of records that hold their marks. -/
import Derived.Test.YtbjfpceoamiaoaaDoorRec3
namespace Go.Proofs.YtbjfpceoamiaoaaDoor
open Go Go.RowKit
set_option maxHeartbeats 1000000
set_option maxRecDepth 100000
theorem heldRecs (u : Value) (g n : Nat) (k : Int) (w : World) (hk0 : 0 ≤ k) (hk : k ≤ 1000) (hn9 : n ≤ 1000) (h : RowR u g (P.marks k n) w) :
    Calls Tryd.prog 25 #[u, .int .i64 k] w fun e w' => e = .returned (.int .i64 (k + 2 * (n : Int))) ∧ Below w.heap.size w w' := by
  obtain ⟨ad, cap, rfl, hl, hr⟩ := h
  have HR := Lib.hid hr; clear hr
  rw [P.marks_len]
  clear hl
  go_enter Tryd.func25, Tryd.ntmps25
  go_wp2
  go_loopw [1, 5] (fun c i wr => ∃ j : Nat, j ≤ n ∧ i = .int .i64 j ∧ c = .int .i64 (k + 2 * (j : Int)) ∧ Below w.heap.size w wr) (fun _ i _ => n - (intOf i).toNat)
  case atStart => exact ⟨0, Nat.zero_le _, rfl, by go_num, Below.refl _ _⟩
  case round =>
    obtain ⟨j, hj, rfl, rfl, hb⟩ := hrel
    have hsz := hb.size
    by_cases hlt : j < n
    · have hg : ad = some ⟨g, 0, none⟩ ∧ g < w.heap.size ∧ RecAt g (P.marks k n) w := by
        rcases HR.out with h | h
        · have := congrArg List.length h; rw [P.marks_len] at this; simp at this; omega
        · exact h
      obtain ⟨rfl, hgl, hra⟩ := hg
      obtain ⟨p1, p2, _⟩ := hra j (by rw [P.marks_len]; exact hlt)
      have e : (P.marks k n)[j]'(by rw [P.marks_len]; exact hlt) = P.markAt k j := by simp [P.marks]
      rw [e] at p1 p2
      have a1 : wr.cell? ⟨g, j * 2, none⟩ = some (.string (S (P.mark (k + 2 * (j : Int))))) := (hb.cell (p := ⟨g, _, none⟩) hgl).trans p1
      have a2 : wr.cell? ⟨g, j * 2 + 1, none⟩ = some (.string (S (P.mark (k + 2 * (j : Int) + 1)))) := (hb.cell (p := ⟨g, _, none⟩) hgl).trans p2
      have hgr : g < wr.heap.size := by omega
      have HB := Lib.hid hb
      clear hra p1 p2 e hb
      go_upto_region 4 with fail
      go_region_law ((go_simp; go_at_call 47; refine (markText _ _ (by omega)).mono ?_; rintro e v ⟨rfl, hb⟩; have a3 : v.cell? ⟨g, j * 2, none⟩ = some (.string (S (P.mark (k + 2 * (j : Int))))) := (hb.cell (p := ⟨g, _, none⟩) hgr).trans a1; have a4 : v.cell? ⟨g, j * 2 + 1, none⟩ = some (.string (S (P.mark (k + 2 * (j : Int) + 1)))) := (hb.cell (p := ⟨g, _, none⟩) hgr).trans a2; have hgv : g < v.heap.size := Nat.lt_of_lt_of_le hgr hb.size; have HV := Lib.hid (HB.out.drew.trans (hb.mono hsz)); have hszv : w.heap.size ≤ v.heap.size := Nat.le_trans hsz hb.size; clear hb))
      all_goals
        go_upto_region 7 with fail
        go_region_law ((go_simp; go_at_call 47; refine (markText _ _ (by omega)).mono ?_; rintro e v ⟨rfl, hb⟩; have a5 : v.cell? ⟨g, j * 2 + 1, none⟩ = some (.string (S (P.mark (k + 2 * (j : Int) + 1)))) := (hb.cell (p := ⟨g, _, none⟩) hgv).trans a4; have HV2 := Lib.hid (HV.out.drew.trans (hb.mono hszv)); clear hb))
        all_goals
          go_wp2
          go_roundw
          case rel => exact ⟨j + 1, by omega, by go_num, by go_num, HV2.out⟩
          case measure => simp [intOf]; omega
    · obtain rfl : n = j := by omega
      go_wp2
      go_ret
      exact ⟨rfl, hb⟩
end Go.Proofs.YtbjfpceoamiaoaaDoor
