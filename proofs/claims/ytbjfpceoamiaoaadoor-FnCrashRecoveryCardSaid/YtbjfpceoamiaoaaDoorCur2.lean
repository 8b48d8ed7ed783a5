/- Walks: the cursor's choices. -/
import Derived.Test.YtbjfpceoamiaoaaDoorCur1
namespace Go.Proofs.YtbjfpceoamiaoaaDoor
open Go Go.RowKit
set_option maxHeartbeats 400000
set_option maxRecDepth 100000
theorem cur_of (B C K g cap : Nat) (l : List Str) (w : World) (hK : K < 2 ^ 39) (hl : l.length < 2 ^ 30) (hl0 : 0 < l.length) (hg : g < w.heap.size) (hgC : g ≠ C)
    (hcell : ∀ (j : Nat) (h : j < l.length), w.cell? ⟨g, j, none⟩ = some (.string (S (l[j]'h)))) (h : IsCur B C K w) :
    Calls Tryd.prog 67 #[.pointer (some ⟨C, 0, none⟩), .slice (some ⟨g, 0, none⟩) l.length cap] w fun e w' => ∃ s, s ∈ l ∧ e = .returned (.string (S s)) ∧ CurPost B C (K + 2) w w' := by
  have HC := Lib.hid h; clear h
  have HCELL := Lib.hid hcell; clear hcell
  go_enter Tryd.func67, Tryd.ntmps67
  go_wp2_with fail
  refine (cur_pick B C K l.length w hK (by omega) HC.out).mono ?_
  rintro e w1 ⟨x, hx, rfl, hc⟩
  have hxl : x < l.length := by omega
  clear hx
  have hk : w1.cell? ⟨g, x, none⟩ = some (.string (S l[x])) := (hc.2.1.1 g x hg hgC).trans (HCELL.out x hxl)
  have H1 := Lib.hid hc; clear hc
  obtain ⟨s, hs⟩ : ∃ s, s = l[x] := ⟨_, rfl⟩
  rw [← hs] at hk
  have HM := Lib.hid (show s ∈ l by rw [hs]; exact List.getElem_mem hxl)
  clear hs
  go_wp2
  go_ret
  exact ⟨s, HM.out, rfl, H1.out⟩
theorem cur_among (B C K g cap : Nat) (l : List Int) (w : World) (hK : K < 2 ^ 39) (hl : l.length < 2 ^ 30) (hl0 : 0 < l.length) (hg : g < w.heap.size) (hgC : g ≠ C)
    (hcell : ∀ (j : Nat) (h : j < l.length), w.cell? ⟨g, j, none⟩ = some (.int .i64 (l[j]'h))) (h : IsCur B C K w) :
    Calls Tryd.prog 48 #[.pointer (some ⟨C, 0, none⟩), .slice (some ⟨g, 0, none⟩) l.length cap] w fun e w' => ∃ s, s ∈ l ∧ e = .returned (.int .i64 s) ∧ CurPost B C (K + 2) w w' := by
  have HC := Lib.hid h; clear h
  have HCELL := Lib.hid hcell; clear hcell
  go_enter Tryd.func48, Tryd.ntmps48
  go_wp2_with fail
  refine (cur_pick B C K l.length w hK (by omega) HC.out).mono ?_
  rintro e w1 ⟨x, hx, rfl, hc⟩
  have hxl : x < l.length := by omega
  clear hx
  have hk : w1.cell? ⟨g, x, none⟩ = some (.int .i64 l[x]) := (hc.2.1.1 g x hg hgC).trans (HCELL.out x hxl)
  have H1 := Lib.hid hc; clear hc
  obtain ⟨s, hs⟩ : ∃ s, s = l[x] := ⟨_, rfl⟩
  rw [← hs] at hk
  have HM := Lib.hid (show s ∈ l by rw [hs]; exact List.getElem_mem hxl)
  clear hs
  go_wp2
  go_ret
  exact ⟨s, HM.out, rfl, H1.out⟩
end Go.Proofs.YtbjfpceoamiaoaaDoor
