/- Rows of folds, out of a row's own reading of its arguments. -/
import Derived.Test.YtngbkdlicknmhaaGreatDoorWitD
import Derived.Test.YtngbkdlicknmhaaGreatDoorFldD
namespace Go.Proofs.YtngbkdlicknmhaaGreatDoor
section
open Go Go.RowKit Go.ChangeShapes Go.WideShapes Go.ChangeAt Go.Deep
set_option maxRecDepth 100000
variable {H : Type} {enc : TypeId × Value → H} {W : World} {held : Bool}
theorem foldA_of {fuel : Nat} {c : Value} {x : DataW H × List MemPlace} (h : DataW.trod enc Tryz.prog W 0 (fun _ => true) held fuel 89 [c] = some x) : ∃ l, FldA W c l ∧ ∀ f ∈ l, f.2.length ≤ 9223372036854775807 := by
  rcases open_slice Tryz.underlying89 h with ⟨hc, _⟩ | ⟨a, len, cap, m, n, D, Pl, hc, _, hl, hm, hmm, _, hi⟩
  · have hc' : c = .slice none 0 0 := by simpa using hc
    subst hc'
    exact ⟨[], ⟨none, 0, rfl, by simp, fun _ => rfl, .inl rfl⟩, fun _ h => by cases h⟩
  · have hc' : c = .slice (some a) len cap := by simpa using hc
    subst hc'
    have hmc : m = cap := by simpa using hmm
    subst hmc
    unfold maxLen at hm
    have each : ∀ i, i < len → ∃ e : P.Fold, W.cell? (a.add (i * 2)) = some (.int .i64 e.1) ∧ W.cell? (a.add (i * 2 + 1)) = some (.string (S e.2)) ∧ e.2.length ≤ 9223372036854775807 := by
      intro i hil
      obtain ⟨cs, hcs, ht⟩ := hi i (by omega)
      rw [show Tryz.prog.cellsOf 172 = 2 by kernel_rfl] at hcs
      obtain ⟨_, hcl, hat⟩ := World.cells?_some hcs
      obtain ⟨xs, n', _, _, _, hxl, hf⟩ := DataW.trod_struct Tryz.underlying172 ht
      match cs, hcl with
      | [c0, c1], _ =>
        have a0 := hat 0 (by omega)
        have a1 := hat 1 (by omega)
        rw [add_add] at a0 a1
        have f0 := hf 0 _ rfl
        have f1 := hf 1 _ rfl
        simp only [List.getElem_toArray, List.getElem_cons_zero, List.getElem_cons_succ] at f0 f1
        rw [show Tryz.prog.cellsOf 3 = 1 by kernel_rfl] at f0
        rw [show Tryz.prog.cellsOf 9 = 1 by kernel_rfl] at f1
        have hx2 : xs.length = 2 := hxl
        rw [List.getElem?_eq_getElem (by omega)] at f0 f1
        obtain ⟨z, hz, _, _⟩ := DataW.trod_int Tryz.underlying3 (show DataW.trod enc Tryz.prog W 0 (fun _ => true) held n' 3 [c0] = some _ from f0)
        have hz' : c0 = .int .i64 z := by simpa using hz
        subst hz'
        obtain ⟨s, hs, _, hw⟩ := DataW.trod_string Tryz.underlying9 (show DataW.trod enc Tryz.prog W 0 (fun _ => true) held n' 9 [c1] = some _ from f1)
        obtain ⟨t, rfl⟩ := exists_S s
        have hs' : c1 = .string (S t) := by simpa using hs
        subst hs'
        rw [S_size] at hw
        unfold maxLen at hw
        exact ⟨(z, t), by simpa using a0, by simpa using a1, hw⟩
    obtain ⟨f, hf⟩ := choose_lt each
    have htl : ((List.range len).map f).length = len := by simp
    refine ⟨(List.range len).map f, ⟨some a, m, by rw [htl], by omega, (fun h => by cases h), ?_⟩, fun e he => ?_⟩
    · rcases Nat.eq_zero_or_pos len with h0 | h0
      · left; rw [h0]; rfl
      · right
        obtain ⟨c0, _⟩ := hf 0 h0
        rw [Nat.zero_mul, show a.add 0 = a from rfl] at c0
        obtain ⟨g, o, rfl, hlt⟩ := spot_none c0
        refine ⟨g, o, rfl, hlt, fun j hj => ?_⟩
        rw [htl] at hj
        obtain ⟨d0, d1, _⟩ := hf j hj
        rw [add_none] at d0 d1
        simp only [List.getElem_map, List.getElem_range]
        exact ⟨d0, d1⟩
    · obtain ⟨i, hi', rfl⟩ := List.mem_map.1 he
      obtain ⟨_, _, hw⟩ := hf i (List.mem_range.1 hi')
      exact hw
theorem folds_of {base : Nat} {v : Value} {d : DataW H} {ps : List MemPlace} (hval : Value.okWide Tryz.prog W .any base 89 v) (hd : DataW.Trod enc Tryz.prog W 0 (fun _ => true) held 89 v d ps) : ∃ l, FldA W v l ∧ ∀ f ∈ l, f.2.length ≤ 9223372036854775807 := by
  obtain ⟨a0, len, cap, rfl⟩ := okWide_slice Tryz.underlying89 hval
  obtain ⟨fuel, hf⟩ := hd
  exact foldA_of (show DataW.trod enc Tryz.prog W 0 (fun _ => true) held fuel 89 [.slice a0 len cap] = some _ from hf)
end
end Go.Proofs.YtngbkdlicknmhaaGreatDoor
