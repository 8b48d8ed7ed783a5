/- An argument of a law: a stack of layers. -/
import Derived.Test.YtonhkglilnplbaaGreatDoorWitD
import Derived.Test.YtonhkglilnplbaaGreatDoorLayA
namespace Go.Proofs.YtonhkglilnplbaaGreatDoor
open Go Go.RowKit Go.ChangeShapes Go.WideShapes Go.ChangeAt Go.Deep
set_option maxRecDepth 100000
section
variable {H : Type} {enc : TypeId × Value → H} {W : World} {held : Bool}
theorem layA_of {fuel : Nat} {c : Value} {x : DataW H × List MemPlace} (h : DataW.trod enc Tryz.prog W 0 (fun _ => true) held fuel 61 [c] = some x) : ∃ l, LayA W c l ∧ ∀ e ∈ l, ∀ y ∈ e.1, y.2.length ≤ 9223372036854775807 := by
  rcases open_slice Tryz.underlying61 h with ⟨hc, _⟩ | ⟨a, len, cap, m, n, D, Pl, hc, _, hl, hm, hmm, _, hi⟩
  · have hc' : c = .slice none 0 0 := by simpa using hc
    subst hc'
    exact ⟨[], ⟨none, 0, rfl, by simp, fun _ => rfl, .inl rfl⟩, fun _ h => by cases h⟩
  · have hc' : c = .slice (some a) len cap := by simpa using hc
    subst hc'
    have hmc : m = cap := by simpa using hmm
    subst hmc
    unfold maxLen at hm
    have each : ∀ i, i < len → ∃ e : P.Lay, ∃ x, W.cell? (a.add (i * 2)) = some x ∧ W.cell? (a.add (i * 2 + 1)) = some (.bool e.2) ∧ EntA W x e.1 ∧ ∀ y ∈ e.1, y.2.length ≤ 9223372036854775807 := by
      intro i hil
      obtain ⟨cs, hcs, ht⟩ := hi i (by omega)
      rw [show Tryz.prog.cellsOf 180 = 2 by kernel_rfl] at hcs
      obtain ⟨_, hcl, hat⟩ := World.cells?_some hcs
      obtain ⟨xs, n', _, _, _, hxl, hf⟩ := DataW.trod_struct Tryz.underlying180 ht
      match cs, hcl with
      | [c0, c1], _ =>
        have a0 := hat 0 (by omega)
        have a1 := hat 1 (by omega)
        rw [add_add] at a0 a1
        have f0 := hf 0 _ rfl
        have f1 := hf 1 _ rfl
        simp only [List.getElem_toArray, List.getElem_cons_zero, List.getElem_cons_succ] at f0 f1
        rw [show Tryz.prog.cellsOf 24 = 1 by kernel_rfl] at f0
        rw [show Tryz.prog.cellsOf 4 = 1 by kernel_rfl] at f1
        have hx2 : xs.length = 2 := hxl
        rw [List.getElem?_eq_getElem (by omega)] at f0 f1
        obtain ⟨ys, n2, _, _, _, hyl, hg⟩ := DataW.trod_struct Tryz.underlying24 (show DataW.trod enc Tryz.prog W 0 (fun _ => true) held n' 24 [c0] = some _ from f0)
        have g0 := hg 0 _ rfl
        simp only [List.getElem_toArray, List.getElem_cons_zero] at g0
        rw [show Tryz.prog.cellsOf 22 = 1 by kernel_rfl] at g0
        have hy1 : ys.length = 1 := hyl
        rw [List.getElem?_eq_getElem (by omega)] at g0
        obtain ⟨l, hl', hw⟩ := entA_of (show DataW.trod enc Tryz.prog W 0 (fun _ => true) held n2 22 [c0] = some _ from g0)
        obtain ⟨b, hs, _⟩ := DataW.trod_bool Tryz.underlying4 (show DataW.trod enc Tryz.prog W 0 (fun _ => true) held n' 4 [c1] = some _ from f1)
        have hs' : c1 = .bool b := by simpa using hs
        subst hs'
        exact ⟨(l, b), c0, by simpa using a0, by simpa using a1, hl', hw⟩
    obtain ⟨f, hf⟩ := choose_lt each
    have htl : ((List.range len).map f).length = len := by simp
    refine ⟨(List.range len).map f, ⟨some a, m, by rw [htl], by omega, (fun h => by cases h), ?_⟩, fun e he => ?_⟩
    · rcases Nat.eq_zero_or_pos len with h0 | h0
      · left; rw [h0]; rfl
      · right
        obtain ⟨x, c0, _⟩ := hf 0 h0
        rw [Nat.zero_mul, show a.add 0 = a from rfl] at c0
        obtain ⟨g, o, rfl, hlt⟩ := spot_none c0
        refine ⟨g, o, rfl, hlt, fun j hj => ?_⟩
        rw [htl] at hj
        obtain ⟨x, d0, d1, d2, _⟩ := hf j hj
        rw [add_none] at d0 d1
        simp only [List.getElem_map, List.getElem_range]
        exact ⟨x, d0, d1, d2⟩
    · obtain ⟨i, hi', rfl⟩ := List.mem_map.1 he
      obtain ⟨_, _, _, _, hw⟩ := hf i (List.mem_range.1 hi')
      exact hw
theorem stack_of {base : Nat} {v : Value} {d : DataW H} {ps : List MemPlace} (hval : Value.okWide Tryz.prog W .any base 63 v) (hd : DataW.Trod enc Tryz.prog W 0 (fun _ => true) held 63 v d ps) :
    ∃ dv l, v = .agg #[dv] ∧ LayA W dv l ∧ ∀ e ∈ l, ∀ y ∈ e.1, y.2.length ≤ 9223372036854775807 := by
  obtain ⟨cs, rfl, hsz⟩ := okWide_struct Tryz.underlying63 hval
  rw [show Tryz.prog.cellsOf 63 = 1 by kernel_rfl] at hsz
  obtain ⟨cl⟩ := cs
  match cl, hsz with
  | [c0], _ =>
    obtain ⟨fuel, hf⟩ := hd
    obtain ⟨xs, n', _, _, _, hxl, hg⟩ := DataW.trod_struct Tryz.underlying63 hf
    have f0 := hg 0 _ rfl
    simp only [List.getElem_toArray, List.getElem_cons_zero] at f0
    rw [show Tryz.prog.cellsOf 61 = 1 by kernel_rfl] at f0
    have hx1 : xs.length = 1 := hxl
    rw [List.getElem?_eq_getElem (by omega)] at f0
    obtain ⟨l, hl, hw⟩ := layA_of (show DataW.trod enc Tryz.prog W 0 (fun _ => true) held n' 61 [c0] = some _ from f0)
    exact ⟨c0, l, rfl, hl, hw⟩
end
end Go.Proofs.YtonhkglilnplbaaGreatDoor
