/- An argument of a law: a dictionary of the program's. -/
import Derived.Test.YtpkahblajgaemaaGreatDoorVEd
namespace Go.Proofs.YtpkahblajgaemaaGreatDoor
open Go Go.RowKit Go.ChangeShapes Go.WideShapes Go.ChangeAt Go.Deep
set_option maxRecDepth 100000
section
variable {H : Type} {enc : TypeId × Value → H} {W : World} {held : Bool}
theorem ientA_of {fuel : Nat} {c : Value} {x : DataW H × List MemPlace} (h : DataW.trod enc Tryz.prog W 0 (fun _ => true) held fuel 24 [c] = some x) : ∃ l, EntA W c l ∧ ∀ e ∈ l, e.2.length ≤ 9223372036854775807 := by
  rcases open_slice Tryz.underlying24 h with ⟨hc, _⟩ | ⟨a, len, cap, m, n, D, Pl, hc, _, hl, hm, hmm, _, hi⟩
  · have hc' : c = .slice none 0 0 := by simpa using hc
    subst hc'
    exact ⟨[], ⟨none, 0, rfl, by simp, fun _ => rfl, .inl rfl⟩, fun _ h => by cases h⟩
  · have hc' : c = .slice (some a) len cap := by simpa using hc
    subst hc'
    have hmc : m = cap := by simpa using hmm
    subst hmc
    unfold maxLen at hm
    have each : ∀ i, i < len → ∃ e : P.Ent, ∃ x, W.cell? (a.add (i * 2)) = some x ∧ W.cell? (a.add (i * 2 + 1)) = some (.string (S e.2)) ∧ IntA W x e.1 ∧ e.2.length ≤ 9223372036854775807 := by
      intro i hil
      obtain ⟨cs, hcs, ht⟩ := hi i (by omega)
      rw [show Tryz.prog.cellsOf 47 = 2 by kernel_rfl] at hcs
      obtain ⟨_, hcl, hat⟩ := World.cells?_some hcs
      obtain ⟨xs, n', _, _, _, hxl, hf⟩ := DataW.trod_struct Tryz.underlying47 ht
      match cs, hcl with
      | [c0, c1], _ =>
        have a0 := hat 0 (by omega)
        have a1 := hat 1 (by omega)
        rw [add_add] at a0 a1
        have f0 := hf 0 _ rfl
        have f1 := hf 1 _ rfl
        simp only [List.getElem_toArray, List.getElem_cons_zero, List.getElem_cons_succ] at f0 f1
        rw [show Tryz.prog.cellsOf 27 = 1 by kernel_rfl] at f0
        rw [show Tryz.prog.cellsOf 9 = 1 by kernel_rfl] at f1
        have hx2 : xs.length = 2 := hxl
        rw [List.getElem?_eq_getElem (by omega)] at f0 f1
        obtain ⟨l, hl'⟩ := intA_of (show DataW.trod enc Tryz.prog W 0 (fun _ => true) held n' 27 [c0] = some _ from f0)
        obtain ⟨s, hs, _, hw⟩ := DataW.trod_string Tryz.underlying9 (show DataW.trod enc Tryz.prog W 0 (fun _ => true) held n' 9 [c1] = some _ from f1)
        obtain ⟨t, rfl⟩ := exists_S s
        have hs' : c1 = .string (S t) := by simpa using hs
        subst hs'
        rw [S_size] at hw
        unfold maxLen at hw
        exact ⟨(l, t), c0, by simpa using a0, by simpa using a1, hl', hw⟩
    obtain ⟨f, hf⟩ := choose_lt each
    have htl : ((List.range len).map f).length = len := by simp
    refine ⟨(List.range len).map f, ⟨some a, m, by rw [htl], by omega, (fun h => by cases h), ?_⟩, fun e he => ?_⟩
    · rcases Nat.eq_zero_or_pos len with h0 | h0
      · left; rw [h0]; rfl
      · right
        obtain ⟨x, c0, _⟩ := hf 0 h0
        rw [Nat.zero_mul, show a.add 0 = a from rfl] at c0
        obtain ⟨g, o, rfl, hlt⟩ := spot_none c0
        refine ⟨g, o, rfl, hlt, fun j hj => ?_⟩
        rw [htl] at hj
        obtain ⟨x, d0, d1, d2, _⟩ := hf j hj
        rw [add_none] at d0 d1
        simp only [List.getElem_map, List.getElem_range]
        exact ⟨x, d0, d1, d2⟩
    · obtain ⟨i, hi', rfl⟩ := List.mem_map.1 he
      obtain ⟨_, _, _, _, hw⟩ := hf i (List.mem_range.1 hi')
      exact hw
theorem idict_of {base : Nat} {v : Value} {d : DataW H} {ps : List MemPlace} (hval : Value.okWide Tryz.prog W .any base 26 v) (hd : DataW.Trod enc Tryz.prog W 0 (fun _ => true) held 26 v d ps) :
    ∃ dv l, v = .agg #[dv] ∧ EntA W dv l ∧ ∀ e ∈ l, e.2.length ≤ 9223372036854775807 := by
  obtain ⟨cs, rfl, hsz⟩ := okWide_struct Tryz.underlying26 hval
  rw [show Tryz.prog.cellsOf 26 = 1 by kernel_rfl] at hsz
  obtain ⟨cl⟩ := cs
  match cl, hsz with
  | [c0], _ =>
    obtain ⟨fuel, hf⟩ := hd
    obtain ⟨xs, n', _, _, _, hxl, hg⟩ := DataW.trod_struct Tryz.underlying26 hf
    have f0 := hg 0 _ rfl
    simp only [List.getElem_toArray, List.getElem_cons_zero] at f0
    rw [show Tryz.prog.cellsOf 24 = 1 by kernel_rfl] at f0
    have hx1 : xs.length = 1 := hxl
    rw [List.getElem?_eq_getElem (by omega)] at f0
    obtain ⟨l, hl, hw⟩ := ientA_of (show DataW.trod enc Tryz.prog W 0 (fun _ => true) held n' 24 [c0] = some _ from f0)
    exact ⟨c0, l, rfl, hl, hw⟩
end
end Go.Proofs.YtpkahblajgaemaaGreatDoor
