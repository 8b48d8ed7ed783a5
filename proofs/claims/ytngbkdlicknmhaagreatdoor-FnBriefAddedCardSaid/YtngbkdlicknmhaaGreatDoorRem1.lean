/- A row of layers, read as a list of values: its cells; the program's copy of it; an element struck out of it (the library's Delete). -/
import Derived.Deep.DeepCutAuto
import Derived.Deep.RegionLaw
import Derived.Deep.RegionHeld
import Derived.IntWalk
import Derived.Lib.SliceRun
import Derived.Test.YtngbkdlicknmhaaGreatDoorLayC
import Derived.Test.YtngbkdlicknmhaaGreatDoorCurE6
import Derived.Test.YtngbkdlicknmhaaGreatDoorDelA
namespace Go.Proofs.YtngbkdlicknmhaaGreatDoor
open Go Go.RowKit
set_option maxHeartbeats 4000000
set_option maxRecDepth 100000
/-- cells that are written over a part of a row of cells -/
theorem Cel.lay {v : World} {g o : Nat} {cs : List Value} (h : Cel v g o cs) (p : Nat) (news : List Value) (hp : p + news.length ≤ cs.length) : Cel (v.setCells g (o + p) news) g o (cs.take p ++ news ++ cs.drop (p + news.length)) := by
  have hlen : (cs.take p ++ news ++ cs.drop (p + news.length)).length = cs.length := by
    rw [List.length_append, List.length_append, List.length_take, List.length_drop]; omega
  have hin : ∀ q, q < news.length → (v.cell? ⟨g, o + p + q, none⟩).isSome = true := by
    intro q hq
    have := (h (p + q) (by omega)).1
    rw [show o + (p + q) = o + p + q by omega] at this
    rw [this]; rfl
  intro i hi
  rw [hlen] at hi
  have hf := (h i hi).2
  refine ⟨?_, by rw [World.frozen?_setCells]; exact hf⟩
  by_cases h1 : i < p
  · rw [World.cell?_setCells_out g _ _ _ _ (fun _ _ => .inl (by show o + i < o + p; omega)), (h i hi).1]
    congr 1
    rw [List.getElem_append_left (by rw [List.length_append, List.length_take]; omega), List.getElem_append_left (by rw [List.length_take]; omega), List.getElem_take]
  · by_cases h2 : i < p + news.length
    · obtain ⟨q, rfl⟩ : ∃ q, i = p + q := ⟨i - p, by omega⟩
      have hq : q < news.length := by omega
      rw [show o + (p + q) = o + p + q by omega, World.cell?_setCells_in g _ _ _ hin q hq]
      congr 1
      rw [List.getElem_append_left (by rw [List.length_append, List.length_take]; omega), List.getElem_append_right (by rw [List.length_take]; omega)]
      congr 1
      rw [List.length_take]; omega
    · rw [World.cell?_setCells_out g _ _ _ _ (fun _ _ => .inr (by show o + p + news.length ≤ o + i; omega)), (h i hi).1]
      congr 1
      rw [List.getElem_append_right (by rw [List.length_append, List.length_take]; omega), List.getElem_drop]
      congr 1
      rw [List.length_append, List.length_take]; omega
theorem Cel.pre {v : World} {g o : Nat} {a b : List Value} (h : Cel v g o (a ++ b)) : Cel v g o a := fun i hi => by
  have := h i (by rw [List.length_append]; omega)
  rwa [List.getElem_append_left hi] at this
theorem Cel.get {v : World} {g o : Nat} {cs : List Value} (h : Cel v g o cs) {i : Nat} {x : Value} (hx : cs[i]? = some x) : v.cell? ⟨g, o + i, none⟩ = some x := by
  obtain ⟨hi, e⟩ := List.getElem?_eq_some_iff.1 hx
  rw [(h i hi).1, e]
/-- what is read in a row of layers -/
theorem layR_of_cel {v : World} {g o cap : Nat} {its : List LIt} (h : Cel v g o (lcells its)) (he : ∀ t ∈ its, EntR v t.1 t.2.1) (hl : its.length ≤ 2 ^ 20) (hcp : its.length ≤ cap) (hg : g < v.heap.size) : LayR v (.slice (some ⟨g, o, none⟩) its.length cap) (its.map (·.2)) := by
  refine ⟨_, cap, by rw [List.length_map], by rw [List.length_map]; omega, (fun h => by cases h), .inr ⟨g, o, rfl, hg, fun j hj => ?_⟩⟩
  rw [List.length_map] at hj
  obtain ⟨a, b⟩ := lcells_get its j hj
  refine ⟨(its[j]'hj).1, ?_, ?_, ?_⟩
  · have := h.get a; rwa [Nat.mul_comm] at this
  · have := h.get b
    rw [show o + (2 * j + 1) = o + j * 2 + 1 by omega] at this
    rw [List.getElem_map]; exact this
  · rw [List.getElem_map]; exact he _ (List.getElem_mem hj)
theorem run_clear_two {P : Program} (w : World) (t e ty : TypeId) (z x y : Value) (ht : P.underlying t = some (.slice e)) (hv : ∀ w, (zeroValue e).run P w = .ok z w) (hz : z.cells = #[x, y]) (h1 : x.oneCell' = true) (h2 : y.oneCell' = true) (b o c : Nat)
    (hc : ∀ j, j < 2 → (w.cell? ⟨b, o + j, none⟩).isSome = true) (hf : ∀ j, j < 2 → w.frozen? ⟨b, o + j, none⟩ = false) :
    (Builtin.clear_ #[t] ty #[.slice (some ⟨b, o, none⟩) 1 c]).run P w = .ok (.tuple #[]) (w.setCells b o [x, y]) := by
  have hzc : (Builtin.zeroCells z.cells 1).toList = [x, y] := by
    rw [hz]
    simp [Builtin.zeroCells]
    rfl
  have hst := run_storeCells_cells (P := P) b o [x, y] 0 w (by simpa using hc) (by simpa using hf) (by
    intro v hv'
    simp only [List.mem_cons, List.not_mem_nil, or_false] at hv'
    rcases hv' with rfl | rfl
    · exact h1
    · exact h2)
  simp only [Nat.add_zero] at hst
  simp [Builtin.clear_, run_underlying ht, hv, hzc, hst]
/-- the program's copy of a row of layers: a new row of the same layers -/
theorem copyLay (u : Value) (l : P.Lays) (w : World) (hu : LayR w u l) (hl : l.length ≤ 2 ^ 20) (hl0 : 0 < l.length) :
    Calls Tryz.prog 137 #[u] w fun e w' => ∃ (g cap : Nat) (its : List LIt), e = .returned (.slice (some ⟨g, 0, none⟩) l.length cap) ∧ l.length ≤ cap ∧ cap ≤ maxLen ∧ w.heap.size ≤ g ∧ g < w'.heap.size ∧ its.map (·.2) = l ∧ (∀ t ∈ its, EntR w t.1 t.2.1) ∧ Cel w' g 0 (lcells its) ∧ (∃ k, w'.shape? g = some (85, k) ∧ k ≠ 0) ∧ Below w.heap.size w w' := by
  obtain ⟨i0, hi, hz0, hz1, hz2⟩ := info_parts info_lay
  have hb0 := (Below.refl w.heap.size w).alloc (Nat.le_refl _) (.cells #[] 85)
  obtain ⟨C, hsrc, hC⟩ := hu.src
  have HSRC := Lib.hid (hsrc.below hb0); have HCC := Lib.hid hC; clear hsrc hC
  have HB := Lib.hid hb0; clear hb0
  have HOWN := Lib.hid (World.ownsRow_lit (base := w.heap.size) (e := 85) (size := 2) w #[] 0 (Nat.le_refl _) (Nat.zero_le _) (by simp))
  obtain ⟨ad, cap, rfl, _, _⟩ := hu
  go_enter Tryz.func137, Tryz.ntmps137
  go_wp2_with (at_builtin; refine wpList_append_src rfl _ _ 68 rfl w.heap.size 85 i0 (.agg #[.slice none 0 0, .bool false]) 2 32 Tryz.underlying68 hi hz0 hz1 hz2 rfl (by decide) _ 0 [] rfl HOWN.out _ l.length (flat C l.length) rfl HSRC.out ?_ ?_ (by simp) ?_)
  · unfold maxLen; omega
  · omega
  intro v' w' hown hgr _
  have HOW := Lib.hid hown
  have HBB := Lib.hid (HB.out.grown hgr (by simp) (fun k hk => by simp [Value.ownBlock] at hk; omega))
  clear hown hgr
  obtain ⟨g, cap', cur, rfl, hg, hh, hnc, hcm, hcs, _⟩ := HOW.out.2.resolve_left (by omega)
  have hlt := (World.ownsRow.lt HOW.out g rfl).2
  have HNC := Lib.hid hnc; have HCM := Lib.hid hcm; have HH := Lib.hid hh; have HCS := Lib.hid hcs; have HG := Lib.hid hg
  clear hnc hh hcs hcm hg
  go_wp2
  go_ret
  have hx : ∀ j, ∃ x, ∀ hj : j < l.length, C j = [x, .bool (l[j]'hj).2] ∧ EntR w x (l[j]'hj).1 := by
    intro j
    by_cases hj : j < l.length
    · obtain ⟨x, h1, h2⟩ := HCC.out j hj
      exact ⟨x, fun _ => ⟨h1, h2⟩⟩
    · exact ⟨.int .i64 0, fun h => absurd h hj⟩
  obtain ⟨f, hf⟩ := Classical.axiomOfChoice hx
  have hw : ∀ j, j < l.length → (C j).length = 2 := fun j hj => by rw [(hf j hj).1]; rfl
  have hlc : flat C l.length = lcells (List.ofFn fun j : Fin l.length => (f j, l[j])) := by
    apply List.ext_getElem?
    intro i
    by_cases hil : i < l.length * 2
    · have e := flat_get hw (i / 2) (i % 2) (by omega) (by rw [hw _ (by omega)]; omega)
      rw [show i / 2 * 2 + i % 2 = i by omega] at e
      rw [e]
      have hj : i / 2 < (List.ofFn fun j : Fin l.length => (f j, l[j])).length := by simp; omega
      obtain ⟨a, b⟩ := lcells_get (List.ofFn fun j : Fin l.length => (f j, l[j])) (i / 2) hj
      simp only [List.getElem_ofFn] at a b
      have hc := (hf (i / 2) (by omega)).1
      rcases Nat.mod_two_eq_zero_or_one i with hm | hm
      · rw [show 2 * (i / 2) = i by omega] at a
        rw [a]
        simp only [hc, hm, List.getElem_cons_zero]
      · rw [show 2 * (i / 2) + 1 = i by omega] at b
        rw [b]
        simp only [hc, hm, List.getElem_cons_zero, List.getElem_cons_succ]
        rfl
    · rw [List.getElem?_eq_none (by rw [flat_len hw]; omega), List.getElem?_eq_none (by rw [lcells_length]; simp; omega)]
  refine ⟨g, cap', List.ofFn fun j : Fin l.length => (f j, l[j]), rfl, HNC.out, HCM.out, HG.out, hlt, ?_, ?_, ?_, ?_, HBB.out⟩
  · refine List.ext_getElem (by simp) fun i h1 h2 => by simp
  · intro t ht
    obtain ⟨j, rfl⟩ := List.mem_ofFn.1 ht
    exact (hf j j.2).2
  · rw [← hlc]
    intro i hi'
    have hi2 : i < l.length * 2 := by rw [flat_len hw] at hi'; exact hi'
    have c := World.ownsRow.cellAt HOW.out i hi2
    rw [Nat.zero_add]
    refine ⟨c.trans ?_, World.ownsRow.frozenAt HOW.out _⟩
    rw [List.getElem?_eq_getElem hi']
  · refine ⟨cur.size, ?_, ?_⟩
    · unfold World.shape?; rw [HH.out]
    · have h1 := HCS.out
      have h2 := HNC.out
      intro e
      rw [e] at h1
      omega
end Go.Proofs.YtngbkdlicknmhaaGreatDoor
