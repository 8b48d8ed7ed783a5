/- A row of entries as a list of items, which move within the row; orders and permutations of a part of it. -/
import Derived.Deep.DeepCutAuto
import Derived.IntWalk
import Derived.Test.YtonhkglilnplbaaGreatDoorSortD
namespace Go.Proofs.YtonhkglilnplbaaGreatDoor
open Go Go.RowKit
set_option maxHeartbeats 1000000
set_option maxRecDepth 100000
/-- an entry in its row: the value of its outline, the blocks that hold it, what it is -/
structure It where
  x : Value
  G : Blk
  e : P.Ent
def It.cs (t : It) : List Value := [t.x, .string (S t.e.2)]
structure RowI (v : World) (F : Blk) (g o : Nat) (its : List It) : Prop where
  own : F g
  lt : ∀ b, F b → b < v.heap.size
  cel : ∀ j (h : j < its.length), Cel v g (o + j * 2) (its[j]'h).cs
  el : ∀ t ∈ its, Ints v t.G t.x t.e.1
  sub : ∀ t ∈ its, ∀ b, t.G b → F b ∧ b ≠ g
  apart : its.Pairwise fun s t => ∀ b, s.G b → t.G b → False
theorem RowI.of {v : World} {F : Blk} {g o : Nat} {G : Nat → Blk} {C : Nat → List Value} {l : P.Dic} (h : RowC 2 entE v F g o G C l) : ∃ its : List It, its.map (·.e) = l ∧ RowI v F g o its := by
  have key : ∀ j, ∃ x, ∀ hj : j < l.length, C j = [x, .string (S (l[j]'hj).2)] ∧ Ints v (G j) x (l[j]'hj).1 := by
    intro j
    by_cases hj : j < l.length
    · obtain ⟨x, h1, h2⟩ := h.el j hj
      exact ⟨x, fun _ => ⟨h1, h2⟩⟩
    · exact ⟨.int .i64 0, fun h => absurd h hj⟩
  obtain ⟨f, hf⟩ := Classical.axiomOfChoice key
  refine ⟨List.ofFn fun j : Fin l.length => ⟨f j, G j, l[j]⟩, ?_, h.own, h.lt, fun j hj => ?_, fun t ht => ?_, fun t ht b hb => ?_, ?_⟩
  · refine List.ext_getElem (by simp) fun i h1 h2 => by simp
  · have hj' : j < l.length := by simpa using hj
    have hc := h.cel j hj'
    rw [(hf j hj').1] at hc
    simpa [It.cs] using hc
  · obtain ⟨j, rfl⟩ := List.mem_ofFn.1 ht
    exact (hf j j.2).2
  · obtain ⟨j, rfl⟩ := List.mem_ofFn.1 ht
    exact h.sub j j.2 b hb
  · rw [List.pairwise_iff_getElem]
    intro i j hi hj hij
    simp only [List.getElem_ofFn]
    exact h.apart i j hij (by simpa using hj)
theorem RowI.to {v : World} {F : Blk} {g o : Nat} {its : List It} (h : RowI v F g o its) : ∃ G C, RowC 2 entE v F g o G C (its.map (·.e)) := by
  refine ⟨fun j => if hj : j < its.length then (its[j]'hj).G else fun _ => False, fun j => if hj : j < its.length then (its[j]'hj).cs else [], h.own, h.lt, fun j hj => ?_, fun j hj => ?_, fun j hj => ?_, fun j hj => ?_, fun i j hij hj => ?_⟩
  all_goals have hj' : j < its.length := by simpa using hj
  · simp only [dif_pos hj']; exact h.cel j hj'
  · simp only [dif_pos hj']; rfl
  · simp only [dif_pos hj', List.getElem_map]
    exact ⟨_, rfl, h.el _ (List.getElem_mem hj')⟩
  · simp only [dif_pos hj']; exact h.sub _ (List.getElem_mem hj')
  · simp only [dif_pos hj', dif_pos (show i < its.length by omega)]
    exact (List.pairwise_iff_getElem.1 h.apart) i j (by omega) hj' hij
/-- the cells of the row are written anew: the items stand in another order -/
theorem RowI.turn {v v' : World} {F : Blk} {g o : Nat} {its its' : List It} (h : RowI v F g o its) (hc : Chg (fun b => b = g) v v') (hp : its'.Perm its) (hcel : ∀ j (h : j < its'.length), Cel v' g (o + j * 2) (its'[j]'h).cs) : RowI v' F g o its' := by
  refine ⟨h.own, fun b hb => Nat.lt_of_lt_of_le (h.lt b hb) hc.size, hcel, fun t ht => ?_, fun t ht => h.sub t (hp.mem_iff.1 ht), ?_⟩
  · have ht' := hp.mem_iff.1 ht
    exact (h.el t ht').stand intE_ok hc (fun b hb => (h.sub t ht' b hb).2)
  · exact (hp.pairwise_iff (fun h b h1 h2 => h b h2 h1)).2 h.apart
theorem RowI.below {v v' : World} {F : Blk} {g o : Nat} {its : List It} (h : RowI v F g o its) (hb : Below v.heap.size v v') : RowI v' F g o its :=
  ⟨h.own, fun b hb' => Nat.lt_of_lt_of_le (h.lt b hb') hb.size, fun j hj => (h.cel j hj).keep (hb.block _ (h.lt _ h.own)), fun t ht => (h.el t ht).below intE_ok hb, h.sub, h.apart⟩
def swapI (its : List It) (i j : Nat) (hi : i < its.length) (hj : j < its.length) : List It := (its.set i its[j]).set j its[i]
/-- the world behind an exchange -/
def swapW (v : World) (g o i j : Nat) (s t : It) : World :=
  (((v.setCell ⟨g, o + i * 2, none⟩ t.x).setCell ⟨g, o + i * 2 + 1, none⟩ (.string (S t.e.2))).setCell ⟨g, o + j * 2, none⟩ s.x).setCell ⟨g, o + j * 2 + 1, none⟩ (.string (S s.e.2))
theorem Cel.two {v : World} {g o i : Nat} {s t : It} (h : Cel v g (o + i * 2) s.cs) : Cel ((v.setCell ⟨g, o + i * 2, none⟩ t.x).setCell ⟨g, o + i * 2 + 1, none⟩ (.string (S t.e.2))) g (o + i * 2) t.cs := by
  have e := (h.set_at 0 (by simp [It.cs]) t.x).set_at 1 (by simp [It.cs]) (.string (S t.e.2))
  simpa [It.cs] using e
theorem Cel.two_other {v : World} {g o i k : Nat} {s t : It} (h : Cel v g (o + k * 2) s.cs) (hik : k ≠ i) : Cel ((v.setCell ⟨g, o + i * 2, none⟩ t.x).setCell ⟨g, o + i * 2 + 1, none⟩ (.string (S t.e.2))) g (o + k * 2) s.cs := by
  have o0 := cel_out (wd := 2) (o := o) hik 0 (by omega)
  have o1 := cel_out (wd := 2) (o := o) hik 1 (by omega)
  have hl : s.cs.length = 2 := rfl
  rw [Nat.add_zero] at o0
  exact (h.set_other (by rw [hl]; exact o0) _).set_other (by rw [hl]; exact o1) _
theorem RowI.swap {v : World} {F : Blk} {g o : Nat} {its : List It} (h : RowI v F g o its) (i j : Nat) (hi : i < its.length) (hj : j < its.length) (hij : i ≠ j) : RowI (swapW v g o i j its[i] its[j]) F g o (swapI its i j hi hj) ∧ Chg (fun b => b = g) v (swapW v g o i j its[i] its[j]) := by
  have hc : Chg (fun b => b = g) v (swapW v g o i j its[i] its[j]) :=
    ((((Chg.refl (fun b => b = g) v).setCell (p := ⟨g, _, none⟩) rfl _).setCell (p := ⟨g, _, none⟩) rfl _).setCell (p := ⟨g, _, none⟩) rfl _).setCell (p := ⟨g, _, none⟩) rfl _
  refine ⟨h.turn hc (List.set_set_perm hi hj) fun k hk => ?_, hc⟩
  have hk' : k < its.length := by simpa [swapI] using hk
  have hck := h.cel k hk'
  by_cases h1 : k = j
  · subst h1
    have e : (swapI its i k hi hj)[k]'hk = its[i] := by simp [swapI]
    rw [e]
    exact Cel.two (s := its[k]) (hck.two_other (t := its[k]) (Ne.symm hij))
  · by_cases h2 : k = i
    · subst h2
      have e : (swapI its k j hi hj)[k]'hk = its[j] := by simp [swapI, List.getElem_set_ne (Ne.symm h1)]
      rw [e]
      exact (Cel.two (t := its[j]) hck).two_other h1
    · have e : (swapI its i j hi hj)[k]'hk = its[k] := by simp [swapI, List.getElem_set_ne (Ne.symm h1), List.getElem_set_ne (Ne.symm h2)]
      rw [e]
      exact (hck.two_other h2).two_other h1
end Go.Proofs.YtonhkglilnplbaaGreatDoor
