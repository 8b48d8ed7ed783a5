/- A row of layers of the call's own, as a list of items: parts of it, and a row that is made of such parts. -/
import Derived.Test.YtngbkdlicknmhaaGreatDoorRem1
namespace Go.Proofs.YtngbkdlicknmhaaGreatDoor
open Go Go.RowKit
set_option maxHeartbeats 1000000
/-- a layer in its row: the value of its entries, what it is, the blocks that its entries lie in -/
abbrev OIt := LIt × Blk
abbrev ocells (its : List OIt) : List Value := lcells (its.map (·.1))
abbrev olays (its : List OIt) : P.Lays := its.map (·.1.2)
structure OOk (v : World) (F : Blk) (its : List OIt) : Prop where
  ent : ∀ t ∈ its, Ents v t.2 t.1.1 t.1.2.1
  sub : ∀ t ∈ its, ∀ b, t.2 b → F b
  apart : its.Pairwise fun a b => ∀ x, a.2 x → b.2 x → False
theorem OOk.stand {v v' : World} {F X : Blk} {its : List OIt} (h : OOk v F its) (hc : Chg X v v') (hX : ∀ b, F b → ¬ X b) : OOk v' F its :=
  ⟨fun t ht => (h.ent t ht).stand entE_ok hc fun b hb => hX b (h.sub t ht b hb), h.sub, h.apart⟩
theorem OOk.below {v v' : World} {F : Blk} {its : List OIt} (h : OOk v F its) (hb : Below v.heap.size v v') : OOk v' F its :=
  h.stand (Below.chg hb fun _ => False) fun _ _ h => h
theorem OOk.perm {v : World} {F : Blk} {a b : List OIt} (h : OOk v F a) (hp : b.Perm a) : OOk v F b :=
  ⟨fun t ht => h.ent t (hp.mem_iff.1 ht), fun t ht => h.sub t (hp.mem_iff.1 ht), (hp.pairwise_iff (fun h x h1 h2 => h x h2 h1)).2 h.apart⟩
theorem flat_lcells {C : Nat → List Value} {l : P.Lays} {f : Nat → Value} (h : ∀ j (hj : j < l.length), C j = [f j, .bool (l[j]'hj).2]) : flat C l.length = lcells (List.ofFn fun j : Fin l.length => (f j, l[j])) := by
  have hw : ∀ j, j < l.length → (C j).length = 2 := fun j hj => by rw [h j hj]; rfl
  apply List.ext_getElem?
  intro i
  by_cases hil : i < l.length * 2
  · have e := flat_get hw (i / 2) (i % 2) (by omega) (by rw [hw _ (by omega)]; omega)
    rw [show i / 2 * 2 + i % 2 = i by omega] at e
    rw [e]
    have hj : i / 2 < (List.ofFn fun j : Fin l.length => (f j, l[j])).length := by simp; omega
    obtain ⟨a, b⟩ := lcells_get (List.ofFn fun j : Fin l.length => (f j, l[j])) (i / 2) hj
    simp only [List.getElem_ofFn] at a b
    have hc := h (i / 2) (by omega)
    rcases Nat.mod_two_eq_zero_or_one i with hm | hm
    · rw [show 2 * (i / 2) = i by omega] at a
      rw [a]
      simp only [hc, hm, List.getElem_cons_zero]
    · rw [show 2 * (i / 2) + 1 = i by omega] at b
      rw [b]
      simp only [hc, hm, List.getElem_cons_zero, List.getElem_cons_succ]
      rfl
  · rw [List.getElem?_eq_none (by rw [flat_len hw]; omega), List.getElem?_eq_none (by rw [lcells_length]; simp; omega)]
theorem Lays.items {v : World} {F : Blk} {u : Value} {l : P.Lays} (h : Lays v F u l) : ∃ its : List OIt, olays its = l ∧ OOk v F its ∧ SrcIs v 2 u its.length (ocells its) := by
  obtain ⟨C, G, hs, hel, hG, hap⟩ := h.parts
  have hx : ∀ j, ∃ x, ∀ hj : j < l.length, C j = [x, .bool (l[j]'hj).2] ∧ Ents v (G j) x (l[j]'hj).1 := by
    intro j
    by_cases hj : j < l.length
    · obtain ⟨x, h1, h2⟩ := hel j hj
      exact ⟨x, fun _ => ⟨h1, h2⟩⟩
    · exact ⟨.int .i64 0, fun h => absurd h hj⟩
  obtain ⟨f, hf⟩ := Classical.axiomOfChoice hx
  refine ⟨List.ofFn fun j : Fin l.length => ((f j, l[j]), G j), ?_, ⟨?_, ?_, ?_⟩, ?_⟩
  · refine List.ext_getElem (by simp) fun i h1 h2 => by simp
  · intro t ht
    obtain ⟨j, rfl⟩ := List.mem_ofFn.1 ht
    exact (hf j j.2).2
  · intro t ht
    obtain ⟨j, rfl⟩ := List.mem_ofFn.1 ht
    exact hG j j.2
  · rw [List.pairwise_iff_getElem]
    intro i j hi hj hij x h1 h2
    simp only [List.getElem_ofFn] at h1 h2
    exact hap i j hij (by simpa using hj) x h1 h2
  · have e : ocells (List.ofFn fun j : Fin l.length => (((f j, l[j]), G j) : OIt)) = flat C l.length := by
      rw [flat_lcells (fun j hj => (hf j hj).1)]
      unfold ocells
      congr 1
      exact List.ext_getElem (by simp) fun i h1 h2 => by simp
    rw [e, List.length_ofFn]
    exact hs
theorem Ents.slice {v : World} {F : Blk} {x : Value} {l : P.Dic} (h : Ents v F x l) : ∃ a n c, x = .slice a n c := by
  obtain ⟨a, c, rfl, _⟩ := h; exact ⟨_, _, _, rfl⟩
/-- the first items of a row -/
theorem SrcIs.lo {v : World} {m c i : Nat} {ad : Addr} {its : List LIt} (h : SrcIs v 2 (.slice (some ad) m c) m (lcells its)) (hi : i ≤ its.length) : SrcIs v 2 (.slice (some ad) i c) i (lcells (its.take i)) := by
  obtain ⟨h1, h2, h3⟩ := h
  refine ⟨by rw [lcells_length, List.length_take]; omega, fun x hx => h2 x ?_, .inr ⟨ad, c, rfl, fun j x hx => ?_⟩⟩
  · rw [← lcells_take] at hx; exact List.mem_of_mem_take hx
  · rcases h3 with ⟨h3, _⟩ | ⟨ad', c', h3, h4⟩
    · cases h3
    · injection h3 with h5 h6 h7
      injection h5 with h5
      subst h5
      refine h4 j x ?_
      rw [← lcells_take, List.getElem?_take] at hx
      split at hx
      · exact hx
      · cases hx
/-- the items behind the first ones -/
theorem SrcIs.hi {v : World} {m c c' i : Nat} {g o : Nat} {a : Addr} {its : List LIt} (h : SrcIs v 2 (.slice (some ⟨g, o, none⟩) m c) m (lcells its)) (hm : its.length = m) (hi : i ≤ m) (ha : i < m → a = ⟨g, o + i * 2, none⟩) : SrcIs v 2 (.slice (some a) (m - i) c') (m - i) (lcells (its.drop i)) := by
  obtain ⟨h1, h2, h3⟩ := h
  refine ⟨by rw [lcells_length, List.length_drop]; omega, fun x hx => h2 x ?_, .inr ⟨a, c', rfl, fun j x hx => ?_⟩⟩
  · rw [← lcells_drop] at hx; exact List.mem_of_mem_drop hx
  · rcases h3 with ⟨h3, _⟩ | ⟨ad', c', h3, h4⟩
    · cases h3
    · injection h3 with h5 h6 h7
      injection h5 with h5
      subst h5
      have hlt : i < m := by
        have := (List.getElem?_eq_some_iff.1 hx).1
        rw [lcells_length, List.length_drop] at this; omega
      rw [ha hlt, addr_add, show o + i * 2 + j = o + (2 * i + j) by omega, ← addr_add]
      refine h4 (2 * i + j) x ?_
      rw [← lcells_drop, List.getElem?_drop] at hx
      exact hx
end Go.Proofs.YtngbkdlicknmhaaGreatDoor
