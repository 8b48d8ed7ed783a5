/- A row of entries of the call's own, as a list of items: what it holds, a row that is made of items. -/
import Derived.Test.YtkjidjomlpnnlaaGreatDoorMemE
import Derived.Deep.DeepCutAuto
import Derived.Test.YtkjidjomlpnnlaaGreatDoorCurE3
namespace Go.Proofs.YtkjidjomlpnnlaaGreatDoor
open Go Go.RowKit
set_option maxHeartbeats 1000000
/-- an entry in its row: the value of its outline, what it is, the blocks of its outline -/
abbrev EIt := (Value × P.Ent) × Blk
structure EOk (v : World) (F : Blk) (its : List EIt) : Prop where
  ent : ∀ t ∈ its, Ints v t.2 t.1.1 t.1.2.1
  sub : ∀ t ∈ its, ∀ b, t.2 b → F b
  apart : its.Pairwise fun a b => ∀ x, a.2 x → b.2 x → False
theorem EOk.keep {v v' : World} {F : Blk} {its : List EIt} (h : EOk v F its) (hk : Kept F v v') : EOk v' F its :=
  ⟨fun t ht => (h.ent t ht).keep intE_ok (hk.mono fun b hb => h.sub t ht b hb), h.sub, h.apart⟩
theorem EOk.sublist {v : World} {F : Blk} {a b : List EIt} (h : EOk v F a) (hs : b.Sublist a) : EOk v F b :=
  ⟨fun t ht => h.ent t (hs.subset ht), fun t ht => h.sub t (hs.subset ht), h.apart.sublist hs⟩
theorem Ents.items {v : World} {F : Blk} {ad : Option Addr} {n cap : Nat} {l : P.Dic} (h : Ents v F (.slice ad n cap) l) : ∃ its : List EIt, its.map (·.1.2) = l ∧ EOk v F its ∧
    ∀ (j : Nat) (hj : j < its.length), ∃ g o, ad = some ⟨g, o, none⟩ ∧ F g ∧ g < v.heap.size ∧ v.cell? ⟨g, o + j * 2, none⟩ = some (its[j]'hj).1.1 ∧ v.cell? ⟨g, o + j * 2 + 1, none⟩ = some (.string (S (its[j]'hj).1.2.2)) := by
  obtain ⟨ad', cap', he, h1, hn, h3⟩ := h
  injection he with e1 e2 e3
  subst e1
  rcases h3 with rfl | ⟨g, o, G, C, rfl, hr⟩
  · exact ⟨[], rfl, ⟨(fun _ h => by cases h), (fun _ h => by cases h), List.Pairwise.nil⟩, fun j hj => absurd hj (Nat.not_lt_zero _)⟩
  · have hx : ∀ j, ∃ x, ∀ hj : j < l.length, C j = [x, .string (S (l[j]'hj).2)] ∧ Ints v (G j) x (l[j]'hj).1 := by
      intro j
      by_cases hj : j < l.length
      · obtain ⟨x, h1, h2⟩ := hr.el j hj
        exact ⟨x, fun _ => ⟨h1, h2⟩⟩
      · exact ⟨.int .i64 0, fun h => absurd h hj⟩
    obtain ⟨f, hf⟩ := Classical.axiomOfChoice hx
    refine ⟨List.ofFn fun j : Fin l.length => ((f j, l[j]), G j), ?_, ⟨?_, ?_, ?_⟩, ?_⟩
    · refine List.ext_getElem (by simp) fun i h1 h2 => by simp
    · intro t ht
      obtain ⟨j, rfl⟩ := List.mem_ofFn.1 ht
      exact (hf j j.2).2
    · intro t ht
      obtain ⟨j, rfl⟩ := List.mem_ofFn.1 ht
      exact fun b hb => (hr.sub j j.2 b hb).1
    · rw [List.pairwise_iff_getElem]
      intro i j hi hj hij x h1 h2
      simp only [List.getElem_ofFn] at h1 h2
      exact hr.apart i j hij (by simpa using hj) x h1 h2
    · intro j hj
      have hj' : j < l.length := by simpa using hj
      refine ⟨g, o, rfl, hr.own, hr.lt _ hr.own, ?_, ?_⟩
      · have h := hr.cel j hj' 0 (by rw [(hf j hj').1]; simp)
        simp only [(hf j hj').1, List.getElem_cons_zero, Nat.add_zero] at h
        rw [List.getElem_ofFn]; exact h.1
      · have h := hr.cel j hj' 1 (by rw [(hf j hj').1]; simp)
        simp only [(hf j hj').1, List.getElem_cons_zero, List.getElem_cons_succ] at h
        rw [List.getElem_ofFn]; exact h.1
end Go.Proofs.YtkjidjomlpnnlaaGreatDoor

namespace Go.Proofs.YtkjidjomlpnnlaaGreatDoor
open Go Go.RowKit
set_option maxHeartbeats 4000000
set_option maxRecDepth 100000
/-- a dictionary that is read as long as some blocks stand -/
def ReadE (lo hi : Nat) (v : World) (u : Value) (l : P.Dic) : Prop := hi ≤ v.heap.size ∧ ∀ v', Kept (Bet lo hi) v v' → EntR v' u l
theorem ReadE.now {lo hi : Nat} {v : World} {u : Value} {l : P.Dic} (h : ReadE lo hi v u l) : EntR v u l := h.2 v ⟨Nat.le_refl _, fun _ _ => rfl⟩
theorem ReadE.chg {lo hi : Nat} {v v' : World} {u : Value} {l : P.Dic} {X : Blk} (h : ReadE lo hi v u l) (hc : Chg X v v') (hX : ∀ b, lo ≤ b → b < hi → ¬ X b) : ReadE lo hi v' u l :=
  ⟨Nat.le_trans h.1 hc.size, fun v2 hk => h.2 v2 ⟨Nat.le_trans hc.size hk.1, fun b hb => (hk.2 b hb).trans (hc.block b (Nat.lt_of_lt_of_le hb.2 h.1) (hX b hb.1 hb.2))⟩⟩
theorem ReadE.wide {lo hi lo' hi' : Nat} {v : World} {u : Value} {l : P.Dic} (h : ReadE lo hi v u l) (h1 : lo' ≤ lo) (h2 : hi ≤ hi') (h3 : hi' ≤ v.heap.size) : ReadE lo' hi' v u l :=
  ⟨h3, fun v2 hk => h.2 v2 (hk.mono fun _ hb => ⟨Nat.le_trans h1 hb.1, Nat.lt_of_lt_of_le hb.2 h2⟩)⟩
theorem Ents.readE {lo hi : Nat} {v : World} {F : Blk} {u : Value} {l : P.Dic} (h : Ents v F u l) (hF : ∀ b, F b → lo ≤ b ∧ b < hi) (hh : hi ≤ v.heap.size) : ReadE lo hi v u l :=
  ⟨hh, fun _ hk => Ents.read (h.keep entE_ok (hk.mono hF))⟩
theorem EOk.snoc {v : World} {F G : Blk} {its : List EIt} {e : EIt} (h : EOk v F its) (he : Ints v e.2 e.1.1 e.1.2.1) (hG : ∀ b, e.2 b → G b) (hd : ∀ b, F b → G b → False) : EOk v (fun b => F b ∨ G b) (its ++ [e]) := by
  refine ⟨?_, ?_, ?_⟩
  · intro t ht
    rcases List.mem_append.1 ht with ht | ht
    · exact h.ent t ht
    · simp only [List.mem_cons, List.not_mem_nil, or_false] at ht
      subst ht; exact he
  · intro t ht b hb
    rcases List.mem_append.1 ht with ht | ht
    · exact .inl (h.sub t ht b hb)
    · simp only [List.mem_cons, List.not_mem_nil, or_false] at ht
      subst ht; exact .inr (hG b hb)
  · rw [List.pairwise_append]
    refine ⟨h.apart, by simp, fun a ha b hb x h1 h2 => ?_⟩
    simp only [List.mem_cons, List.not_mem_nil, or_false] at hb
    subst hb
    exact hd x (h.sub a ha x h1) (hG x h2)
end Go.Proofs.YtkjidjomlpnnlaaGreatDoor
