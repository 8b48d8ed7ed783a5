/- Walks: segmentation by longest match (program). -/
import Derived.Deep.DeepCutAuto
import Derived.Deep.RegionHeld
import Derived.BigQuiet
import Derived.IntWalk
import Derived.Test.YtmlklnimoknojaaGreatDoorFmtS3
import Derived.Test.YtmlklnimoknojaaGreatDoorOuts
import Derived.RegionTactic
import Derived.BigRegion
import Derived.Test.YtmlklnimoknojaaGreatDoorReadA
import Derived.Test.YtmlklnimoknojaaGreatDoorOutD
import Derived.Test.YtmlklnimoknojaaGreatDoorLawD
import Derived.Test.YtmlklnimoknojaaGreatDoorDelA
import Derived.Test.YtmlklnimoknojaaGreatDoorValD
import Derived.Test.YtmlklnimoknojaaGreatDoorCurE3
import Derived.Laws.BitsLemmas
import Derived.Test.YtmlklnimoknojaaGreatDoorFmtI5
import Derived.Test.YtmlklnimoknojaaGreatDoorFold1
import Derived.Test.YtmlklnimoknojaaGreatDoorCurE1
import Derived.Test.YtmlklnimoknojaaGreatDoorMemD
import Derived.Test.YtmlklnimoknojaaGreatDoorMemE
namespace Go.Proofs.YtmlklnimoknojaaGreatDoor
open Go Go.RowKit
set_option maxHeartbeats 4000000
set_option maxRecDepth 100000
/-- a part of a list, read -/
theorem IntR.cut {v : World} {g o cap : Nat} {l : List Int} (h : IntR v (.slice (some ⟨g, o, none⟩) l.length cap) l) {a k : Nat} (hk : a + k ≤ l.length) (c : Nat) (hc : k ≤ c) : IntR v (.slice (some ⟨g, o + a, none⟩) k c) ((l.drop a).take k) := by
  obtain ⟨ad', cap', he, h1, hn, h3⟩ := h
  injection he with e1 e2 e3
  subst e1 e3
  have hlk : ((l.drop a).take k).length = k := by rw [List.length_take, List.length_drop]; omega
  refine ⟨_, c, by rw [hlk], by omega, (fun h => by cases h), ?_⟩
  rcases h3 with h3 | ⟨g', o', h4, h5, h6⟩
  · left; rw [h3]; simp
  · injection h4 with h4
    injection h4 with h7 h8
    subst h7 h8
    refine .inr ⟨_, _, rfl, h5, fun j hj => ?_⟩
    have hj' : a + j < l.length := by omega
    rw [List.getElem_take, List.getElem_drop, Nat.add_assoc]
    exact h6 (a + j) hj'
end Go.Proofs.YtmlklnimoknojaaGreatDoor

namespace Go.Proofs.YtmlklnimoknojaaGreatDoor
namespace P
end P
open Go Go.RowKit
set_option maxHeartbeats 4000000
set_option maxRecDepth 100000
theorem atomVals_len (l : List (Int × Str)) : (atomVals l).length = l.length * 2 := by
  induction l with
  | nil => rfl
  | cons a l ih =>
    have e : atomVals (a :: l) = .int .i64 a.1 :: .string (S a.2) :: atomVals l := rfl
    rw [e, List.length_cons, List.length_cons, List.length_cons, ih]
    omega
theorem atomVals_one {l : List (Int × Str)} {x : Value} (h : x ∈ atomVals l) : x.oneCell' = true := by
  unfold atomVals at h
  rw [List.mem_flatMap] at h
  obtain ⟨a, _, h⟩ := h
  simp only [List.mem_cons, List.not_mem_nil, or_false] at h
  rcases h with rfl | rfl <;> rfl
theorem atomVals_append (l m : List (Int × Str)) : atomVals (l ++ m) = atomVals l ++ atomVals m := by unfold atomVals; rw [List.flatMap_append]
end Go.Proofs.YtmlklnimoknojaaGreatDoor

namespace Go.Proofs.YtmlklnimoknojaaGreatDoor
open Go Go.RowKit
set_option maxRecDepth 100000
theorem has (u : Value) (l : List Int) (x : Int) (w : World) (hu : IntR w u l) :
    Calls Tryz.prog 75 #[u, .int .i64 x] w fun e w' => e = .returned (.bool (l.contains x)) ∧ w' = w := by
  obtain ⟨ad, cap, rfl, ⟨hl, hc⟩, hn, h3⟩ := hu
  have HC := Lib.hid (show Calls Tryz.prog 139 #[.slice ad l.length cap, .int .i64 x] w fun e w' => e = .returned (.bool (l.contains x)) ∧ w' = w by
    rcases h3 with rfl | ⟨g, o, rfl, hg, hcell⟩
    · exact Tryz.slices_Contains_int_empty ad cap x w
    · have h := Tryz.slices_Contains_int g o l.length cap l x w (Nat.le_refl _) (by omega) (fun j hj => by rw [hcell j hj]; simp [hj])
      rw [List.take_length] at h
      exact h)
  clear h3 hn
  obtain ⟨q, hq⟩ : ∃ q, l.contains x = q := ⟨_, rfl⟩
  rw [hq] at HC ⊢
  clear hq
  go_enter Tryz.func75, Tryz.ntmps75
  go_wp2_with fail
  refine HC.out.mono ?_
  rintro e w' ⟨rfl, rfl⟩
  go_wp2
  go_ret
  exact ⟨rfl, rfl⟩
end Go.Proofs.YtmlklnimoknojaaGreatDoor

namespace Go.Proofs.YtmlklnimoknojaaGreatDoor
namespace P
end P
open Go Go.RowKit
set_option maxHeartbeats 2000000
set_option maxRecDepth 100000
theorem IntR.cap {v : World} {a : Option Addr} {n c : Nat} {l : List Int} (h : IntR v (.slice a n c) l) : l.length ≤ c := by
  obtain ⟨ad, cap, h1, h2, _⟩ := h
  injection h1 with _ _ h3
  subst h3
  exact h2.2
end Go.Proofs.YtmlklnimoknojaaGreatDoor

namespace Go.Proofs.YtmlklnimoknojaaGreatDoor
open Go Go.RowKit
set_option maxHeartbeats 1000000
/-- an entry in its row: the value of its outline, what it is, the blocks of its outline -/
abbrev EIt := (Value × P.Ent) × Blk
structure EOk (v : World) (F : Blk) (its : List EIt) : Prop where
  ent : ∀ t ∈ its, Ints v t.2 t.1.1 t.1.2.1
  sub : ∀ t ∈ its, ∀ b, t.2 b → F b
  apart : its.Pairwise fun a b => ∀ x, a.2 x → b.2 x → False
theorem EOk.keep {v v' : World} {F : Blk} {its : List EIt} (h : EOk v F its) (hk : Kept F v v') : EOk v' F its :=
  ⟨fun t ht => (h.ent t ht).keep intE_ok (hk.mono fun b hb => h.sub t ht b hb), h.sub, h.apart⟩
theorem Ents.items {v : World} {F : Blk} {ad : Option Addr} {n cap : Nat} {l : P.Dic} (h : Ents v F (.slice ad n cap) l) : ∃ its : List EIt, its.map (·.1.2) = l ∧ EOk v F its ∧
    ∀ (j : Nat) (hj : j < its.length), ∃ g o, ad = some ⟨g, o, none⟩ ∧ F g ∧ g < v.heap.size ∧ v.cell? ⟨g, o + j * 2, none⟩ = some (its[j]'hj).1.1 ∧ v.cell? ⟨g, o + j * 2 + 1, none⟩ = some (.string (S (its[j]'hj).1.2.2)) := by
  obtain ⟨ad', cap', he, h1, hn, h3⟩ := h
  injection he with e1 e2 e3
  subst e1
  rcases h3 with rfl | ⟨g, o, G, C, rfl, hr⟩
  · exact ⟨[], rfl, ⟨(fun _ h => by cases h), (fun _ h => by cases h), List.Pairwise.nil⟩, fun j hj => absurd hj (Nat.not_lt_zero _)⟩
  · have hx : ∀ j, ∃ x, ∀ hj : j < l.length, C j = [x, .string (S (l[j]'hj).2)] ∧ Ints v (G j) x (l[j]'hj).1 := by
      intro j
      by_cases hj : j < l.length
      · obtain ⟨x, h1, h2⟩ := hr.el j hj
        exact ⟨x, fun _ => ⟨h1, h2⟩⟩
      · exact ⟨.int .i64 0, fun h => absurd h hj⟩
    obtain ⟨f, hf⟩ := Classical.axiomOfChoice hx
    refine ⟨List.ofFn fun j : Fin l.length => ((f j, l[j]), G j), ?_, ⟨?_, ?_, ?_⟩, ?_⟩
    · refine List.ext_getElem (by simp) fun i h1 h2 => by simp
    · intro t ht
      obtain ⟨j, rfl⟩ := List.mem_ofFn.1 ht
      exact (hf j j.2).2
    · intro t ht
      obtain ⟨j, rfl⟩ := List.mem_ofFn.1 ht
      exact fun b hb => (hr.sub j j.2 b hb).1
    · rw [List.pairwise_iff_getElem]
      intro i j hi hj hij x h1 h2
      simp only [List.getElem_ofFn] at h1 h2
      exact hr.apart i j hij (by simpa using hj) x h1 h2
    · intro j hj
      have hj' : j < l.length := by simpa using hj
      refine ⟨g, o, rfl, hr.own, hr.lt _ hr.own, ?_, ?_⟩
      · have h := hr.cel j hj' 0 (by rw [(hf j hj').1]; simp)
        simp only [(hf j hj').1, List.getElem_cons_zero, Nat.add_zero] at h
        rw [List.getElem_ofFn]; exact h.1
      · have h := hr.cel j hj' 1 (by rw [(hf j hj').1]; simp)
        simp only [(hf j hj').1, List.getElem_cons_zero, List.getElem_cons_succ] at h
        rw [List.getElem_ofFn]; exact h.1
abbrev ecells (its : List EIt) : List Value := its.flatMap fun t => [t.1.1, .string (S t.1.2.2)]
theorem ecells_length : ∀ its : List EIt, (ecells its).length = its.length * 2
  | [] => rfl
  | t :: its => by
    have h := ecells_length its
    simp only [ecells, List.flatMap_cons, List.length_append, List.length_cons, List.length_nil] at h ⊢
    omega
theorem ecells_get : ∀ (its : List EIt) (j : Nat) (h : j < its.length), (ecells its)[j * 2]? = some (its[j]'h).1.1 ∧ (ecells its)[j * 2 + 1]? = some (.string (S (its[j]'h).1.2.2))
  | t :: its, 0, _ => ⟨rfl, rfl⟩
  | t :: its, j + 1, h => by
    have := ecells_get its j (by simpa using h)
    have e : ecells (t :: its) = t.1.1 :: .string (S t.1.2.2) :: ecells its := rfl
    rw [e, show (j + 1) * 2 = j * 2 + 1 + 1 by omega]
    simpa using this
theorem ecells_append (a b : List EIt) : ecells (a ++ b) = ecells a ++ ecells b := by unfold ecells; rw [List.flatMap_append]
/-- the row of items -/
theorem ents_of_items {B : Nat} {v : World} {F : Blk} {g c : Nat} {its : List EIt} (hown : v.ownsRow B 47 2 (.slice (some ⟨g, 0, none⟩) its.length c) its.length (ecells its)) (ho : EOk v F its) (hF : ∀ b, F b → b < v.heap.size) (hg : ¬ F g) (hl : its.length ≤ 2 ^ 30) :
    Ents v (fun b => F b ∨ b = g) (.slice (some ⟨g, 0, none⟩) its.length c) (its.map (·.1.2)) := by
  have hlt := World.ownsRow.lt hown g rfl
  rcases id hown.2 with ⟨hv, _⟩ | ⟨g', cap, cur, hv, _, _, hnc, _⟩
  · cases hv
  · injection hv with e1 e2 e3
    subst e3
    refine ⟨_, c, by rw [List.length_map], by rw [List.length_map]; exact hl, ⟨(fun h => by cases h), by rw [List.length_map]; exact hnc⟩, .inr ⟨g, 0, fun j => match its[j]? with | some t => t.2 | none => fun _ => False, fun j => match its[j]? with | some t => [t.1.1, .string (S t.1.2.2)] | none => [], rfl, RowC.mk_at _ _ (.inr rfl) (fun b hb => by rcases hb with hb | rfl; exact hF b hb; exact hlt.2) (fun j hj => ?_) (fun i j hij hj b h1 h2 => ?_)⟩⟩
    · have hj' : j < its.length := by simpa using hj
      have e : its[j]? = some (its[j]'hj') := List.getElem?_eq_getElem hj'
      have hm := List.getElem_mem hj'
      simp only [e]
      refine ⟨?_, rfl, ?_, fun b hb => ?_⟩
      · obtain ⟨a, b⟩ := ecells_get its j hj'
        intro i hi
        have hi2 : i < 2 := by simpa using hi
        have c := World.ownsRow.cellAt hown (j * 2 + i) (by omega)
        refine ⟨?_, World.ownsRow.frozenAt hown _⟩
        rw [show 0 + j * 2 + i = 0 + (j * 2 + i) by omega, Nat.zero_add] at *
        rw [c]
        rcases (show i = 0 ∨ i = 1 by omega) with rfl | rfl
        · exact a
        · exact b
      · refine ⟨(its[j]'hj').1.1, by simp, ?_⟩
        have := ho.ent _ hm
        simpa using this
      · exact ⟨.inl (ho.sub _ hm b hb), fun e => hg (e ▸ ho.sub _ hm b hb)⟩
    · have hj' : j < its.length := by simpa using hj
      have ei : its[i]? = some (its[i]'(by omega)) := List.getElem?_eq_getElem (by omega)
      have ej : its[j]? = some (its[j]'hj') := List.getElem?_eq_getElem hj'
      simp only [ei] at h1
      simp only [ej] at h2
      exact (List.pairwise_iff_getElem.1 ho.apart) i j (by omega) hj' hij b h1 h2
/-- the items of a row that is known as a whole -/
theorem Ents.whole_items {v : World} {F : Blk} {B : Nat} {u : Value} {l : P.Dic} {xs : List Value} (h : Ents v F u l) (hw : v.ownsRow B 47 2 u l.length xs) (hn : 0 < l.length) :
    ∃ g cap its, u = .slice (some ⟨g, 0, none⟩) l.length cap ∧ B ≤ g ∧ g < v.heap.size ∧ F g ∧ its.map (·.1.2) = l ∧ xs = ecells its ∧ EOk v (fun b => F b ∧ b ≠ g) its := by
  rcases id hw.2 with ⟨_, h0⟩ | ⟨g, cap, cur, rfl, hg, hh, hnc, hcm, hcs, htk⟩
  · omega
  · obtain ⟨ad', cap', he, h1, hnn, h3⟩ := h
    injection he with e1 e2 e3
    rcases h3 with rfl | ⟨g', o, G, C, h4, hr⟩
    · exact absurd hn (Nat.lt_irrefl _)
    · rw [h4] at e1
      injection e1 with e1
      injection e1 with e1 e5
      subst e1 e5
      have hx : ∀ j, ∃ x, ∀ hj : j < l.length, C j = [x, .string (S (l[j]'hj).2)] ∧ Ints v (G j) x (l[j]'hj).1 := by
        intro j
        by_cases hj : j < l.length
        · obtain ⟨x, h1, h2⟩ := hr.el j hj
          exact ⟨x, fun _ => ⟨h1, h2⟩⟩
        · exact ⟨.int .i64 0, fun h => absurd h hj⟩
      obtain ⟨f, hf⟩ := Classical.axiomOfChoice hx
      refine ⟨g, cap, List.ofFn fun j : Fin l.length => ((f j, l[j]), G j), rfl, hg, hr.lt _ hr.own, hr.own, ?_, ?_, ⟨?_, ?_, ?_⟩⟩
      · refine List.ext_getElem (by simp) fun i h1 h2 => by simp
      · apply List.ext_getElem?
        intro i
        have hcell := World.ownsRow.cells hw (g := g) rfl
        by_cases hi : i < l.length * 2
        · have hil : i < xs.length := by rw [hw.1]; exact hi
          have hc := hcell i (xs[i]'hil) (List.getElem?_eq_getElem hil)
          rw [add0] at hc
          rw [List.getElem?_eq_getElem hil]
          have hj : i / 2 < l.length := by omega
          have hj' : i / 2 < (List.ofFn fun j : Fin l.length => (((f j, l[j]), G j) : EIt)).length := by simpa using hj
          obtain ⟨a, b⟩ := ecells_get (List.ofFn fun j : Fin l.length => (((f j, l[j]), G j) : EIt)) (i / 2) hj'
          simp only [List.getElem_ofFn] at a b
          rcases Nat.mod_two_eq_zero_or_one i with hm | hm
          · have h := (hr.cel (i / 2) hj 0 (by rw [(hf _ hj).1]; simp)).1
            simp only [(hf _ hj).1, List.getElem_cons_zero] at h
            rw [show 0 + i / 2 * 2 + 0 = i by omega, hc] at h
            rw [show i / 2 * 2 = i by omega] at a
            rw [a, h]
          · have h := (hr.cel (i / 2) hj 1 (by rw [(hf _ hj).1]; simp)).1
            simp only [(hf _ hj).1, List.getElem_cons_zero, List.getElem_cons_succ] at h
            rw [show 0 + i / 2 * 2 + 1 = i by omega, hc] at h
            rw [show i / 2 * 2 + 1 = i by omega] at b
            rw [b, h]
            rfl
        · rw [List.getElem?_eq_none (by rw [hw.1]; omega), List.getElem?_eq_none (by rw [ecells_length]; simp; omega)]
      · intro t ht
        obtain ⟨j, rfl⟩ := List.mem_ofFn.1 ht
        exact (hf j j.2).2
      · intro t ht
        obtain ⟨j, rfl⟩ := List.mem_ofFn.1 ht
        exact fun b hb => hr.sub j j.2 b hb
      · rw [List.pairwise_iff_getElem]
        intro i j hi hj hij x h1 h2
        simp only [List.getElem_ofFn] at h1 h2
        exact hr.apart i j hij (by simpa using hj) x h1 h2
end Go.Proofs.YtmlklnimoknojaaGreatDoor
