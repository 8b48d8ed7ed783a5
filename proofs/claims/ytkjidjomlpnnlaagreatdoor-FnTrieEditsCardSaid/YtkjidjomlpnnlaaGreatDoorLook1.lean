/- Walks: the law's own functions on layers: a copy, they are equal. Walks: the law's own functions on layers: a mark, what is held, their size. Arguments of a law: rows of layers, however long; their size. -/
import Derived.Deep.DeepCutAuto
import Derived.Test.YtkjidjomlpnnlaaGreatDoorLawD
import Derived.Deep.RegionLaw
import Derived.Deep.AppendLies
import Derived.IntWalk
import Derived.Test.YtkjidjomlpnnlaaGreatDoorMemF
import Derived.Test.YtkjidjomlpnnlaaGreatDoorDelA
namespace Go.Proofs.YtkjidjomlpnnlaaGreatDoor
section
abbrev P.Lay := P.Dic × Bool
abbrev P.Lays := List P.Lay
open Go Go.RowKit
set_option maxHeartbeats 1000000
set_option maxRecDepth 100000
/-- a slice of layers, as it is read -/
def LayR (v : World) (u : Value) (l : P.Lays) : Prop :=
  ∃ (ad : Option Addr) (cap : Nat), u = .slice ad l.length cap ∧ (l.length ≤ 2 ^ 45 ∧ l.length ≤ cap) ∧ (ad = none → cap = 0) ∧ (l = [] ∨ ∃ g o, ad = some ⟨g, o, none⟩ ∧ g < v.heap.size ∧ ∀ (j : Nat) (h : j < l.length), ∃ x, v.cell? ⟨g, o + j * 2, none⟩ = some x ∧ v.cell? ⟨g, o + j * 2 + 1, none⟩ = some (.bool (l[j]'h).2) ∧ EntR v x (l[j]'h).1)
theorem LayR.below {v v' : World} {u : Value} {l : P.Lays} (h : LayR v u l) (hb : Below v.heap.size v v') : LayR v' u l := by
  obtain ⟨ad, cap, h1, h2, hn, h3⟩ := h
  refine ⟨ad, cap, h1, h2, hn, h3.imp id ?_⟩
  rintro ⟨g, o, h4, h5, h6⟩
  refine ⟨g, o, h4, Nat.lt_of_lt_of_le h5 hb.size, fun j hj => ?_⟩
  obtain ⟨x, a, b, c⟩ := h6 j hj
  exact ⟨x, (hb.cell (p := ⟨g, _, none⟩) h5).trans a, (hb.cell (p := ⟨g, _, none⟩) h5).trans b, c.below hb⟩
theorem LayR.at {v : World} {ad : Option Addr} {n cap : Nat} {l : P.Lays} (h : LayR v (.slice ad n cap) l) (j : Nat) (hj : j < l.length) : ∃ g o, ad = some ⟨g, o, none⟩ ∧ g < v.heap.size ∧ ∃ x, v.cell? ⟨g, o + j * 2, none⟩ = some x ∧ v.cell? ⟨g, o + j * 2 + 1, none⟩ = some (.bool (l[j]'hj).2) ∧ EntR v x (l[j]'hj).1 := by
  obtain ⟨ad', cap', he, _, _, h3⟩ := h
  injection he with h1 h2 h4
  rcases h3 with h3 | ⟨g, o, h5, h6, h7⟩
  · rw [h3] at hj; exact absurd hj (Nat.not_lt_zero _)
  · exact ⟨g, o, h1.trans h5, h6, h7 j hj⟩
/-- a layer -/
def layE : ElT P.Lay := fun v F cs e => ∃ x, cs = [x, .bool e.2] ∧ RowO 2 entE v F x e.1
abbrev Lays := RowO 2 layE
theorem Lays.read {v : World} {F : Blk} {u : Value} {l : P.Lays} (h : Lays v F u l) : LayR v u l := by
  obtain ⟨ad, cap, h1, h2, hn, h3⟩ := h
  refine ⟨ad, cap, h1, by omega, hn.1, h3.imp id ?_⟩
  rintro ⟨g, o, G, C, h4, h5⟩
  refine ⟨g, o, h4, h5.lt _ h5.own, fun j hj => ?_⟩
  obtain ⟨x, he, hx⟩ := h5.el j hj
  have hc := (h5.cel j hj 0 (by rw [he]; simp)).1
  have hd := (h5.cel j hj 1 (by rw [he]; simp)).1
  simp only [he, List.getElem_cons_zero, List.getElem_cons_succ, Nat.add_zero] at hc hd
  exact ⟨x, hc, hd, Ents.read hx⟩
end
section
namespace P
/-- the mark of a layer's switch -/
def flag (k : Int) : Bool := k % 3 == 0
end P
open Go Go.RowKit
set_option maxHeartbeats 1000000
set_option maxRecDepth 100000
end
section
open Go Go.RowKit
set_option maxHeartbeats 1000000
set_option maxRecDepth 100000
end
end Go.Proofs.YtkjidjomlpnnlaaGreatDoor

namespace Go.Proofs.YtkjidjomlpnnlaaGreatDoor
section
/-- all the layers' dictionaries are in order -/
def P.layers (l : P.Lays) : Bool := l.all fun e => P.dic e.1
/-- a stack is in order -/
def P.stack (l : P.Lays) : Bool := decide ((l.length : Int) ≤ 4) && P.layers l
open Go Go.RowKit
set_option maxHeartbeats 1000000
set_option maxRecDepth 100000
end
namespace P
end P
end Go.Proofs.YtkjidjomlpnnlaaGreatDoor

namespace Go.Proofs.YtkjidjomlpnnlaaGreatDoor
namespace P
/-- the text of an outline -/
def textAt (o : List Int) : Dic → Bs
  | [] => []
  | e :: l => if e.1 = o then e.2 else textAt o l
def hasE (o : List Int) (l : Dic) : Bool := decide (0 ≤ place o l)
theorem hasE_cons (o : List Int) (e : Ent) (l : Dic) : hasE o (e :: l) = (decide (e.1 = o) || hasE o l) := by
  have := place_lo o l
  unfold hasE
  rw [place]
  by_cases h : e.1 = o
  · simp [h]
  · rw [if_neg h, decide_eq_false h, Bool.false_or]
    split <;> (apply decide_eq_decide.2; omega)
theorem hasE_iff {o : List Int} : ∀ {l : Dic}, hasE o l = true ↔ ∃ x ∈ l, x.1 = o
  | [] => by simp [hasE, place]
  | e :: l => by
    rw [hasE_cons, Bool.or_eq_true, decide_eq_true_eq, hasE_iff]
    simp
theorem textAt_place {o : List Int} : ∀ {l : Dic} {i : Nat} (_ : place o l = i) (hi : i < l.length), (l[i]'hi).2 = textAt o l
  | e :: l, i, h, hi => by
    have h0 := place_lo o l
    unfold place at h
    unfold textAt
    by_cases he : e.1 = o
    · rw [if_pos he] at h ⊢
      obtain rfl : i = 0 := by omega
      rfl
    · rw [if_neg he] at h ⊢
      split at h
      · omega
      · obtain ⟨k, rfl⟩ : ∃ k : Nat, i = k + 1 := ⟨i - 1, by omega⟩
        exact textAt_place (l := l) (i := k) (by omega) (by simpa using hi)
theorem textAt_not {o : List Int} : ∀ {l : Dic}, hasE o l = false → textAt o l = []
  | [], _ => rfl
  | e :: l, h => by
    rw [hasE_cons, Bool.or_eq_false_iff, decide_eq_false_iff_not] at h
    unfold textAt
    rw [if_neg h.1]
    exact textAt_not h.2
end P
end Go.Proofs.YtkjidjomlpnnlaaGreatDoor

namespace Go.Proofs.YtkjidjomlpnnlaaGreatDoor
namespace P
end P
open Go Go.RowKit
set_option maxHeartbeats 2000000
set_option maxRecDepth 100000
def FindPost (o : List Int) (l : P.Dic) (w : World) (e : Ending) (w' : World) : Prop := e = .returned (.tuple #[.string (S (P.textAt o l)), .bool (P.hasE o l)]) ∧ Below w.heap.size w w'
theorem dicLookup (dv ov : Value) (l : P.Dic) (o : List Int) (w : World) (hu : EntR w dv l) (ho : IntR w ov o) :
    Calls Tryz.prog 76 #[.agg #[dv], ov] w (FindPost o l w) := by
  have hb0 := (Below.refl w.heap.size w).alloc (Nat.le_refl _) (.cells #[dv] 26)
  have HU := Lib.hid (hu.below hb0); have HO := Lib.hid (ho.below hb0); have HB0 := Lib.hid hb0
  have HBX := Lib.hid (Box1.new dv 26 w)
  have hl0 := P.place_lo o l; have hl1 := P.place_lt (o := o) (l := l)
  obtain ⟨ad, cap, rfl, hll, _⟩ := hu
  obtain ⟨od, oc, rfl, _, _⟩ := ho
  clear hb0
  go_enter Tryz.func76, Tryz.ntmps76
  go_wp2_with fail
  refine (dicFind _ _ l o _ HU.out HO.out).mono ?_
  rintro e w1 ⟨rfl, hb⟩
  have HU1 := Lib.hid (HU.out.below hb)
  obtain ⟨b0, _⟩ := HBX.out.below hb
  have HB1 := Lib.hid (HB0.out.trans (hb.mono (by simp)))
  clear hb HU HO HB0 HBX
  by_cases hneg : P.place o l < 0
  · have HN := Lib.hid (show P.hasE o l = false by unfold P.hasE; exact decide_eq_false (by omega))
    go_wp2
    refine bodyPost_ret (v := .tuple #[.string (S []), .bool false]) (by simp [results, Tryz.results76, go_sem]) rfl ⟨by rw [P.textAt_not HN.out, HN.out], HB1.out⟩
  · have HN := Lib.hid (show P.hasE o l = true by unfold P.hasE; exact decide_eq_true (by omega))
    obtain ⟨i, hi⟩ := Int.eq_ofNat_of_zero_le (show 0 ≤ P.place o l by omega)
    have hil : i < l.length := by omega
    obtain ⟨g, p, rfl, hgl, x, c0, c1, hx⟩ := HU1.out.at i hil
    rw [P.textAt_place hi hil] at c1
    rw [hi] at hneg ⊢
    have i1 : (i : Int) < (l.length : Int) := by omega
    clear hl0 hl1 hi c0 hx
    go_wp2
    refine bodyPost_ret (v := .tuple #[.string (S (P.textAt o l)), .bool true]) (by simp [results, Tryz.results76, go_sem]) rfl ⟨by rw [HN.out], HB1.out⟩
end Go.Proofs.YtkjidjomlpnnlaaGreatDoor
