/- Walks: an outline looked up in a dictionary and in a stack of layers (reference, program). -/
import Derived.Deep.DeepCutAuto
import Derived.Test.YtmlklnimoknojaaGreatDoorPlainLook
import Derived.Test.YtmlklnimoknojaaGreatDoorLawD
import Derived.Test.YtmlklnimoknojaaGreatDoorLayB
import Derived.Test.YtmlklnimoknojaaGreatDoorMemE
namespace Go.Proofs.YtmlklnimoknojaaGreatDoor
namespace P
end P
open Go Go.RowKit
set_option maxHeartbeats 2000000
set_option maxRecDepth 100000
def FindPost (o : List Int) (l : P.Dic) (w : World) (e : Ending) (w' : World) : Prop := e = .returned (.tuple #[.string (S (P.textAt o l)), .bool (P.hasE o l)]) ∧ Below w.heap.size w w'
theorem l6Find (dv ov : Value) (l : P.Dic) (o : List Int) (w : World) (hu : EntR w dv l) (ho : IntR w ov o) :
    Calls Tryz.prog 151 #[.agg #[dv], ov] w (FindPost o l w) := by
  have hb0 := (Below.refl w.heap.size w).alloc (Nat.le_refl _) (.cells #[dv] 26)
  have HU := Lib.hid (hu.below hb0); have HO := Lib.hid (ho.below hb0); have HB0 := Lib.hid hb0
  have HBX := Lib.hid (Box1.new dv 26 w)
  have hl0 := P.place_lo o l; have hl1 := P.place_lt (o := o) (l := l)
  obtain ⟨ad, cap, rfl, hll, _⟩ := hu
  obtain ⟨od, oc, rfl, _, _⟩ := ho
  clear hb0
  go_enter Tryz.func151, Tryz.ntmps151
  go_wp2_with fail
  refine (l6At _ _ l o _ HU.out HO.out).mono ?_
  rintro e w1 ⟨rfl, hb⟩
  have HU1 := Lib.hid (HU.out.below hb)
  obtain ⟨b0, _⟩ := HBX.out.below hb
  have HB1 := Lib.hid (HB0.out.trans (hb.mono (by simp)))
  clear hb HU HO HB0 HBX
  by_cases hneg : P.place o l < 0
  · have HN := Lib.hid (show P.hasE o l = false by unfold P.hasE; exact decide_eq_false (by omega))
    go_wp2
    refine bodyPost_ret (v := .tuple #[.string (S []), .bool false]) (by simp [results, Tryz.results151, go_sem]) rfl ⟨by rw [P.textAt_not HN.out, HN.out], HB1.out⟩
  · have HN := Lib.hid (show P.hasE o l = true by unfold P.hasE; exact decide_eq_true (by omega))
    obtain ⟨i, hi⟩ := Int.eq_ofNat_of_zero_le (show 0 ≤ P.place o l by omega)
    have hil : i < l.length := by omega
    obtain ⟨g, p, rfl, hgl, x, c0, c1, hx⟩ := HU1.out.at i hil
    rw [P.textAt_place hi hil] at c1
    rw [hi] at hneg ⊢
    have i1 : (i : Int) < (l.length : Int) := by omega
    clear hl0 hl1 hi c0 hx
    go_wp2
    refine bodyPost_ret (v := .tuple #[.string (S (P.textAt o l)), .bool true]) (by simp [results, Tryz.results151, go_sem]) rfl ⟨by rw [HN.out], HB1.out⟩
theorem dicLookup (dv ov : Value) (l : P.Dic) (o : List Int) (w : World) (hu : EntR w dv l) (ho : IntR w ov o) :
    Calls Tryz.prog 74 #[.agg #[dv], ov] w (FindPost o l w) := by
  have hb0 := (Below.refl w.heap.size w).alloc (Nat.le_refl _) (.cells #[dv] 26)
  have HU := Lib.hid (hu.below hb0); have HO := Lib.hid (ho.below hb0); have HB0 := Lib.hid hb0
  have HBX := Lib.hid (Box1.new dv 26 w)
  have hl0 := P.place_lo o l; have hl1 := P.place_lt (o := o) (l := l)
  obtain ⟨ad, cap, rfl, hll, _⟩ := hu
  obtain ⟨od, oc, rfl, _, _⟩ := ho
  clear hb0
  go_enter Tryz.func74, Tryz.ntmps74
  go_wp2_with fail
  refine (dicFind _ _ l o _ HU.out HO.out).mono ?_
  rintro e w1 ⟨rfl, hb⟩
  have HU1 := Lib.hid (HU.out.below hb)
  obtain ⟨b0, _⟩ := HBX.out.below hb
  have HB1 := Lib.hid (HB0.out.trans (hb.mono (by simp)))
  clear hb HU HO HB0 HBX
  by_cases hneg : P.place o l < 0
  · have HN := Lib.hid (show P.hasE o l = false by unfold P.hasE; exact decide_eq_false (by omega))
    go_wp2
    refine bodyPost_ret (v := .tuple #[.string (S []), .bool false]) (by simp [results, Tryz.results74, go_sem]) rfl ⟨by rw [P.textAt_not HN.out, HN.out], HB1.out⟩
  · have HN := Lib.hid (show P.hasE o l = true by unfold P.hasE; exact decide_eq_true (by omega))
    obtain ⟨i, hi⟩ := Int.eq_ofNat_of_zero_le (show 0 ≤ P.place o l by omega)
    have hil : i < l.length := by omega
    obtain ⟨g, p, rfl, hgl, x, c0, c1, hx⟩ := HU1.out.at i hil
    rw [P.textAt_place hi hil] at c1
    rw [hi] at hneg ⊢
    have i1 : (i : Int) < (l.length : Int) := by omega
    clear hl0 hl1 hi c0 hx
    go_wp2
    refine bodyPost_ret (v := .tuple #[.string (S (P.textAt o l)), .bool true]) (by simp [results, Tryz.results74, go_sem]) rfl ⟨by rw [HN.out], HB1.out⟩
end Go.Proofs.YtmlklnimoknojaaGreatDoor

namespace Go.Proofs.YtmlklnimoknojaaGreatDoor
namespace P
abbrev Outs := List (List Int)
def keptO (ok : Bool) (l : Outs) : Outs := if ok then l else []
end P
open Go Go.RowKit
set_option maxHeartbeats 1000000
set_option maxRecDepth 100000
/-- a slice of slices of ints, as it is read -/
def ListR (v : World) (u : Value) (l : P.Outs) : Prop :=
  ∃ (ad : Option Addr) (cap : Nat), u = .slice ad l.length cap ∧ (l.length ≤ 2 ^ 45 ∧ l.length ≤ cap) ∧ (ad = none → cap = 0) ∧ (l = [] ∨ ∃ g o, ad = some ⟨g, o, none⟩ ∧ g < v.heap.size ∧ ∀ (j : Nat) (h : j < l.length), ∃ x, v.cell? ⟨g, o + j, none⟩ = some x ∧ IntR v x (l[j]'h))
theorem ListR.below {v v' : World} {u : Value} {l : P.Outs} (h : ListR v u l) (hb : Below v.heap.size v v') : ListR v' u l := by
  obtain ⟨ad, cap, h1, h2, hn, h3⟩ := h
  refine ⟨ad, cap, h1, h2, hn, h3.imp id ?_⟩
  rintro ⟨g, o, h4, h5, h6⟩
  refine ⟨g, o, h4, Nat.lt_of_lt_of_le h5 hb.size, fun j hj => ?_⟩
  obtain ⟨x, a, c⟩ := h6 j hj
  exact ⟨x, (hb.cell (p := ⟨g, _, none⟩) h5).trans a, c.below hb⟩
theorem ListR.at {v : World} {ad : Option Addr} {n cap : Nat} {l : P.Outs} (h : ListR v (.slice ad n cap) l) (j : Nat) (hj : j < l.length) : ∃ g o, ad = some ⟨g, o, none⟩ ∧ g < v.heap.size ∧ ∃ x, v.cell? ⟨g, o + j, none⟩ = some x ∧ IntR v x (l[j]'hj) := by
  obtain ⟨ad', cap', he, _, _, h3⟩ := h
  injection he with h1 h2 h4
  rcases h3 with h3 | ⟨g, o, h5, h6, h7⟩
  · rw [h3] at hj; exact absurd hj (Nat.not_lt_zero _)
  · exact ⟨g, o, h1.trans h5, h6, h7 j hj⟩
/-- a row of ints in its row -/
def outE : ElT (List Int) := fun v F cs o => ∃ x, cs = [x] ∧ RowO 1 intE v F x o
theorem outE_ok : ElOk outE :=
  ⟨fun ⟨x, h, k⟩ hk => ⟨x, h, k.keep intE_ok hk⟩, fun ⟨x, h, k⟩ hF hl => ⟨x, h, k.wide hF hl⟩⟩
abbrev OutsO := RowO 1 outE
theorem OutsO.read {v : World} {F : Blk} {u : Value} {l : P.Outs} (h : OutsO v F u l) : ListR v u l := by
  obtain ⟨ad, cap, h1, h2, hn, h3⟩ := h
  refine ⟨ad, cap, h1, by omega, hn.1, h3.imp id ?_⟩
  rintro ⟨g, o, G, C, h4, h5⟩
  refine ⟨g, o, h4, h5.lt _ h5.own, fun j hj => ?_⟩
  obtain ⟨x, he, hx⟩ := h5.el j hj
  have hc := (h5.cel j hj 0 (by rw [he]; simp)).1
  simp only [he, List.getElem_cons_zero, Nat.mul_one, Nat.add_zero] at hc
  exact ⟨x, hc, Ints.read hx⟩
/-- what the drawn region of eqIntSS keeps -/
def KOO (w : World) (c p : Nat) (x : Value) (g q : Nat) (y : Value) (eo : List Int) (v : World) : Prop :=
  v.cell? ⟨c, p, none⟩ = some x ∧ v.cell? ⟨g, q, none⟩ = some y ∧ c < v.heap.size ∧ g < v.heap.size ∧ IntR v x eo ∧ IntR v y eo ∧ w.heap.size ≤ v.heap.size ∧ Below w.heap.size w v
theorem KOO.step {w v v' : World} {c p g q : Nat} {x y : Value} {eo : List Int} (h : KOO w c p x g q y eo v) (hb : Below v.heap.size v v') : KOO w c p x g q y eo v' := by
  obtain ⟨h1, h3, h5, h6, h7, h8, h9, h10⟩ := h
  exact ⟨(hb.cell (p := ⟨c, p, none⟩) h5).trans h1, (hb.cell (p := ⟨g, q, none⟩) h6).trans h3,
    Nat.lt_of_lt_of_le h5 hb.size, Nat.lt_of_lt_of_le h6 hb.size, h7.below hb, h8.below hb, Nat.le_trans h9 hb.size, h10.trans (hb.mono h9)⟩
theorem info_sl : (Tryz.prog.info? 27).map (fun i => (i.zero, i.size, i.bytes)) = some (some (.slice none 0 0), 1, 24) := by kernel_rfl
end Go.Proofs.YtmlklnimoknojaaGreatDoor
