/- Plain: an outline looked up in a dictionary and in a stack of layers; what a flattened stack holds; what is shadowed. -/
import Derived.Test.YtngbkdlicknmhaaGreatDoorDelA
import Derived.Test.YtngbkdlicknmhaaGreatDoorLayB
import Derived.Deep.DeepCutAuto
import Derived.Test.YtngbkdlicknmhaaGreatDoorLawD
namespace Go.Proofs.YtngbkdlicknmhaaGreatDoor
namespace P
/-- the text of an outline -/
def textAt (o : List Int) : Dic → Bs
  | [] => []
  | e :: l => if e.1 = o then e.2 else textAt o l
def hasE (o : List Int) (l : Dic) : Bool := decide (0 ≤ place o l)
theorem hasE_cons (o : List Int) (e : Ent) (l : Dic) : hasE o (e :: l) = (decide (e.1 = o) || hasE o l) := by
  have := place_lo o l
  unfold hasE
  rw [place]
  by_cases h : e.1 = o
  · simp [h]
  · rw [if_neg h, decide_eq_false h, Bool.false_or]
    split <;> (apply decide_eq_decide.2; omega)
theorem hasE_iff {o : List Int} : ∀ {l : Dic}, hasE o l = true ↔ ∃ x ∈ l, x.1 = o
  | [] => by simp [hasE, place]
  | e :: l => by
    rw [hasE_cons, Bool.or_eq_true, decide_eq_true_eq, hasE_iff]
    simp
theorem textAt_place {o : List Int} : ∀ {l : Dic} {i : Nat} (_ : place o l = i) (hi : i < l.length), (l[i]'hi).2 = textAt o l
  | e :: l, i, h, hi => by
    have h0 := place_lo o l
    unfold place at h
    unfold textAt
    by_cases he : e.1 = o
    · rw [if_pos he] at h ⊢
      obtain rfl : i = 0 := by omega
      rfl
    · rw [if_neg he] at h ⊢
      split at h
      · omega
      · obtain ⟨k, rfl⟩ : ∃ k : Nat, i = k + 1 := ⟨i - 1, by omega⟩
        exact textAt_place (l := l) (i := k) (by omega) (by simpa using hi)
theorem textAt_not {o : List Int} : ∀ {l : Dic}, hasE o l = false → textAt o l = []
  | [], _ => rfl
  | e :: l, h => by
    rw [hasE_cons, Bool.or_eq_false_iff, decide_eq_false_iff_not] at h
    unfold textAt
    rw [if_neg h.1]
    exact textAt_not h.2
theorem textAt_mem {x : Ent} : ∀ {l : Dic}, l.Pairwise lt → x ∈ l → textAt x.1 l = x.2
  | e :: l, hp, hx => by
    rw [List.pairwise_cons] at hp
    unfold textAt
    rcases List.mem_cons.1 hx with rfl | hx
    · rw [if_pos rfl]
    · have := hp.1 x hx
      have hne : ¬ e.1 = x.1 := fun h => by
        unfold lt at this
        rw [h, cmp_refl] at this
        exact absurd this (by decide)
      rw [if_neg hne]
      exact textAt_mem hp.2 hx
theorem mem_textAt {o : List Int} : ∀ {l : Dic}, hasE o l = true → (o, textAt o l) ∈ l
  | [], h => by simp [hasE, place] at h
  | e :: l, h => by
    rw [hasE_cons, Bool.or_eq_true, decide_eq_true_eq] at h
    unfold textAt
    by_cases he : e.1 = o
    · rw [if_pos he, ← he]; simp
    · rw [if_neg he]
      exact List.mem_cons_of_mem _ (mem_textAt (h.resolve_left he))
end P
end Go.Proofs.YtngbkdlicknmhaaGreatDoor

namespace Go.Proofs.YtngbkdlicknmhaaGreatDoor
namespace P
def lookD (o : List Int) (l : Dic) : Bs × Bool := if dic l then (textAt o l, hasE o l) else ([], false)
end P
open Go Go.RowKit
set_option maxHeartbeats 2000000
set_option maxRecDepth 100000
def FindPost (o : List Int) (l : P.Dic) (w : World) (e : Ending) (w' : World) : Prop := e = .returned (.tuple #[.string (S (P.textAt o l)), .bool (P.hasE o l)]) ∧ Below w.heap.size w w'
theorem dicLookup (dv ov : Value) (l : P.Dic) (o : List Int) (w : World) (hu : EntR w dv l) (ho : IntR w ov o) :
    Calls Tryz.prog 119 #[.agg #[dv], ov] w (FindPost o l w) := by
  have hb0 := (Below.refl w.heap.size w).alloc (Nat.le_refl _) (.cells #[dv] 26)
  have HU := Lib.hid (hu.below hb0); have HO := Lib.hid (ho.below hb0); have HB0 := Lib.hid hb0
  have HBX := Lib.hid (Box1.new dv 26 w)
  have hl0 := P.place_lo o l; have hl1 := P.place_lt (o := o) (l := l)
  obtain ⟨ad, cap, rfl, hll, _⟩ := hu
  obtain ⟨od, oc, rfl, _, _⟩ := ho
  clear hb0
  go_enter Tryz.func119, Tryz.ntmps119
  go_wp2_with fail
  refine (dicFind _ _ l o _ HU.out HO.out).mono ?_
  rintro e w1 ⟨rfl, hb⟩
  have HU1 := Lib.hid (HU.out.below hb)
  obtain ⟨b0, _⟩ := HBX.out.below hb
  have HB1 := Lib.hid (HB0.out.trans (hb.mono (by simp)))
  clear hb HU HO HB0 HBX
  by_cases hneg : P.place o l < 0
  · have HN := Lib.hid (show P.hasE o l = false by unfold P.hasE; exact decide_eq_false (by omega))
    go_wp2
    refine bodyPost_ret (v := .tuple #[.string (S []), .bool false]) (by simp [results, Tryz.results119, go_sem]) rfl ⟨by rw [P.textAt_not HN.out, HN.out], HB1.out⟩
  · have HN := Lib.hid (show P.hasE o l = true by unfold P.hasE; exact decide_eq_true (by omega))
    obtain ⟨i, hi⟩ := Int.eq_ofNat_of_zero_le (show 0 ≤ P.place o l by omega)
    have hil : i < l.length := by omega
    obtain ⟨g, p, rfl, hgl, x, c0, c1, hx⟩ := HU1.out.at i hil
    rw [P.textAt_place hi hil] at c1
    rw [hi] at hneg ⊢
    have i1 : (i : Int) < (l.length : Int) := by omega
    clear hl0 hl1 hi c0 hx
    go_wp2
    refine bodyPost_ret (v := .tuple #[.string (S (P.textAt o l)), .bool true]) (by simp [results, Tryz.results119, go_sem]) rfl ⟨by rw [HN.out], HB1.out⟩
theorem impl_lookup (dv ov : Value) (l : P.Dic) (o : List Int) (w : World) (hu : EntR w dv l) (ho : IntR w ov o) (hs : Small l) (hE : Env w) :
    Calls Tryz.prog 30 #[.agg #[dv], ov] w fun e w' => e = .returned (.tuple #[.string (S (P.lookD o l).1), .bool (P.lookD o l).2]) ∧ Below w.heap.size w w' := by
  have hb0 := (Below.refl w.heap.size w).alloc (Nat.le_refl _) (.cells #[dv] 26)
  have HU := Lib.hid (hu.below hb0); have HO := Lib.hid (ho.below hb0); have HB0 := Lib.hid hb0
  have HBX := Lib.hid (Box1.new dv 26 w); have HSM := Lib.hid hs
  have HE := Lib.hid (hE.below hb0 hE.size)
  obtain ⟨ad, cap, rfl, hll, _⟩ := hu
  obtain ⟨od, oc, rfl, _, _⟩ := ho
  clear hb0 hs
  go_enter Tryz.func30, Tryz.ntmps30
  go_wp2_with fail
  refine (isValidDictionary _ l _ HU.out HSM.out.texts HE.out).mono ?_
  rintro e w1 ⟨rfl, hb⟩
  have HU1 := Lib.hid (HU.out.below hb); have HO1 := Lib.hid (HO.out.below hb)
  obtain ⟨b0, _⟩ := HBX.out.below hb
  have HB1 := Lib.hid (HB0.out.trans (hb.mono (by simp)))
  clear hb HU HO HB0 HBX
  cases hd : P.dic l
  · have HD := Lib.hid (show P.lookD o l = ([], false) by unfold P.lookD; rw [hd]; rfl); clear hd
    go_wp2
    refine bodyPost_ret (v := .tuple #[.string (S []), .bool false]) (by simp [results, Tryz.results30, go_sem]) rfl ⟨by rw [HD.out], HB1.out⟩
  · have HD := Lib.hid (show P.lookD o l = (P.textAt o l, P.hasE o l) by unfold P.lookD; rw [hd]; rfl); clear hd
    go_wp2_with fail
    refine (dicLookup _ _ l o _ HU1.out HO1.out).mono ?_
    rintro e w2 ⟨rfl, hb⟩
    have HB2 := Lib.hid (HB1.out.trans (hb.mono HB1.out.size))
    clear hb
    go_wp2
    refine bodyPost_ret (v := .tuple #[.string (S (P.textAt o l)), .bool (P.hasE o l)]) (by simp [results, Tryz.results30, go_sem]) rfl ⟨by rw [HD.out], HB2.out⟩
end Go.Proofs.YtngbkdlicknmhaaGreatDoor
