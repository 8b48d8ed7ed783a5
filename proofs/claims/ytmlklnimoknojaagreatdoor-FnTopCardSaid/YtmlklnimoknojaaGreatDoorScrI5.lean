/- Walks: a translator pressed (program). -/
import Derived.Test.YtmlklnimoknojaaGreatDoorScrS5
import Derived.Test.YtmlklnimoknojaaGreatDoorLayB
import Derived.Test.YtmlklnimoknojaaGreatDoorValD
namespace Go.Proofs.YtmlklnimoknojaaGreatDoor
namespace P
theorem next_len (l : List Int) (k : Int) : (next l k).length ≤ l.length + 1 := by
  unfold next
  split
  · rw [List.length_take]; omega
  · rw [List.length_append]; simp
end P
open Go Go.RowKit
set_option maxHeartbeats 2000000
set_option maxRecDepth 100000
theorem ownK_read {B : Nat} {v : World} {u : Value} {l : List Int} (h : OwnK B v u l) (hl : l.length ≤ 2 ^ 45) : IntR v u l := by
  have h' := h
  rcases h.2 with ⟨rfl, h0⟩ | ⟨g, cap, cur, rfl, h1, h2, h3, h4, h5⟩
  · have : l = [] := by cases l with
      | nil => rfl
      | cons => simp at h0
    subst this
    exact ⟨none, 0, rfl, ⟨by simp, by simp⟩, fun _ => rfl, .inl rfl⟩
  · refine ⟨some ⟨g, 0, none⟩, cap, rfl, ⟨hl, h3⟩, (fun h => by cases h), .inr ⟨g, 0, rfl, ?_, fun j hj => ?_⟩⟩
    · exact (World.ownsRow.lt h' g rfl).2
    · rw [Nat.zero_add, World.ownsRow.cellAt h' j (by omega)]
      unfold ints
      rw [List.getElem?_map, List.getElem?_eq_getElem hj]
      rfl
theorem IntR.cap {v : World} {a : Option Addr} {n c : Nat} {l : List Int} (h : IntR v (.slice a n c) l) : l.length ≤ c := by
  obtain ⟨ad, cap, h1, h2, _⟩ := h
  injection h1 with _ _ h3
  subst h3
  exact h2.2
theorem ownK_take {B : Nat} {v : World} {a : Option Addr} {c m : Nat} {l : List Int} (h : OwnK B v (.slice a l.length c) l) (hl : l ≠ []) (hm : m ≤ l.length) : OwnK B v (.slice a m c) (l.take m) := by
  have hml : (l.take m).length = m := by rw [List.length_take]; omega
  rcases h.2 with ⟨h1, h0⟩ | ⟨g, cap, cur, h0, h1, h2, h3, h4, h5, h6⟩
  · exact absurd (List.eq_nil_of_length_eq_zero h0) hl
  · injection h0 with h7 _ h8
    subst h7 h8
    refine ⟨by simp [ints], .inr ⟨g, c, cur, by rw [hml], h1, h2, by omega, h4, h5, ?_⟩⟩
    rw [hml]
    have h9 : (cur.toList.take (l.length * 1)).take m = (ints l).take m := by rw [h6]
    rw [List.take_take, Nat.min_eq_left (by omega)] at h9
    rw [Nat.mul_one, h9]
    unfold ints
    rw [List.map_take]
/-- an edit in a box of the call's -/
def EBx (b : Nat) (v : World) : Prop := b < v.heap.size ∧ v.cell? ⟨b, 0, none⟩ = some (.int .i64 0) ∧ v.cell? ⟨b, 1, none⟩ = some (.string (S [])) ∧ v.frozen? ⟨b, 0, none⟩ = false ∧ v.frozen? ⟨b, 1, none⟩ = false
theorem EBx.below {b : Nat} {v v' : World} (h : EBx b v) (hb : Below v.heap.size v v') : EBx b v' := by
  obtain ⟨h1, h2, h3, h4, h5⟩ := h
  exact ⟨Nat.lt_of_lt_of_le h1 hb.size, (hb.cell (p := ⟨b, 0, none⟩) h1).trans h2, (hb.cell (p := ⟨b, 1, none⟩) h1).trans h3, (hb.frozen (p := ⟨b, 0, none⟩) h1).trans h4, (hb.frozen (p := ⟨b, 1, none⟩) h1).trans h5⟩
/-- the boxes of a press -/
def PrBx (b : Nat) (sv : Value) (t : Str) (dv : Value) (v : World) : Prop := (b < v.heap.size ∧ v.cell? ⟨b, 0, none⟩ = some dv) ∧ TBx (b + 1) sv t v ∧ TBx (b + 1 + 1) (.slice none 0 0) [] v ∧ EBx (b + 1 + 1 + 1) v
theorem PrBx.below {b : Nat} {sv dv : Value} {t : Str} {v v' : World} (h : PrBx b sv t dv v) (hb : Below v.heap.size v v') : PrBx b sv t dv v' :=
  ⟨⟨Nat.lt_of_lt_of_le h.1.1 hb.size, (hb.cell (p := ⟨b, 0, none⟩) h.1.1).trans h.1.2⟩, h.2.1.below hb, h.2.2.1.below hb, h.2.2.2.below hb⟩
def editV (e : P.Edit) : Value := .agg #[.int .i64 e.1, .string (S e.2)]
def PressPost (r : (P.Tr × P.Edit) × Bool) (w : World) (e : Ending) (w' : World) : Prop :=
  ∃ u, e = .returned (.tuple #[transV u r.1.1.2, editV r.1.2, .bool r.2]) ∧ OwnK w.heap.size w' u r.1.1.1 ∧ Below w.heap.size w w'
theorem press (dv sv : Value) (l : P.Dic) (st : List Int) (t : Str) (k : Int) (w : World) (hu : EntR w dv l) (hs : IntR w sv st) (hm : Small l) (hE : Env w) (hst : st.length ≤ 2 ^ 20) (ht : t.length ≤ 2 ^ 30) :
    Calls Tryz.prog 62 #[.agg #[dv], transV sv t, .int .i64 k] w (PressPost (P.pressP l (st, t) k) w) := by
  obtain ⟨i0, hi, hz0, hz1, hz2⟩ := info_parts info_int
  obtain ⟨W0, hW0⟩ : ∃ v, ((((w.alloc (.cells #[dv] 26)).alloc (.cells #[sv, .string (S t)] 32)).alloc (.cells #[.slice none 0 0, .string (S [])] 32)).alloc (.cells #[.int .i64 0, .string (S [])] 38)) = v := ⟨_, rfl⟩
  have hb0 : Below w.heap.size w W0 := by rw [← hW0]; exact ((((Below.refl w.heap.size w).alloc (Nat.le_refl _) _).alloc (by simp) _).alloc (by simp; omega) _).alloc (by simp; omega) _
  have hz0' : W0.heap.size = w.heap.size + 4 := by rw [← hW0]; simp
  have hx0 : PrBx w.heap.size sv t dv W0 := by
    subst hW0
    refine ⟨⟨by simp <;> omega, by go_simp⟩, ⟨by simp <;> omega, by go_simp, by go_simp, by go_simp, by go_simp⟩, ⟨by simp <;> omega, by go_simp, by go_simp, by go_simp, by go_simp⟩, ⟨by simp, by go_simp, by go_simp, by go_simp, by go_simp⟩⟩
  have HU := Lib.hid (hu.below hb0); have HST := Lib.hid (hs.below hb0); have HB0 := Lib.hid hb0; have HE := Lib.hid (hE.below hb0 hE.size)
  have HX := Lib.hid hx0; have HZ0 := Lib.hid hz0'
  clear hb0 hz0'
  obtain ⟨ad, cap, rfl, _, _⟩ := hu
  obtain ⟨sd, sc, rfl, _, _⟩ := hs
  unfold transV
  go_enter Tryz.func62, Tryz.ntmps62
  go_upto_region 1 with (fail)
  try rw [hW0]
  clear hW0
  obtain ⟨k0, ⟨k1, k2, k3, _⟩, _, _⟩ := hx0
  go_wp2_with fail
  refine (copyOf_own _ st _ HST.out (by omega)).mono ?_
  rintro e w1 ⟨u, rfl, ho, hb⟩
  have HB1 := Lib.hid hb; have HX1 := Lib.hid (HX.out.below hb); have HOW := Lib.hid ho
  obtain ⟨ua, uc, rfl⟩ := ownK_form ho
  have hz1' := hb.size
  clear k0 k1 k2 k3 ho hb
  have HOW2 := Lib.hid (HOW.out.alloc (.cells #[.int .i64 k] 3))
  go_wp2_with (at_builtin; refine wpList_append_own _ rfl _ _ 27 rfl W0.heap.size 3 i0 (.int .i64 0) 1 8 Tryz.underlying27 hi hz0 hz1 hz2 rfl (by decide) (.slice ua st.length uc) st.length (ints st) rfl HOW2.out ⟨w1.heap.size, 0, none⟩ 1 1 [.int .i64 k] rfl rfl ?_ ?_ ?_ ?_ ?_ ?_)
  all_goals first | exact ⟨rfl, rfl⟩ | (intro z hz; simp only [List.mem_cons, List.not_mem_nil, or_false] at hz; subst hz; rfl) | (unfold maxLen; omega) | omega | (simp; omega) | (intro i z hz; rcases i with _ | i; (injection hz with hz; subst hz; rw [add0]; go_simp); cases hz) | skip
  intro u4 w4 hown hgr _
  have R := Lib.hid (own_app HOW.out HB1.out 3 hown hgr)
  have HX4 := Lib.hid (HX.out.below R.out.2)
  have hz4 := R.out.2.size
  clear hown hgr
  obtain ⟨va, vc, rfl⟩ := ownK_form R.out.1
  have HE4 := Lib.hid (HE.out.below R.out.2 HE.out.size)
  have HU4 := Lib.hid (HU.out.below R.out.2)
  go_upto_if 19 with fail
  go_cut [9] (fun u wx => (∃ a c, u = .slice a (P.next st k).length c) ∧ OwnK W0.heap.size w4 u (P.next st k) ∧ w4 = wx)
  case first =>
    by_cases hk : k = 1024
    · subst hk
      have HN := Lib.hid (show P.next st 1024 = (st ++ [1024]).take (st.length - 1) by unfold P.next; rw [if_pos rfl, List.take_append_of_le_length (by omega)])
      have HL := Lib.hid (show (P.next st 1024).length = st.length - 1 by rw [HN.out, List.length_take, List.length_append]; omega)
      have i1 : ((1024 : Int) == 1024) = true := rfl
      obtain ⟨m, hm⟩ : ∃ m, st.length - 1 = m := ⟨_, rfl⟩
      rw [hm] at HN HL
      have i2 : max (0 : Int) ((st.length : Int) + 1 - 2) = (m : Int) := by omega
      have hvc := (ownK_read R.out.1 (by rw [List.length_append]; simp; omega)).cap
      rw [List.length_append] at hvc
      simp only [List.length_cons, List.length_nil] at hvc
      have i3 : m ≤ vc := by omega
      have i4 : (m : Int) ≤ (vc : Int) := by omega
      have HR := Lib.hid (show OwnK W0.heap.size w4 (.slice va m vc) (P.next st 1024) by rw [HN.out]; exact ownK_take R.out.1 (by simp) (by rw [List.length_append]; omega))
      go_wp2
      go_meet
      exact ⟨⟨va, vc, by rw [HL.out]⟩, HR.out, rfl⟩
    · have i1 : (k == 1024) = false := by simpa using hk
      have HN := Lib.hid (show st ++ [k] = P.next st k by unfold P.next; rw [if_neg hk])
      have HR := Lib.hid (show OwnK W0.heap.size w4 (.slice va (st ++ [k]).length vc) (P.next st k) by rw [← HN.out]; exact R.out.1)
      rw [HN.out] at HR ⊢
      go_wp2
      go_meet
      exact ⟨⟨_, _, rfl⟩, HR.out, rfl⟩
  case rest =>
    obtain ⟨⟨a, c, rfl⟩, ho, rfl⟩ := hcut
    have HN := Lib.hid (show P.pressP l (st, t) k = if (P.scr l (P.next st k)).2 then (((P.next st k, (P.scr l (P.next st k)).1), P.least t (P.scr l (P.next st k)).1), true) else ((P.tr0, (0, [])), false) from rfl)
    have hnl := P.next_len st k
    have hsl := P.scr_len l (P.next st k)
    generalize P.next st k = nx at *
    have HI := Lib.hid (ownK_read ho (by omega))
    have HO4 := Lib.hid ho
    obtain ⟨⟨_, k0⟩, _, _, _⟩ := HX4.out
    clear ho HOW HOW2 HB1 HX1 HST hz1'
    go_wp2_with fail
    refine (impl_screenOf _ _ l nx _ HU4.out HI.out hm HE4.out).mono ?_
    rintro e w5 ⟨rfl, hb5⟩
    generalize P.scr l nx = r at *
    obtain ⟨r1, r2⟩ := r
    simp only at hsl
    have HX5 := Lib.hid (HX4.out.below hb5); have HB5 := Lib.hid (R.out.2.trans (hb5.mono hz4)); have HO5 := Lib.hid (own_kept HO4.out hb5 (Nat.le_refl _))
    have hz5 := hb5.size
    clear hb5 k0
    cases r2
    · obtain ⟨_, ⟨_, k1, k2, _⟩, ⟨_, k3, k4, k7, k8⟩, ⟨_, k5, k6, k9, k10⟩⟩ := HX5.out
      go_wp2
      refine bodyPost_ret (v := .tuple #[transV (.slice none 0 0) [], editV (0, []), .bool false]) (by simp [transV, editV, k3, k4, k5, k6, results, Tryz.results62, go_sem]) rfl ⟨.slice none 0 0, by rw [HN.out]; rfl, by rw [HN.out]; exact World.ownsRow_nil _ _ _ _, ?_⟩
      exact (((((HB0.out.trans (HB5.out.mono HB0.out.size)).setCell (by simp <;> omega) _).setCell (by simp <;> omega) _).setCell (by simp <;> omega) _).setCell (by simp <;> omega) _)
    · obtain ⟨_, ⟨_, k1, k2, _⟩, _, _⟩ := HX5.out
      go_wp2_with fail
      refine (leastEdit t r1 _ ht (by omega)).mono ?_
      rintro e w6 ⟨rfl, hb6⟩
      have HX6 := Lib.hid (HX5.out.below hb6); have HB6 := Lib.hid (HB5.out.trans (hb6.mono (Nat.le_trans hz4 hz5))); have HO6 := Lib.hid (own_kept HO5.out hb6 (Nat.le_refl _))
      clear hb6 k1 k2
      obtain ⟨_, _, ⟨_, k3, k4, k7, k8⟩, ⟨_, k5, k6, k9, k10⟩⟩ := HX6.out
      have hzz := HZ0.out
      go_wp2
      refine bodyPost_ret (v := .tuple #[transV (.slice a nx.length c) r1, editV (P.least t r1), .bool true]) (by simp [transV, editV, k3, k4, k5, k6, results, Tryz.results62, go_sem]) rfl ⟨.slice a nx.length c, by rw [HN.out]; rfl, ?_, ?_⟩
      · rw [HN.out]
        exact own_base (ownsRow_setCell_below (ownsRow_setCell_below (ownsRow_setCell_below (ownsRow_setCell_below HO6.out (by simp <;> omega) _) (by simp <;> omega) _) (by simp <;> omega) _) (by simp <;> omega) _) (by omega)
      · exact (((((HB0.out.trans (HB6.out.mono HB0.out.size)).setCell (by simp <;> omega) _).setCell (by simp <;> omega) _).setCell (by simp <;> omega) _).setCell (by simp <;> omega) _)
end Go.Proofs.YtmlklnimoknojaaGreatDoor

namespace Go.Proofs.YtmlklnimoknojaaGreatDoor
open Go Go.RowKit
set_option maxHeartbeats 2000000
set_option maxRecDepth 100000
theorem impl_press (dv sv : Value) (l : P.Dic) (st : List Int) (t : Str) (k : Int) (w : World) (hu : EntR w dv l) (hs : IntR w sv st) (hm : Small l) (hE : Env w) (hst : st.length ≤ 2 ^ 20) (ht : t.length ≤ 2 ^ 30) :
    Calls Tryz.prog 38 #[.agg #[dv], transV sv t, .int .i64 k] w (PressPost (P.press l (st, t) k) w) := by
  obtain ⟨W0, hW0⟩ : ∃ v, ((((w.alloc (.cells #[dv] 26)).alloc (.cells #[sv, .string (S t)] 32)).alloc (.cells #[.slice none 0 0, .string (S [])] 32)).alloc (.cells #[.int .i64 0, .string (S [])] 38)) = v := ⟨_, rfl⟩
  have hb0 : Below w.heap.size w W0 := by rw [← hW0]; exact ((((Below.refl w.heap.size w).alloc (Nat.le_refl _) _).alloc (by simp) _).alloc (by simp; omega) _).alloc (by simp; omega) _
  have hz0' : W0.heap.size = w.heap.size + 4 := by rw [← hW0]; simp
  have hx0 : PrBx w.heap.size sv t dv W0 := by
    subst hW0
    refine ⟨⟨by simp <;> omega, by go_simp⟩, ⟨by simp <;> omega, by go_simp, by go_simp, by go_simp, by go_simp⟩, ⟨by simp <;> omega, by go_simp, by go_simp, by go_simp, by go_simp⟩, ⟨by simp, by go_simp, by go_simp, by go_simp, by go_simp⟩⟩
  have HU := Lib.hid (hu.below hb0); have HST := Lib.hid (hs.below hb0); have HB0 := Lib.hid hb0; have HE := Lib.hid (hE.below hb0 hE.size)
  have HX := Lib.hid hx0; have HZ0 := Lib.hid hz0'
  clear hb0 hz0'
  obtain ⟨ad, cap, rfl, _, _⟩ := hu
  obtain ⟨sd, sc, rfl, _, _⟩ := hs
  unfold transV
  go_enter Tryz.func38, Tryz.ntmps38
  go_upto_region 1 with (fail)
  try rw [hW0]
  clear hW0
  obtain ⟨⟨_, k0⟩, ⟨k1, k2, k3, _⟩, _, _⟩ := hx0
  go_wp2_with fail
  refine (impl_isValidTranslator _ _ l st t _ HU.out HST.out hm HE.out).mono ?_
  rintro e w1 ⟨rfl, hb⟩
  have HB1 := Lib.hid hb; have HX1 := Lib.hid (HX.out.below hb); have HST1 := Lib.hid (HST.out.below hb); have HU1 := Lib.hid (HU.out.below hb); have HE1 := Lib.hid (HE.out.below hb HE.out.size)
  clear hb k0 k1 k2 k3
  obtain ⟨⟨_, k0⟩, ⟨_, k1, k2, _, _⟩, ⟨_, k3, k4, k7, k8⟩, ⟨_, k5, k6, k9, k10⟩⟩ := HX1.out
  have HP := Lib.hid (show P.press l (st, t) k = if P.trans l (st, t) && P.stroke k then P.pressP l (st, t) k else ((P.tr0, (0, [])), false) from rfl)
  generalize P.trans l (st, t) = q at *
  cases q
  · go_wp2
    refine bodyPost_ret (v := .tuple #[transV (.slice none 0 0) [], editV (0, []), .bool false]) (by simp [transV, editV, k3, k4, k5, k6, results, Tryz.results38, go_sem]) rfl ⟨.slice none 0 0, by rw [HP.out]; rfl, by rw [HP.out]; exact World.ownsRow_nil _ _ _ _, ?_⟩
    exact (((((HB0.out.trans (HB1.out.mono HB0.out.size)).setCell (by simp <;> omega) _).setCell (by simp <;> omega) _).setCell (by simp <;> omega) _).setCell (by simp <;> omega) _)
  · go_wp2_with fail
    refine (isValidStroke _ _).mono ?_
    rintro e w2 ⟨rfl, rfl⟩
    generalize P.stroke k = q at *
    cases q
    · go_wp2
      refine bodyPost_ret (v := .tuple #[transV (.slice none 0 0) [], editV (0, []), .bool false]) (by simp [transV, editV, k3, k4, k5, k6, results, Tryz.results38, go_sem]) rfl ⟨.slice none 0 0, by rw [HP.out]; rfl, by rw [HP.out]; exact World.ownsRow_nil _ _ _ _, ?_⟩
      exact (((((HB0.out.trans (HB1.out.mono HB0.out.size)).setCell (by simp <;> omega) _).setCell (by simp <;> omega) _).setCell (by simp <;> omega) _).setCell (by simp <;> omega) _)
    · go_wp2_with fail
      refine (press _ _ l st t k _ HU1.out HST1.out hm HE1.out hst ht).mono ?_
      rintro e w3 ⟨u, rfl, ho, hb⟩
      rw [Bool.and_self, if_pos rfl] at HP
      have HX3 := Lib.hid (HX1.out.below hb); have HO := Lib.hid ho; have HB3 := Lib.hid (HB0.out.trans ((HB1.out.trans (hb.mono HB1.out.size)).mono HB0.out.size))
      have hzz : w.heap.size + 4 ≤ w1.heap.size := by have h1 := HB1.out.size; have h2 := HZ0.out; omega
      generalize P.pressP l (st, t) k = r at *
      obtain ⟨⟨⟨nx, r1⟩, ed⟩, ok⟩ := r
      simp only at ho HO ⊢
      obtain ⟨va, vc, rfl⟩ := ownK_form ho
      clear ho hb k0 k1 k2 k3 k4 k5 k6 k7 k8 k9 k10
      obtain ⟨_, _, ⟨_, k3, k4, k7, k8⟩, ⟨_, k5, k6, k9, k10⟩⟩ := HX3.out
      unfold transV editV
      go_wp2
      refine bodyPost_ret (v := .tuple #[transV (.slice va nx.length vc) r1, editV ed, .bool ok]) (by simp [transV, editV, k3, k4, k5, k6, results, Tryz.results38, go_sem]) rfl ⟨.slice va nx.length vc, by rw [HP.out], ?_, ?_⟩
      · rw [HP.out]
        exact own_base (ownsRow_setCell_below (ownsRow_setCell_below (ownsRow_setCell_below (ownsRow_setCell_below HO.out (by simp <;> omega) _) (by simp <;> omega) _) (by simp <;> omega) _) (by simp <;> omega) _) (by omega)
      · exact ((((HB3.out.setCell (by simp <;> omega) _).setCell (by simp <;> omega) _).setCell (by simp <;> omega) _).setCell (by simp <;> omega) _)
end Go.Proofs.YtmlklnimoknojaaGreatDoor
